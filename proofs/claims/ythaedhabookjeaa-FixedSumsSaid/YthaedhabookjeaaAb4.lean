/-
  One operation: sound. And what it may name.
-/
import Derived.Test.YthaedhabookjeaaAb3
set_option linter.unusedVariables false
set_option linter.unusedSimpArgs false
namespace Go.Ab
open Go Go.RowKit
section
variable {P : Program} {G : Env} {o : Oper} {e : Operand → Value} {lk : Lk} {r : Res} {a : Act} {ι : Nm} {N : Nat} {w0 w : World}

theorem wp_skip_op {K : Act → World → Prop} {Q : Exit → Act → World → Prop} {w' : World} (h : (execOp a.eval o).run P w = .ok .skip w') (hK : K (a.put o.dst undef) w') : o.wp P a w K Q := by
  unfold Oper.wp; rw [h, Oper.upon_skip]; exact hK
theorem wp_value' {K : Act → World → Prop} {Q : Exit → Act → World → Prop} {v : Value} {w' : World} (h : (execOp a.eval o).run P w = .ok (.value v) w') (hK : K (a.put o.dst v) w') : o.wp P a w K Q := by
  unfold Oper.wp; rw [h, Oper.upon_value]; exact hK

theorem run_value {s : Sem Value} {v : Value} {w w' : World} (h : s.run P w = .ok v w') : (do pure (.value (← s)) : Sem Next).run P w = .ok (.value v) w' := by
  simp only [Sem.run_bind, h, Result.andThen_ok]; rfl

theorem ids_ren_map {l : List Value} {ι ι' : Nm} {id : Nat} (h : ∀ k, k ≠ id → ι' k = ι k) (hn : id ∉ idsL l) : l.map (ren ι') = l.map (ren ι) :=
  renMap_congr fun k hk => h k fun e => hn (e ▸ hk)
theorem ren_of {v : Value} {ι ι' : Nm} {id : Nat} (h : ∀ k, k ≠ id → ι' k = ι k) (hn : id ∉ ids v) : ren ι' v = ren ι v :=
  ren_congr fun k hk => h k fun e => hn (e ▸ hk)

/-- A new block. -/
theorem wp_new {id : Nat} (hm : RelM N w0 lk ι w) (hid : ∀ k b, lk k = some b → k ≠ id ∧ id ∉ idsL b.c) {b : Blk} (ho : b.own = true) (hb : id ∉ idsL b.c)
    {K : Act → World → Prop} {Q : Exit → Act → World → Prop} {v : Value} {rv : Value}
    (hr : (execOp a.eval o).run P w = .ok (.value rv) (w.alloc (.cells ⟨b.c.map (ren ι)⟩ b.ty))) (hrv : ren (ι.upd id (w.heap.size, 0)) v = rv)
    (hK : ∀ ι' w', (∀ k, k ≠ id → ι' k = ι k) → RelM N w0 (lk.upd id b) ι' w' → K (a.put o.dst (ren ι' v)) w') : o.wp P a w K Q := by
  refine wp_value' hr ?_
  rw [← hrv]
  exact hK _ _ (fun k hk => by simp [Nm.upd, hk]) (hm.new hid ho hb)

theorem plain_cells {z : Value} (h : plain z = true) (ι : Nm) : z.cells.toList.map (ren ι) = z.cells.toList := by
  have h1 : idsL z.cells.toList = [] := by rw [idsL_cells]; exact ids_plain h
  have := renMap_congr (ι := ι) (ι' := ι) (l := z.cells.toList) (fun _ _ => rfl)
  cases z with
  | agg c => obtain ⟨l⟩ := c; simpa [Value.cells, renL_eq] using renL_plain ι (l := l) (by simpa [plain] using h)
  | pointer p => cases p <;> simp [Value.cells, ren_plain ι h]
  | slice p l c => cases p <;> simp [Value.cells, ren_plain ι h]
  | tuple c => simp [Value.cells, ren_plain ι h]
  | func f a b => simp [Value.cells, ren_plain ι h]
  | iface t v => simp [Value.cells, ren_plain ι h]
  | _ => simp [Value.cells, ren]

theorem eqF_sound (d : Nat) {l q : List Value} : ∀ {fs : List Field} {r : Bool}, eqF P l q fs = some r → (Op.eqFields (d + 1) ⟨l⟩ ⟨q⟩ fs).run P w = .ok r w
  | [], r, h => by
    simp only [eqF, Option.some.injEq] at h
    subst h
    simp [Op.eqFields]
  | f :: fs, r, h => by
    have pt : ∀ {c : List Value} {u : Value} {dd : TypeDesc}, P.underlying f.type = some dd → isAggD dd = false → c[f.offset]? = some u → (part f.type ⟨c⟩ f.offset).run P w = .ok u w := fun {c u dd} hd ha hc => by
      have := isAgg_of (P := P) hd w
      rw [ha] at this
      simp [part, this, hc]
    simp only [eqF] at h
    split at h
    · rename_i hn
      have hn' : f.name = "_" := by simpa using hn
      simp only [Op.eqFields, hn', ne_eq, not_true_eq_false, if_false]
      exact eqF_sound d h
    · rename_i hn
      have hn' : f.name ≠ "_" := by simpa using hn
      simp only [Op.eqFields, hn', ne_eq, not_false_eq_true, if_true, Sem.run_bind]
      split at h
      · rename_i kd k a k' b hd h1 h2
        split at h
        · rename_i qq hk hr
          cases h
          have hk' : k = k' := by simpa using hk
          subst hk'
          rw [pt hd rfl h1]
          simp only [Result.andThen_ok]
          rw [pt hd rfl h2]
          simp only [Result.andThen_ok]
          rw [run_equalIn_int w d f.type k kd a b hd]
          simp only [Result.andThen_ok]
          cases hab : (a == b)
          · simp
          · simp [eqF_sound d hr]
        · cases h
      · rename_i a b hd h1 h2
        split at h
        · rename_i qq hr
          cases h
          rw [pt hd rfl h1]
          simp only [Result.andThen_ok]
          rw [pt hd rfl h2]
          simp only [Result.andThen_ok]
          rw [run_equalIn_bool' w d f.type a b hd]
          simp only [Result.andThen_ok]
          cases hab : (a == b)
          · simp
          · simp [eqF_sound d hr]
        · cases h
      · rename_i a b hd h1 h2
        split at h
        · rename_i qq hr
          cases h
          rw [pt hd rfl h1]
          simp only [Result.andThen_ok]
          rw [pt hd rfl h2]
          simp only [Result.andThen_ok]
          rw [run_equalIn_string w d f.type a b hd]
          simp only [Result.andThen_ok]
          cases hab : (a.toList == b.toList)
          · simp
          · simp [eqF_sound d hr]
        · cases h
      · cases h

theorem eqF_ren : ∀ {l q : List Value} {fs : List Field} {r : Bool}, eqF P l q fs = some r → eqF P (l.map (ren ι)) (q.map (ren ι)) fs = some r
  | l, q, [], r, h => by simpa [eqF] using h
  | l, q, f :: fs, r, h => by
    have gt : ∀ {c : List Value} {u : Value} (i : Nat), c[i]? = some u → plain u = true → (c.map (ren ι))[i]? = some u := fun {c u} i hc hp => by
      rw [List.getElem?_map, hc]; simp [ren_plain ι hp]
    simp only [eqF] at h ⊢
    split at h
    · rename_i hn
      exact eqF_ren h
    · rename_i hn
      split at h
      · rename_i kd k a k' b hd h1 h2
        split at h
        · rename_i qq hk hr
          cases h
          rw [hd, gt _ h1 rfl, gt _ h2 rfl]
          simp only [hk, eqF_ren hr]
        · cases h
      · rename_i a b hd h1 h2
        split at h
        · rename_i qq hr
          cases h
          rw [hd, gt _ h1 rfl, gt _ h2 rfl]
          simp only [eqF_ren hr]
        · cases h
      · rename_i a b hd h1 h2
        split at h
        · rename_i qq hr
          cases h
          rw [hd, gt _ h1 rfl, gt _ h2 rfl]
          simp only [eqF_ren hr]
        · cases h
      · cases h

theorem eqAgg_sound {t : TypeId} {l q : List Value} {r : Bool} (h : eqAgg P t l q = some r) (op : BinOp) (x y : Operand) :
    (eqGuard op t x y (ren ι (.agg ⟨l⟩)) (ren ι (.agg ⟨q⟩))).run P w = .ok () w ∧ (Op.equalIn 10000 t (ren ι (.agg ⟨l⟩)) (ren ι (.agg ⟨q⟩))).run P w = .ok r w := by
  unfold eqAgg at h
  split at h
  · rename_i fs hd hs hg
    have hfo : P.fieldsOf t = fs := by simp [Program.fieldsOf, hd]
    simp only [ren, renL_eq]
    refine ⟨run_eqGuard_agg w op t x y _ _ hg, ?_⟩
    rw [run_equalIn_struct w 9999 t _ _ (by rw [hfo]; exact hd) hs, hfo]
    exact eqF_sound 9998 (eqF_ren h)
  · cases h

theorem binR_sound {id : Nat} {op : BinOp} {xt yt : TypeId} {x y : Operand} (hop : o.op = .binOp op xt x y yt) (h : binR P o e op xt x y = some (true, r)) (he : ∀ x ∈ o.op.operands, a.eval x = ren ι (e x)) (hm : RelM N w0 lk ι w)
    {K : Act → World → Prop} {Q : Exit → Act → World → Prop}
    (hK : ∀ ι' w', (∀ k, k ≠ id → ι' k = ι k) → RelM N w0 (applyM id r lk) ι' w' → K (a.put o.dst (ren ι' (resV id r))) w') : o.wp P a w K Q := by
  have hx : a.eval x = ren ι (e x) := he x (by simp [hop, Op.operands])
  have hy : a.eval y = ren ι (e y) := he y (by simp [hop, Op.operands])
  have hs : ∀ cs b, o.op ≠ .select cs b := fun cs b => by rw [hop]; simp
  unfold binR at h
  split at h
  · rename_i k u k' v hu hv
    split at h
    · rename_i hk
      simp only [Option.some.injEq, Prod.mk.injEq, decide_eq_true_eq] at h
      obtain ⟨hne, rfl⟩ := h
      have hk' : k = k' := by simpa using hk
      refine wp_value (v := .int k (k.wrap (u.tdiv v))) ?_ (by have := hK ι w (fun _ _ => rfl) hm; simpa only [resV, ren] using this)
      simp only [execOp, hop, hx, hy, hu, hv, ren, eqGuard, binOp, ← hk']
      simp [Op.intDiv, hne]
    · cases h
  · rename_i k u k' v hu hv
    split at h
    · rename_i hk
      simp only [Option.some.injEq, Prod.mk.injEq, decide_eq_true_eq] at h
      obtain ⟨hne, rfl⟩ := h
      have hk' : k = k' := by simpa using hk
      refine wp_value (v := .int k (u.tmod v)) ?_ (by have := hK ι w (fun _ _ => rfl) hm; simpa only [resV, ren] using this)
      simp only [execOp, hop, hx, hy, hu, hv, ren, eqGuard, binOp, ← hk']
      simp [Op.intDiv, hne]
    · cases h
  · rename_i k u k' v hu hv
    simp only [Option.some.injEq, Prod.mk.injEq, decide_eq_true_eq] at h
    obtain ⟨hne, rfl⟩ := h
    refine wp_value (v := .int k (k.wrap (u * 2 ^ min v.toNat k.bits))) ?_ (by have := hK ι w (fun _ _ => rfl) hm; simpa only [resV, ren] using this)
    have hne' : ¬ v < 0 := by omega
    simp only [execOp, hop, hx, hy, hu, hv, ren, eqGuard, binOp]
    simp [Op.shift, hne']
  · rename_i k u k' v hu hv
    simp only [Option.some.injEq, Prod.mk.injEq, decide_eq_true_eq] at h
    obtain ⟨hne, rfl⟩ := h
    refine wp_value (v := .int k (u.fdiv (2 ^ min v.toNat k.bits))) ?_ (by have := hK ι w (fun _ _ => rfl) hm; simpa only [resV, ren] using this)
    have hne' : ¬ v < 0 := by omega
    simp only [execOp, hop, hx, hy, hu, hv, ren, eqGuard, binOp]
    simp [Op.shift, hne']
  · rename_i u v hu hv
    simp only [Option.some.injEq, Prod.mk.injEq, decide_eq_true_eq] at h
    obtain ⟨hne, rfl⟩ := h
    refine wp_value (v := .string (u ++ v)) ?_ (by have := hK ι w (fun _ _ => rfl) hm; simpa only [resV, ren] using this)
    have hne' : ¬ (((u.size + v.size : Nat) : Int) > IntKind.i64.max) := by omega
    simp only [execOp, hop, hx, hy, hu, hv, ren, eqGuard, binOp, Op.stringOp]
    rw [if_neg hne']
    simp
  · rename_i l q hu hv
    split at h
    · rename_i bb hb
      simp only [Option.some.injEq, Prod.mk.injEq, true_and] at h
      subst h
      obtain ⟨h1, h2⟩ := eqAgg_sound (ι := ι) (w := w) hb .eql x y
      refine wp_value (v := .bool bb) ?_ (by have := hK ι w (fun _ _ => rfl) hm; simpa only [resV, ren] using this)
      simp only [execOp, hop, hx, hy, hu, hv, Sem.run_bind, h1, Result.andThen_ok]
      simp only [ren] at h2 ⊢
      rw [run_eql_struct, h2]
      simp
    · cases h
  · rename_i l q hu hv
    split at h
    · rename_i bb hb
      simp only [Option.some.injEq, Prod.mk.injEq, true_and] at h
      subst h
      obtain ⟨h1, h2⟩ := eqAgg_sound (ι := ι) (w := w) hb .neq x y
      refine wp_value (v := .bool !bb) ?_ (by have := hK ι w (fun _ _ => rfl) hm; simpa only [resV, ren] using this)
      simp only [execOp, hop, hx, hy, hu, hv, Sem.run_bind, h1, Result.andThen_ok]
      simp only [ren] at h2 ⊢
      rw [run_neq_struct, h2]
      simp
    · cases h
  · exact generic_wp (id := id) hs h he hm hK

theorem run_callFunc {f : FuncId} (hc : Callable P f) (args : Array Value) : (callFunc f args).run P w = .ok (.enter f args) w := by
  obtain ⟨fn, hf, hn, hb⟩ := hc
  have hp : (program).run P w = .ok P w := rfl
  simp only [callFunc, Sem.run_bind, hp, Result.andThen_ok, hf, hn, hb, Bool.false_eq_true, if_false]
  rfl

theorem callR_sound (hG : EnvPure P G) {id : Nat} {c : Call} (hop : o.op = .call c) (h : callR P G o e lk c = some (true, r)) (he : ∀ x ∈ o.op.operands, a.eval x = ren ι (e x)) (hm : RelM N w0 lk ι w)
    {K : Act → World → Prop} {Q : Exit → Act → World → Prop}
    (hK : ∀ ι' w', (∀ k, k ≠ id → ι' k = ι k) → RelM N w0 (applyM id r lk) ι' w' → K (a.put o.dst (ren ι' (resV id r))) w') : o.wp P a w K Q := by
  have hs : ∀ cs b, o.op ≠ .select cs b := fun cs b => by rw [hop]; simp
  have hargs : ∀ x ∈ c.args, a.eval x = ren ι (e x) := fun x hx => he x (by simp [hop, Op.operands, Call.operands, hx])
  obtain ⟨cal, args, tys⟩ := c
  unfold callR at h
  simp only at h hargs
  split at h
  · rename_i x
    have hxe : a.eval x = ren ι (e x) := he x (by simp [hop, Op.operands, Call.operands])
    split at h
    · rename_i f first captured hfv
      split at h
      · rename_i s hs'
        split at h
        · rename_i bb v hv
          split at h
          · rename_i hpl
            simp only [Option.some.injEq, Prod.mk.injEq] at h
            obtain ⟨rfl, rfl⟩ := h
            obtain ⟨hcal, hcon⟩ := hG f s hs'
            have hmap : args.map a.eval = ((args.toList.map e).map (ren ι)).toArray := by
              apply Array.toList_inj.1
              simp only [Array.toList_map, List.map_map]
              exact List.map_congr_left fun x hx => by simpa using hargs x (by simpa using hx)
            have hrun : (execOp a.eval o).run P w = .ok (.enter f ((first ++ args.toList.map e ++ captured).map (ren ι)).toArray) w := by
              simp only [execOp, hop, resolve, Sem.run_bind, hxe, hfv, ren, Deferred.ofValue]
              simp only [Sem.run_pure, Result.andThen_ok, invoke, hmap]
              rw [run_callFunc hcal]
              simp [renL_eq]
            unfold Oper.wp
            rw [hrun, Oper.upon_enter]
            refine (hcon _ v N w0 lk ι w hm hv hpl).mono fun e' w' ⟨he', hb⟩ => ?_
            subst he'
            have := hK ι w' (fun _ _ => rfl) (hm.grow hb)
            simpa only [resV, ren_plain ι hpl] using this
          · cases h
        · cases h
      · cases h
    · cases h
  · -- len
    split at h
    · rename_i x t hx ht
      split at h
      · rename_i ad n cp hv
        split at h
        · rename_i el hd
          simp only [Option.some.injEq, Prod.mk.injEq, true_and] at h
          subst h
          obtain rfl : args = #[x] := by apply Array.toList_inj.1; simpa using hx
          obtain rfl : tys = #[t] := by apply Array.toList_inj.1; simpa using ht
          have hxe := hargs x (by simp)
          have hren : ∃ ad', ren ι (e x) = .slice ad' n cp := by
            rw [hv]
            cases ad with
            | none => exact ⟨none, by simp [ren]⟩
            | some q => exact ⟨some (ren1 ι q), by simp [ren]⟩
          obtain ⟨ad', had⟩ := hren
          refine wp_value (v := .int .i64 n) ?_ (by have := hK ι w (fun _ _ => rfl) hm; simpa only [resV, ren] using this)
          simp only [execOp, hop, resolve, Sem.run_bind, Sem.run_pure, Result.andThen_ok, invoke, builtin, Builtin.len_]
          simp [run_underlying hd, hxe, had, goInt]
        · cases h
      · exact generic_wp (id := id) hs h he hm hK
    · cases h
  · split at h
    · rename_i x y hx
      split at h
      · rename_i k u k' v hu hv
        simp only [Option.some.injEq, Prod.mk.injEq, true_and] at h
        subst h
        obtain rfl : args = #[x, y] := by apply Array.toList_inj.1; simpa using hx
        have hxe := hargs x (by simp)
        have hye := hargs y (by simp)
        refine wp_value (v := .int k (imax u v)) ?_ (by have := hK ι w (fun _ _ => rfl) hm; simpa only [resV, ren] using this)
        simp only [execOp, hop, resolve, Sem.run_bind, Sem.run_pure, Result.andThen_ok, invoke, builtin, Builtin.max_]
        simp [hxe, hye, hu, hv, ren, Builtin.max2, imax]
      · cases h
    · exact generic_wp (id := id) hs h he hm hK
  · split at h
    · rename_i x y hx
      split at h
      · rename_i k u k' v hu hv
        simp only [Option.some.injEq, Prod.mk.injEq, true_and] at h
        subst h
        obtain rfl : args = #[x, y] := by apply Array.toList_inj.1; simpa using hx
        have hxe := hargs x (by simp)
        have hye := hargs y (by simp)
        refine wp_value (v := .int k (imin u v)) ?_ (by have := hK ι w (fun _ _ => rfl) hm; simpa only [resV, ren] using this)
        simp only [execOp, hop, resolve, Sem.run_bind, Sem.run_pure, Result.andThen_ok, invoke, builtin, Builtin.min_]
        simp [hxe, hye, hu, hv, ren, Builtin.min2, imin]
      · cases h
    · exact generic_wp (id := id) hs h he hm hK
  · exact generic_wp (id := id) hs h he hm hK
  · cases h

/-- ONE OPERATION. -/
theorem aop_sound (hG : EnvPure P G) (h : aop P G o e lk = some (true, r)) (he : ∀ x ∈ o.op.operands, a.eval x = ren ι (e x)) (hm : RelM N w0 lk ι w)
    {id : Nat} (hid : ∀ k b, lk k = some b → k ≠ id ∧ id ∉ idsL b.c) (hopd : ∀ x ∈ o.op.operands, id ∉ ids (e x))
    {K : Act → World → Prop} {Q : Exit → Act → World → Prop}
    (hK : ∀ ι' w', (∀ k, k ≠ id → ι' k = ι k) → RelM N w0 (applyM id r lk) ι' w' → K (a.put o.dst (ren ι' (resV id r))) w') : o.wp P a w K Q := by
  have same : ∀ {v : Value}, r = .val v → (execOp a.eval o).run P w = .ok (.value (ren ι v)) w → o.wp P a w K Q := fun {v} hv hr => by
    subst hv
    exact wp_value hr (hK ι w (fun _ _ => rfl) hm)
  have same' : ∀ {t x ix}, o.op = .indexAddr t x ix → indexAddrR P e t x ix = some (true, r) → o.wp P a w K Q := fun {t x ix} hop h => by
    have hx := he x (by simp [hop, Op.operands])
    have hix := he ix (by simp [hop, Op.operands])
    unfold indexAddrR at h
    split at h
    · rename_i len el kk i hd hi
      split at h
      · rename_i k off sp ti ho hti
        simp only [Option.some.injEq, Prod.mk.injEq, decide_eq_true_eq] at h
        obtain ⟨hb, h⟩ := h
        have hs := own?_some ho
        refine same h.symm ?_
        have hsz : (sizeOf el).run P w = .ok ti.size w := by simp [sizeOf, typeInfo, hti]
        simp only [execOp, hop, hx, hix, hi, hs, ren_own, ren, Instr.indexAt, asIntOf, Sem.run_bind, Sem.run_pure, Result.andThen_ok, run_underlying hd, Instr.sureAddr]
        rw [if_pos hb]
        simp only [Sem.run_bind, hsz, Result.andThen_ok, Sem.run_pure, cell_add, ren_optr]
      · cases h
    · rename_i el ad len cap kk i hd hxv hi
      split at h
      · rename_i s ti hsp hti
        simp only [Option.some.injEq, Prod.mk.injEq, decide_eq_true_eq] at h
        obtain ⟨hb, h⟩ := h
        refine same h.symm ?_
        have hsz : (sizeOf el).run P w = .ok ti.size w := by simp [sizeOf, typeInfo, hti]
        simp only [execOp, hop, hx, hix, hi, hxv, ren, ren1, hsp, Instr.indexAt, asIntOf, Sem.run_bind, Sem.run_pure, Result.andThen_ok, run_underlying hd]
        rw [if_pos hb]
        simp only [Sem.run_bind, hsz, Result.andThen_ok, Sem.run_pure, cell_add, ren_optr]
      · cases h
    · cases h
  have same'' : ∀ {t x ix}, o.op = .index t x ix → indexR P e t x ix = some (true, r) → o.wp P a w K Q := fun {t x ix} hop h => by
    have hx := he x (by simp [hop, Op.operands])
    have hix := he ix (by simp [hop, Op.operands])
    unfold indexR at h
    split at h
    · rename_i len el l kk i hd hxv hi
      split at h
      · rename_i d ti hel hti
        split at h
        · rename_i z hag hsz1 hz
          split at h
          · rename_i c v hv
            simp only [Option.some.injEq, Prod.mk.injEq, Bool.and_eq_true, decide_eq_true_eq] at h
            obtain ⟨⟨hb, rfl⟩, h⟩ := h
            obtain ⟨g1, g2, _⟩ := typed1_spec hv
            refine same h.symm ?_
            have hsz : (sizeOf el).run P w = .ok ti.size w := by simp [sizeOf, typeInfo, hti]
            have e1 : ti.size = 1 := Nat.eq_of_beq_eq_true hsz1
            have ha := isAgg_of (P := P) hel w
            rw [hag] at ha
            have hg : (l.map (ren ι))[i.toNat]? = some (ren ι v) := by rw [List.getElem?_map, g1]; rfl
            simp only [execOp, hop, hx, hix, hi, hxv, ren, renL_eq, Instr.index, asIntOf, Sem.run_bind, Sem.run_pure, Result.andThen_ok, run_underlying hd]
            rw [if_pos hb]
            simp only [Sem.run_bind, hsz, Result.andThen_ok, part, ha, Bool.false_eq_true, if_false, e1, Nat.mul_one]
            simp [hg]
          · cases h
        · cases h
      · cases h
    · rename_i sv kk i hd hxv hi
      simp only [Option.some.injEq, Prod.mk.injEq, decide_eq_true_eq] at h
      obtain ⟨hb, h⟩ := h
      refine same h.symm ?_
      have hlt : i.toNat < sv.size := by omega
      have hg : sv[i.toNat]? = some sv[i.toNat] := by simp [hlt]
      have hbt : byteAt sv i.toNat = ((sv[i.toNat]).toNat : Int) := by
        have h2 : sv.data.toList[i.toNat]? = some sv[i.toNat] := by
          rw [Array.getElem?_toList]
          have : i.toNat < sv.data.size := hlt
          rw [Array.getElem?_eq_getElem this]
          rfl
        simp [byteAt, h2]
      simp only [execOp, hop, hx, hix, hi, hxv, ren, Instr.index, asIntOf, Sem.run_bind, Sem.run_pure, Result.andThen_ok, run_underlying hd]
      rw [if_pos hb.1, hg, hbt]
      simp
    · cases h
  have bs : ∀ {t len parts}, o.op = .buildSlice t len parts → buildSliceR P e t len parts = some (true, r) → o.wp P a w K Q := fun {t len parts} hop h => by
    unfold buildSliceR at h
    split at h
    · rename_i el hd
      split at h
      · rename_i i hi
        split at h
        · rename_i hle hpl
          split at h
          · rename_i zero hz
            split at h
            · rename_i cells hf
              split at h
              · rename_i hp
                simp only [Option.some.injEq, Prod.mk.injEq, true_and] at h
                subst h
                have hpn : cells.toList.map (ren ι) = cells.toList := by rw [← renL_eq]; exact renL_plain ι hp
                refine wp_new hm hid (b := ⟨cells.toList, el, true⟩) rfl (by simp only; rw [ids_plainL hp]; simp) (v := oslc id 0 len len) (rv := .slice (some ⟨w.heap.size, 0, none⟩) len len) ?_ ?_ hK
                · simp only [hpn]
                  have hparts : (parts.map fun (q, x) => (q, a.eval x)) = parts.map fun (q, x) => (q, e x) := Array.map_congr_left fun p hpm => by
                    obtain ⟨q, x⟩ := p
                    have hpx : plain (e x) = true := List.all_eq_true.1 hpl (q, x) (by simpa using hpm)
                    have := he x (by simp only [hop, Op.operands]; simp; exact ⟨q, by simpa using hpm⟩)
                    simp only [this, ren_plain ι hpx]
                  have hle' : ¬ (len * i.size > 2 ^ 24) := by have := Nat.le_of_ble_eq_true hle; omega
                  have hsz : (sizeOf el).run P w = .ok i.size w := by simp [sizeOf, typeInfo, hi]
                  simp only [execOp, hop, hparts, Instr.buildSlice, Sem.run_bind, run_underlying hd, Result.andThen_ok, hsz]
                  rw [if_neg hle']
                  unfold bsZero at hz
                  split at hz
                  · rename_i h0
                    have h00 := Nat.eq_of_beq_eq_true h0
                    cases hz
                    rw [if_pos h00]
                    simp only [Sem.run_bind, Sem.run_pure, Result.andThen_ok, hf, newRow, newObj]
                    rfl
                  · rename_i h0
                    have hne : len * i.size ≠ 0 := fun e0 => by rw [e0] at h0; cases h0
                    split at hz
                    · rename_i z hzz
                      cases hz
                      have hzv : (zeroValue el).run P w = .ok z w := by simp [zeroValue, typeInfo, hi, hzz]
                      rw [if_neg hne]
                      simp only [Sem.run_bind, hzv, Sem.run_pure, Result.andThen_ok, hf, newRow, newObj]
                      rfl
                    · cases hz
                · simp [oslc, ren, ren1, Nm.upd]
              · cases h
            · cases h
          · cases h
        · cases h
      · cases h
    · cases h
  unfold aop at h
  split at h
  · rename_i x hop
    simp only [Option.some.injEq, Prod.mk.injEq, true_and] at h
    exact same h.symm (by rw [← he x (by simp [hop, Op.operands])]; simp [execOp, hop])
  · rename_i x hop
    simp only [Option.some.injEq, Prod.mk.injEq, true_and] at h
    exact same h.symm (by rw [← he x (by simp [hop, Op.operands])]; simp [execOp, hop])
  · rename_i c x y hop
    have hc := he c (by simp [hop, Op.operands])
    split at h
    · rename_i hb
      simp only [Option.some.injEq, Prod.mk.injEq, true_and] at h
      exact same h.symm (by rw [← he x (by simp [hop, Op.operands])]; simp [execOp, hop, hc, hb, ren, asBool])
    · rename_i hb
      simp only [Option.some.injEq, Prod.mk.injEq, true_and] at h
      exact same h.symm (by rw [← he y (by simp [hop, Op.operands])]; simp [execOp, hop, hc, hb, ren, asBool])
    · cases h
  · rename_i t hop
    split at h
    · rename_i i hi
      split at h
      · rename_i z hz
        split at h
        · rename_i hp
          simp only [Option.some.injEq, Prod.mk.injEq, true_and] at h
          subst h
          refine wp_new hm hid (b := ⟨z.cells.toList, t, true⟩) rfl (by rw [idsL_cells, ids_plain hp]; simp) (v := optr id 0 0) (rv := .pointer (some ⟨w.heap.size, 0, none⟩)) ?_ ?_ hK
          · simp only [plain_cells hp]
            simp [execOp, hop, Instr.alloc, zeroValue, typeInfo, hi, hz, newVar, newRow, newObj]
            rfl
          · rw [ren_optr]; simp [Nm.upd]
        · cases h
      · cases h
    · cases h
  · rename_i t x hop
    simp only [Option.some.injEq, Prod.mk.injEq, true_and] at h
    subst h
    have hx := he x (by simp [hop, Op.operands])
    refine wp_new hm hid (b := ⟨(e x).cells.toList, t, true⟩) rfl (by rw [idsL_cells]; exact hopd x (by simp [hop, Op.operands])) (v := optr id 0 0) (rv := .pointer (some ⟨w.heap.size, 0, none⟩)) ?_ ?_ hK
    · simp only [← ren_cells]
      simp [execOp, hop, Instr.box, hx, newVar, newRow, newObj]
      rfl
    · rw [ren_optr]; simp [Nm.upd]
  · rename_i t x hop
    have hx := he x (by simp [hop, Op.operands])
    split at h
    · rename_i k off sp ho
      have hs := own?_some ho
      split at h
      · rename_i b hk
        obtain ⟨v, rfl, _, hr⟩ := loadB_sound hm hk h
        refine same rfl ?_
        simp only [execOp, hop, hx, hs, ren_own, Instr.loadAt, Instr.sureAddr]
        simp [hr]
      · cases h
    · cases h
  · rename_i t x y hop
    have hx := he x (by simp [hop, Op.operands])
    have hy := he y (by simp [hop, Op.operands])
    split at h
    · rename_i k off sp ho
      have hs := own?_some ho
      split at h
      · rename_i b hk
        obtain ⟨b', rfl, h1, h2, h3, hr⟩ := storeB_sound hm hk h
        refine wp_skip_op (w' := w.setRow (ι k).1 ⟨b'.c.map (ren ι)⟩) ?_ ?_
        · simp only [execOp, hop, hx, hy, hs, ren_own, Instr.storeAt, Instr.sureAddr]
          simp [hr]
        · have := hK ι _ (fun _ _ => rfl) (hm.write hk h1 h2 h3)
          simpa [resV, ren, renL, undef] using this
      · cases h
    · cases h
  · rename_i s x f hop
    have hx := he x (by simp [hop, Op.operands])
    split at h
    · rename_i k off sp ho
      have hs := own?_some ho
      split at h
      · rename_i fo hf
        simp only [Option.some.injEq, Prod.mk.injEq, true_and] at h
        refine same h.symm ?_
        have := fieldOff_sound (P := P) (w := w) hf (ι k) off
        simp only [execOp, hop, hx, hs, ren_own]
        simp [this, ren_optr]
      · cases h
    · cases h
  · rename_i x i hop
    have hx := he x (by simp [hop, Op.operands])
    split at h
    · rename_i vs hv
      split at h
      · rename_i v hvi
        simp only [Option.some.injEq, Prod.mk.injEq, true_and] at h
        refine same h.symm ?_
        obtain ⟨l⟩ := vs
        have hvi' : l[i]? = some v := by simpa using hvi
        simp [execOp, hop, hx, hv, ren, Instr.extract, renL_eq, hvi']
      · cases h
    · cases h
  · rename_i op xt x y yt hop
    exact binR_sound (id := id) hop h he hm hK
  · rename_i c hop
    exact callR_sound hG (id := id) hop h he hm hK
  · rename_i t x ix hop
    exact same' hop h
  · rename_i t x ix hop
    exact same'' hop h
  · rename_i t len parts hop
    exact bs hop h
  · rename_i fn first captured hop
    simp only [Option.some.injEq, Prod.mk.injEq, true_and] at h
    refine same h.symm ?_
    have h1 : first.map a.eval = (first.toList.map fun x => ren ι (e x)).toArray := by
      apply Array.toList_inj.1
      simp only [Array.toList_map]
      exact List.map_congr_left fun x hx => he x (by simp [hop, Op.operands]; exact .inl (by simpa using hx))
    have h2 : captured.map a.eval = (captured.toList.map fun x => ren ι (e x)).toArray := by
      apply Array.toList_inj.1
      simp only [Array.toList_map]
      exact List.map_congr_left fun x hx => he x (by simp [hop, Op.operands]; exact .inr (by simpa using hx))
    simp only [execOp, hop, Instr.makeFunc, h1, h2]
    simp [ren, renL_eq, Function.comp_def]
  all_goals first
    | (rename_i hop; exact generic_wp (id := id) (fun cs b => by rw [hop]; simp) h he hm hK)
    | cases h
end
end Go.Ab
