/-
  The run and the laws that serve these rows (part 4)
-/
import Derived.Test.YtpflidodnhbeoaaGreatDoorT3
set_option linter.unusedVariables false
set_option linter.unusedSimpArgs false
section
namespace Go.Cx
open Go Go.Proofs Go.RowKit Go.Extern.Stop Go.Stop Go.Extern
theorem as_nil (t : Value) (w : World) :
  Calls Tryz.prog 100 #[.nilIface, t] w fun e w' => e = .returned (.bool false) ∧ w' = w := by
 go_enter Tryz.func100, Tryz.ntmps100
 go_wp2
 go_ret
 exact ⟨rfl, rfl⟩
theorem a_valueOf121 (t : Addr) (w : World) : (ReflectliteValue.unpack (.iface 121 (.pointer (some t)))).run Tryz.prog w
  = .ok (.agg #[.pointer (some ⟨10, 121, none⟩), .pointer (some ⟨w.heap.size, 0, none⟩), .int .u64 150]) (w.alloc (.cells #[.pointer (some t)] 121)) := by kernel_rfl
theorem a_type121 (a : Addr) (w : World) : (ReflectliteValue.methodAny (ReflectliteValue.valueError "reflectlite.Value.Type" 0) (fun t _ _ _ => ReflectliteType.toType t) #[.agg #[.pointer (some ⟨10, 121, none⟩), .pointer (some a), .int .u64 150]]).run Tryz.prog w
  = .ok (.iface 229 (.agg #[.pointer (some ⟨10, 121, none⟩)])) w := by kernel_rfl
theorem a_kind121 (w : World) : ((ReflectliteType.abiMethod fun t => (fun a : Nat => Value.int IntKind.u8 (a : Int)) <$> Rtype.kind t) #[.pointer (some ⟨10, 121, none⟩)]).run Tryz.prog w = .ok (.int .u8 22) w := by kernel_rfl
theorem a_kind119 (w : World) : ((ReflectliteType.abiMethod fun t => (fun a : Nat => Value.int IntKind.u8 (a : Int)) <$> Rtype.kind t) #[.pointer (some ⟨10, 119, none⟩)]).run Tryz.prog w = .ok (.int .u8 25) w := by kernel_rfl
theorem a_rlm (z : Sem Value) (f : TypeId → Addr → Nat → Nat → Sem Value) (v : Value) :
  ReflectliteValue.method z f #[v] = (do match ← ReflectliteValue.parts v with | none => z | some (t, a, fl) => f t a fl (fl % 32)) := rfl
theorem a_parts121 (a : Addr) (w : World) : (ReflectliteValue.parts (.agg #[.pointer (some ⟨10, 121, none⟩), .pointer (some a), .int .u64 150])).run Tryz.prog w = .ok (some (121, a, 150)) w := by kernel_rfl
theorem a_isNil121 (a p : Addr) (W : World) (ha : W.cell? a = some (.pointer (some p))) :
  (ReflectliteValue.method (ReflectliteValue.valueError "reflectlite.Value.IsNil" 0) ReflectliteValue.isNil #[.agg #[.pointer (some ⟨10, 121, none⟩), .pointer (some a), .int .u64 150]]).run Tryz.prog W = .ok (.bool false) W := by
 rw [a_rlm]
 simp only [Sem.run_bind, a_parts121, Result.andThen]
 simp [ReflectliteValue.isNil, loadVar, isAgg, underlying, Tryz.underlying121, ha, Result.andThen]
theorem a_methodKind (h : Value) (w : World) : (Go.method 421 229 (.agg #[h]) "Kind").run Tryz.prog w = .ok (316, h) w := by kernel_rfl
theorem a_methodElem (h : Value) (w : World) : (Go.method 421 229 (.agg #[h]) "Elem").run Tryz.prog w = .ok (331, .agg #[h]) w := by kernel_rfl
theorem a_methodImplements (h : Value) (w : World) : (Go.method 421 229 (.agg #[h]) "Implements").run Tryz.prog w = .ok (332, .agg #[h]) w := by kernel_rfl
theorem a_methodAssignableTo (h : Value) (w : World) : (Go.method 421 229 (.agg #[h]) "AssignableTo").run Tryz.prog w = .ok (329, .agg #[h]) w := by kernel_rfl
theorem a_elem121 (w : World) : (ReflectliteType.method ReflectliteType.elem #[.agg #[.pointer (some ⟨10, 121, none⟩)]]).run Tryz.prog w = .ok (.iface 229 (.agg #[.pointer (some ⟨10, 119, none⟩)])) w := by kernel_rfl
theorem a_implements119 (w : World) : (ReflectliteType.relation "Implements" ReflectliteType.implements_ #[.agg #[.pointer (some ⟨10, 119, none⟩)], .iface 229 (.agg #[.pointer (some ⟨10, 105, none⟩)])]).run Tryz.prog w = .ok (.bool true) w := by kernel_rfl
theorem a_typeOf119 (v : Value) (w : World) : (ReflectliteType.typeOf #[.iface 119 v]).run Tryz.prog w = .ok (.iface 229 (.agg #[.pointer (some ⟨10, 119, none⟩)])) w := by kernel_rfl
theorem a_assignable119 (w : World) : (ReflectliteType.relation "AssignableTo" ReflectliteType.assignableTo #[.agg #[.pointer (some ⟨10, 119, none⟩)], .iface 229 (.agg #[.pointer (some ⟨10, 119, none⟩)])]).run Tryz.prog w = .ok (.bool true) w := by kernel_rfl
theorem a_valueOf119 (s : ByteArray) (w : World) : (ReflectliteValue.unpack (.iface 119 (.agg #[.string s]))).run Tryz.prog w
  = .ok (.agg #[.pointer (some ⟨10, 119, none⟩), .pointer (some ⟨w.heap.size, 0, none⟩), .int .u64 153]) (w.alloc (.cells #[.string s] 119)) := by kernel_rfl
theorem a_elemOf121 (w : World) : (Rtype.elem? 121).run Tryz.prog w = .ok (some 119) w := by kernel_rfl
theorem a_mk119 (p : Addr) (w : World) : (ReflectliteValue.mk 119 p ReflectliteValue.flagAddr).run Tryz.prog w = .ok (.agg #[.pointer (some ⟨10, 119, none⟩), .pointer (some p), .int .u64 409]) w := by kernel_rfl
theorem a_elemV121 (a p : Addr) (W : World) (ha : W.cell? a = some (.pointer (some p))) :
  (ReflectliteValue.method (ReflectliteValue.valueError "reflectlite.Value.Elem" 0) ReflectliteValue.elem #[.agg #[.pointer (some ⟨10, 121, none⟩), .pointer (some a), .int .u64 150]]).run Tryz.prog W
   = .ok (.agg #[.pointer (some ⟨10, 119, none⟩), .pointer (some p), .int .u64 409]) W := by
 rw [a_rlm]
 simp only [Sem.run_bind, a_parts121, Result.andThen]
 simp [ReflectliteValue.elem, loadVar, isAgg, underlying, Tryz.underlying121, ha, Result.andThen, a_elemOf121, a_mk119]
theorem a_rls (v x : Value) : ReflectliteValue.set #[v, x] = (do
  let (some (dst, a, fl), some (src, b, _)) := (← ReflectliteValue.parts v, ← ReflectliteValue.parts x)
   | unsupported (.noEntry "extern/(internal/reflectlite.Value).Set.zeroValue")
  if fl / ReflectliteValue.flagAddr % 2 == 0 then unsupported (.noEntry "extern/(internal/reflectlite.Value).Set.unaddressable")
  let val ← loadVar src b
  if ← Rtype.directlyAssignable dst src then storeVar dst a val
  else if ← Rtype.implements dst src then
   if (← Rtype.kind src) == 20 then
    match val with
    | .nilIface => unsupported (.noEntry "extern/reflectlite: a nil value of one interface type handed on as a value of another")
    | _ => storeVar dst a val
   else storeVar dst a (.iface src val)
  else panicString ("reflectlite.Set: value of type " ++ (← Rtype.spelt src) ++ " is not assignable to type " ++ (← Rtype.spelt dst))
  pure (.tuple #[])) := rfl
theorem a_parts119a (a : Addr) (w : World) : (ReflectliteValue.parts (.agg #[.pointer (some ⟨10, 119, none⟩), .pointer (some a), .int .u64 409])).run Tryz.prog w = .ok (some (119, a, 409)) w := by kernel_rfl
theorem a_parts119 (a : Addr) (w : World) : (ReflectliteValue.parts (.agg #[.pointer (some ⟨10, 119, none⟩), .pointer (some a), .int .u64 153])).run Tryz.prog w = .ok (some (119, a, 153)) w := by kernel_rfl
theorem a_direct119 (w : World) : (Rtype.directlyAssignable 119 119).run Tryz.prog w = .ok true w := by kernel_rfl
theorem a_size119 (w : World) : (sizeOf 119).run Tryz.prog w = .ok 1 w := by kernel_rfl
theorem a_load119 (b : Addr) (s : ByteArray) (W : World) (hb : W.cell? b = some (.string s)) (hs : b.spot = none) : (loadVar 119 b).run Tryz.prog W = .ok (.agg #[.string s]) W := by
 obtain ⟨bb, bo, bs⟩ := b
 subst hs
 simp [loadVar, isAgg, underlying, Tryz.underlying119, a_size119, loadCells, loadCellsFrom, Addr.add, hb, Result.andThen]
theorem a_set119 (ta b : Addr) (s : ByteArray) (old : Value) (W : World) (hb : W.cell? b = some (.string s)) (hs : b.spot = none) (ht : W.cell? ta = some old) (hts : ta.spot = none) (hf : W.frozen? ta = false) :
  (ReflectliteValue.set #[.agg #[.pointer (some ⟨10, 119, none⟩), .pointer (some ta), .int .u64 409], .agg #[.pointer (some ⟨10, 119, none⟩), .pointer (some b), .int .u64 153]]).run Tryz.prog W
   = .ok (.tuple #[]) (W.setCell ta (.string s)) := by
 obtain ⟨tb, tq, ts⟩ := ta
 subst hts
 rw [a_rls]
 simp only [Sem.run_bind, a_parts119a, a_parts119, Result.andThen]
 have hl := a_load119 b s W hb hs
 have hd := a_direct119 W
 simp [ReflectliteValue.flagAddr, hl, hd, storeVar, Value.cells, storeCells, Addr.add, a_size119, Result.andThen]
 rw [run_store Tryz.prog W ⟨tb, tq, none⟩ _ _ (by rfl)]
 simp [ht, hf]
end Go.Cx
end
section
namespace Go.Cx
open Go Go.Proofs Go.RowKit Go.Extern.Stop Go.Stop Go.Extern Go.Shelf
set_option maxRecDepth 100000 in
set_option maxHeartbeats 4000000 in
theorem as_hit (s : ByteArray) (t : Addr) (old : Value) (w : World) (hg : w.cell? ⟨0, 0, none⟩ = some (.iface 229 (.agg #[.pointer (some ⟨10, 105, none⟩)]))) (hts : t.spot = none) (ht0 : w.cell? t = some old) (hf0 : w.frozen? t = false) :
  Calls Tryz.prog 100 #[.iface 119 (.agg #[.string s]), .iface 121 (.pointer (some t))] w fun ev w' => ev = .returned (.bool true) ∧ w' = ((((w.alloc (.cells #[.pointer (some t)] 121)).alloc (.cells #[.pointer (some ⟨10, 121, none⟩), .pointer (some ⟨w.heap.size, 0, none⟩), .int .u64 150] 187)).alloc (.cells #[.pointer (some ⟨10, 121, none⟩), .pointer (some ⟨w.heap.size, 0, none⟩), .int .u64 150] 187)).alloc (.cells #[.string s] 119)).setCell t (.string s) := by
 have h6 := @run_callFunc_extern Tryz.prog 172 _ (fun args => ReflectliteValue.unpack (args.getD 0 (.tuple #[]))) Tryz.func172 (by kernel_rfl) (by kernel_rfl) (by kernel_rfl) (by kernel_rfl)
 have h7 := @run_callFunc_extern Tryz.prog 173 _ (ReflectliteValue.methodAny (ReflectliteValue.valueError "reflectlite.Value.Type" 0) (fun t _ _ _ => ReflectliteType.toType t)) Tryz.func173 (by kernel_rfl) (by kernel_rfl) (by kernel_rfl) (by kernel_rfl)
 have h8 := @run_callFunc_extern Tryz.prog 174 _ (ReflectliteValue.method (ReflectliteValue.valueError "reflectlite.Value.IsNil" 0) ReflectliteValue.isNil) Tryz.func174 (by kernel_rfl) (by kernel_rfl) (by kernel_rfl) (by kernel_rfl)
 have h27 := @run_callFunc_extern Tryz.prog 316 _ (ReflectliteType.abiMethod fun t => do pure (.int .u8 (← Rtype.kind t))) Tryz.func316 (by kernel_rfl) (by kernel_rfl) (by kernel_rfl) (by kernel_rfl)
 have h37 := @run_callFunc_extern Tryz.prog 331 _ (ReflectliteType.method ReflectliteType.elem) Tryz.func331 (by kernel_rfl) (by kernel_rfl) (by kernel_rfl) (by kernel_rfl)
 have h38 := @run_callFunc_extern Tryz.prog 332 _ (ReflectliteType.relation "Implements" ReflectliteType.implements_) Tryz.func332 (by kernel_rfl) (by kernel_rfl) (by kernel_rfl) (by kernel_rfl)
 have h10 := @run_callFunc_extern Tryz.prog 226 _ ReflectliteType.typeOf Tryz.func226 (by kernel_rfl) (by kernel_rfl) (by kernel_rfl) (by kernel_rfl)
 have h35 := @run_callFunc_extern Tryz.prog 329 _ (ReflectliteType.relation "AssignableTo" ReflectliteType.assignableTo) Tryz.func329 (by kernel_rfl) (by kernel_rfl) (by kernel_rfl) (by kernel_rfl)
 have h11 := @run_callFunc_extern Tryz.prog 227 _ (ReflectliteValue.method (ReflectliteValue.valueError "reflectlite.Value.Elem" 0) ReflectliteValue.elem) Tryz.func227 (by kernel_rfl) (by kernel_rfl) (by kernel_rfl) (by kernel_rfl)
 have h12 := @run_callFunc_extern Tryz.prog 228 _ ReflectliteValue.set Tryz.func228 (by kernel_rfl) (by kernel_rfl) (by kernel_rfl) (by kernel_rfl)
 have tO := a_typeOf119
 have mA := a_methodAssignableTo
 have a25 := a_assignable119
 have v25 := a_valueOf119
 have f6 := a_valueOf121
 have f7 := a_type121
 have mK := a_methodKind
 have mE := a_methodElem
 have mI := a_methodImplements
 have k27 := a_kind121
 have k25 := a_kind119
 have e27 := a_elem121
 have i25 := a_implements119
 have n8 := a_isNil121 ⟨w.heap.size, 0, none⟩ t ((w.alloc (.cells #[.pointer (some t)] 121)).alloc (.cells #[.pointer (some ⟨10, 121, none⟩), .pointer (some ⟨w.heap.size, 0, none⟩), .int .u64 150] 187)) (by simp)
 have hlt : 0 < w.heap.size := by
  rcases Nat.eq_zero_or_pos w.heap.size with h0 | h
  ·simp [World.cell?, h0] at hg
  ·exact h
 have hg2 : ((w.alloc (.cells #[.pointer (some t)] 121)).alloc (.cells #[.pointer (some ⟨10, 121, none⟩), .pointer (some ⟨w.heap.size, 0, none⟩), .int .u64 150] 187)).cell? ⟨0, 0, none⟩ = some (.iface 229 (.agg #[.pointer (some ⟨10, 105, none⟩)])) := by
  rw [World.cell?_alloc_lt _ _ ⟨0, 0, none⟩ (by simp), World.cell?_alloc_lt _ _ ⟨0, 0, none⟩ hlt]; exact hg
 have htl : t.block < w.heap.size := by
  rcases Nat.lt_or_ge t.block w.heap.size with h | h
  ·exact h
  ·simp [World.cell?, Array.getElem?_eq_none h] at ht0
 have el := a_elemV121 ⟨w.heap.size, 0, none⟩ t (((w.alloc (.cells #[.pointer (some t)] 121)).alloc (.cells #[.pointer (some ⟨10, 121, none⟩), .pointer (some ⟨w.heap.size, 0, none⟩), .int .u64 150] 187)).alloc (.cells #[.pointer (some ⟨10, 121, none⟩), .pointer (some ⟨w.heap.size, 0, none⟩), .int .u64 150] 187)) (by rw [World.cell?_alloc_lt _ _ ⟨w.heap.size, 0, none⟩ (by simp; omega)]; simp)
 have st := a_set119 t ⟨w.heap.size + 1 + 1 + 1, 0, none⟩ s old ((((w.alloc (.cells #[.pointer (some t)] 121)).alloc (.cells #[.pointer (some ⟨10, 121, none⟩), .pointer (some ⟨w.heap.size, 0, none⟩), .int .u64 150] 187)).alloc (.cells #[.pointer (some ⟨10, 121, none⟩), .pointer (some ⟨w.heap.size, 0, none⟩), .int .u64 150] 187)).alloc (.cells #[.string s] 119))
  (by rw [World.cell?_alloc_at _ _ _ _ (by simp)]; rfl) rfl
  (by rw [World.cell?_alloc_lt _ _ t (by simp; omega), World.cell?_alloc_lt _ _ t (by simp; omega), World.cell?_alloc_lt _ _ t (by simp; omega), World.cell?_alloc_lt _ _ t htl]; exact ht0) hts
  (by rw [World.frozen?_alloc_old _ _ t (by simp; omega), World.frozen?_alloc_old _ _ t (by simp; omega), World.frozen?_alloc_old _ _ t (by simp; omega), World.frozen?_alloc_old _ _ t (Nat.ne_of_lt htl)]; exact hf0)
 have e175 : ∀ args w, (callFunc 175 args).run Tryz.prog w = .ok (.enter 175 args) w := enters_of Tryz.func175 (by kernel_rfl) rfl
 go_enter Tryz.func100, Tryz.ntmps100
 go_wp2
 refine wp_loop_rounds 1 ?_
 rw [rounds_succ]
 go_wp2
 go_ret
 exact ⟨rfl, rfl⟩
end Go.Cx
end
noncomputable section
namespace Go.Cx
open Go Go.Ab Go.Proofs Go.RowKit
def h100 : List Value → Lk → Nat → (Value → Lk → Nat → Prop) → Prop := fun args m n K => match args with
 | [.nilIface, _] => K (.bool false) m n
 | [.iface t (.agg ⟨[.string s]⟩), .iface t' (.pointer (some ⟨k, 0, some _⟩))] => match Nat.beq t 119, Nat.beq t' 121, m k with
  | true, true, some ⟨[.string _], ty, true⟩ => match Nat.ble itTy ty with
   | false => K (.bool true) (m.upd k ⟨[.string s], ty, true⟩) n
   | true => False
  | _, _, _ => False
 | _ => False
theorem c100 : Callable Tryz.prog 100 := ⟨_, Tryz.func100, by kernel_rfl, rfl⟩
theorem tab_as {w : World} (h : TabsIn w.heap.size w) : w.cell? ⟨0, 0, none⟩ = some (.iface 229 (.agg #[.pointer (some ⟨10, 105, none⟩)])) :=
 h.cell (b := 0) rfl (i := 0) rfl
theorem gen100 : GenOK Tryz.prog 100 h100 := by
 refine ⟨c100, fun args m n K hh N w0 ι w hrel hwf hargs => ?_⟩
 unfold h100 at hh
 split at hh
 ·rename_i t
  refine (as_nil (ren ι t) w).mono fun e w' ⟨h1, h2⟩ => ?_
  subst h2
  exact ⟨.bool false, m, n, ι, by rw [h1]; rfl, hh, Nat.le_refl _, fun _ _ => rfl, hrel, hwf, by simp [ids]⟩
 ·rename_i t s t' k sp
  split at hh
  case h_2 => exact hh.elim
  rename_i old ty ht ht' hk
  split at hh
  case h_2 => exact hh.elim
  rename_i hty
  have ht := Nat.eq_of_beq_eq_true ht
  have ht' := Nat.eq_of_beq_eq_true ht'
  subst ht ht'
  obtain ⟨h1, h2, h3⟩ := hrel.blk k _ hk rfl
  rw [objOf_cells hty] at h3
  have e1 : ([.iface 119 (.agg ⟨[.string s]⟩), .iface 121 (.pointer (some ⟨k, 0, some sp⟩))] : List Value).map (ren ι) = [.iface 119 (.agg ⟨[.string s]⟩), .iface 121 (.pointer (some ⟨(ι k).1, 0, none⟩))] := by
   simp [ren, renL, ren1, h1]
  rw [e1]
  have hc : w.cell? ⟨(ι k).1, 0, none⟩ = some (.string old) := by
   simp only [World.cell?, h3]
   rfl
  have hf : w.frozen? ⟨(ι k).1, 0, none⟩ = false := by
   simp [World.frozen?, h3]
  refine (as_hit s ⟨(ι k).1, 0, none⟩ (.string old) w (tab_as hrel.tabs) rfl hc hf).mono fun e w' ⟨g1, g2⟩ => ?_
  have hb : Below w.heap.size w ((((w.alloc (.cells #[.pointer (some ⟨(ι k).1, 0, none⟩)] 121)).alloc (.cells #[.pointer (some ⟨10, 121, none⟩), .pointer (some ⟨w.heap.size, 0, none⟩), .int .u64 150] 187)).alloc (.cells #[.pointer (some ⟨10, 121, none⟩), .pointer (some ⟨w.heap.size, 0, none⟩), .int .u64 150] 187)).alloc (.cells #[.string s] 119)) :=
   ((((Below.refl _ _).alloc (Nat.le_refl _) _).alloc (by simp) _).alloc (by simp; omega) _).alloc (by simp; omega) _
  have hr := hrel.grow hb
  obtain ⟨_, _, h4⟩ := hr.blk k _ hk rfl
  rw [objOf_cells hty] at h4
  have hw := hr.write hk rfl (b' := ⟨[.string s], ty, true⟩) rfl rfl rfl (it_ble hty)
  refine ⟨.bool true, _, n, ι, by rw [g1]; rfl, hh, Nat.le_refl _, fun _ _ => rfl, ?_, fun j b hj => ?_, by simp [ids]⟩
  ·rw [g2, setCell_eq_setRow _ _ _ _ _ _ _ h4]
   exact hw
  ·by_cases e : j = k
   ·subst e
    rw [Lk.upd_same] at hj
    cases hj
    exact ⟨(hwf j _ hk).1, by simp [idsL, ids]⟩
   ·rw [Lk.upd_other _ _ e] at hj
    exact hwf j b hj
 ·exact hh.elim
end Go.Cx
end
noncomputable section
namespace Go.Cx
open Go Go.Ab Go.Proofs Go.Shelf Go.Px Go.Cv
end Go.Cx
end
noncomputable section
set_option maxHeartbeats 3200000
namespace Go.Cx
open Go Go.Ab Go.Proofs Go.Shelf Go.Px Go.Cv
open Go.Fx (Ty Vl check Valid most base pw bnd Fit fits tv vv tup V0 T0 pw_zero pw_succ wrap_mul pw_w64 str0)
end Go.Cx
end
noncomputable section
namespace Go.Ab
open Go Go.RowKit
def eqI (a b : Int) : Bool := match a, b with
 | .ofNat m, .ofNat n => Nat.beq m n
 | .negSucc m, .negSucc n => Nat.beq m n
 | _, _ => false
def eqU : List UInt8 → List UInt8 → Bool
 | [], [] => true
 | a :: l, b :: r => match Nat.beq a.toNat b.toNat with | true => eqU l r | false => false
 | _, _ => false
def eqK (a b : IntKind) : Bool := match decEq a b with | .isTrue _ => true | .isFalse _ => false
mutual
def eqV : Value → Value → Bool
 | .int k a, .int k' b => match eqK k k' with | true => eqI a b | false => false
 | .bool a, .bool b => match a, b with | true, true => true | false, false => true | _, _ => false
 | .string ⟨⟨a⟩⟩, .string ⟨⟨b⟩⟩ => eqU a b
 | .agg ⟨l⟩, .agg ⟨r⟩ => eqVL l r
 | .iface t a, .iface t' b => match Nat.beq t t' with | true => eqV a b | false => false
 | .nilIface, .nilIface => true
 | _, _ => false
def eqVL : List Value → List Value → Bool
 | [], [] => true
 | a :: l, b :: r => match eqV a b with | true => eqVL l r | false => false
 | _, _ => false
end
theorem eqI_spec {a b : Int} (h : eqI a b = true) : a = b := by
 unfold eqI at h
 split at h
 ·rw [Nat.eq_of_beq_eq_true h]
 ·rw [Nat.eq_of_beq_eq_true h]
 ·cases h
theorem eqU_spec : ∀ {a b : List UInt8}, eqU a b = true → a = b
 | [], [], _ => rfl
 | a :: l, b :: r, h => by
  simp only [eqU] at h
  split at h
  ·rename_i hb
   rw [UInt8.toNat_inj.1 (Nat.eq_of_beq_eq_true hb), eqU_spec h]
  ·cases h
 | [], _ :: _, h => by cases h
 | _ :: _, [], h => by cases h
theorem eqK_spec {a b : IntKind} (h : eqK a b = true) : a = b := by
 unfold eqK at h
 split at h
 ·assumption
 ·cases h
mutual
theorem eqV_spec : ∀ {a b : Value}, eqV a b = true → a = b
 | .int k a, .int k' b, h => by
  simp only [eqV] at h
  split at h
  ·rename_i hk
   rw [eqK_spec hk, eqI_spec h]
  ·cases h
 | .bool a, .bool b, h => by cases a <;> cases b <;> first | rfl | cases h
 | .string ⟨⟨a⟩⟩, .string ⟨⟨b⟩⟩, h => by
  simp only [eqV] at h
  rw [eqU_spec h]
 | .agg ⟨l⟩, .agg ⟨r⟩, h => by
  simp only [eqV] at h
  rw [eqVL_spec h]
 | .iface t a, .iface t' b, h => by
  simp only [eqV] at h
  split at h
  ·rename_i ht
   rw [Nat.eq_of_beq_eq_true ht, eqV_spec h]
  ·cases h
 | .nilIface, .nilIface, _ => rfl
theorem eqVL_spec : ∀ {a b : List Value}, eqVL a b = true → a = b
 | [], [], _ => rfl
 | a :: l, b :: r, h => by
  simp only [eqVL] at h
  split at h
  ·rename_i hb
   rw [eqV_spec hb, eqVL_spec h]
  ·cases h
 | [], _ :: _, h => by cases h
 | _ :: _, [], h => by cases h
end
def memo : List (List Value × Value) → Spec
 | [] => fun _ _ => none
 | (a, v) :: r => fun args bs => match eqVL args a with | true => some (true, v) | false => memo r args bs
theorem memo_spec {args : List Value} {bs : List (Option Blk)} {b : Bool} {v : Value} : ∀ {l : List (List Value × Value)}, memo l args bs = some (b, v) → b = true ∧ (args, v) ∈ l
 | [], h => by cases h
 | (a, u) :: r, h => by
  simp only [memo] at h
  split at h
  ·rename_i ha
   simp only [Option.some.injEq, Prod.mk.injEq] at h
   exact ⟨h.1.symm, by rw [eqVL_spec ha, h.2]; exact List.mem_cons_self ..⟩
  ·obtain ⟨h1, h2⟩ := memo_spec h
   exact ⟨h1, List.mem_cons_of_mem _ h2⟩
variable [Tabs]
def AllD (P : Program) (G : Env) (L : Nat → Option LoopH) (fn : Func) : List (List Value × Value) → Prop
 | [] => True
 | (a, v) :: r => DoesQ P G L fn a v ∧ AllD P G L fn r
theorem AllD_mem {P : Program} {G : Env} {L : Nat → Option LoopH} {fn : Func} {a : List Value} {v : Value} : ∀ {l : List (List Value × Value)}, AllD P G L fn l → (a, v) ∈ l → DoesQ P G L fn a v
 | (a', v') :: r, h, hm => by
  rcases List.mem_cons.1 hm with e | hm
  ·cases e; exact h.1
  ·exact AllD_mem h.2 hm
theorem pure_memo {P : Program} {G : Env} {L : Nat → Option LoopH} {f : FuncId} {fn : Func} (hG : EnvOK P G) (hm : P.follows .mixedOrders = true) (hf : Fn1 P f fn) (hL : LOKf P L fn) {l : List (List Value × Value)}
  (hp : (l.all fun x => plainL x.1 && Nat.ble x.1.length fn.ntmps) = true) (h : AllD P G L fn l) : PureOK P f (memo l) := by
 refine pure_ofQ hG hm hf hL fun args bs v hs => ?_
 obtain ⟨_, hmem⟩ := memo_spec hs
 have := List.all_eq_true.1 hp _ hmem
 simp only [Bool.and_eq_true] at this
 exact ⟨this.1, Nat.le_of_ble_eq_true this.2, AllD_mem h hmem⟩
def cj (p : Prop) : Nat → Prop
 | 0 => p
 | n + 1 => p ∧ cj p n
omit [Tabs] in
theorem cj_of {p : Prop} (h : p) : ∀ n, cj p n
 | 0 => h
 | n + 1 => ⟨h, cj_of h n⟩
def SelfL : List (List Value × Value) → List Nat → Prop
 | [], _ => True
 | (_, v) :: r, [] => v = v ∧ SelfL r []
 | (_, v) :: r, k :: ks => cj (v = v) k ∧ SelfL r ks
omit [Tabs] in
theorem self_ok : ∀ l ks, SelfL l ks
 | [], _ => trivial
 | (_, _) :: r, [] => ⟨rfl, self_ok r []⟩
 | (_, _) :: r, k :: ks => ⟨cj_of rfl k, self_ok r ks⟩
def RunL (P : Program) (G : Env) (L : Nat → Option LoopH) (fn : Func) : List (List Value × Value) → Prop
 | [] => True
 | (a, v) :: r => bodyQ P G L fn a (fun _ => none) 0 (fun v' _ _ => v' = v) ∧ RunL P G L fn r
theorem allD_of {P : Program} {G : Env} {L : Nat → Option LoopH} {fn : Func} : ∀ {l : List (List Value × Value)}, RunL P G L fn l → AllD P G L fn l
 | [], _ => trivial
 | (_, _) :: _, h => ⟨by rw [DoesQ]; exact h.1, allD_of h.2⟩
theorem pure_memoR (ks : List Nat) {P : Program} {G : Env} {L : Nat → Option LoopH} {f : FuncId} {fn : Func} (hG : EnvOK P G) (hm : P.follows .mixedOrders = true) (hf : Fn1 P f fn) (hL : LOKf P L fn) {l : List (List Value × Value)}
  (hp : (l.all fun x => plainL x.1 && Nat.ble x.1.length fn.ntmps) = true) (h : RunL P G L fn l = SelfL l ks) : PureOK P f (memo l) :=
 pure_memo hG hm hf hL hp (allD_of (cast h.symm (self_ok l ks)))
end Go.Ab
end
noncomputable section
namespace Go.Cs
open Go Go.Ab Go.Proofs Go.Shelf Go.Px Go.Cx Go.RowKit
/-- The tables; lengths and characters are computed. -/
instance tabsC : Tabs := { row := rowsT, plain := tabs.plain, conc := true }
theorem RelM.toT {N : Nat} {w0 : World} {m : Lk} {ι : Nm} {w : World} (h : @RelM tabsC N w0 m ι w) : @RelM tabs N w0 m ι w :=
 @RelM.mk tabs N w0 m ι w h.below h.base h.blk h.view h.inj
theorem RelM.toC {N : Nat} {w0 : World} {m : Lk} {ι : Nm} {w : World} (h : @RelM tabs N w0 m ι w) : @RelM tabsC N w0 m ι w :=
 @RelM.mk tabsC N w0 m ι w (@RelM.below tabs N w0 m ι w h) (@RelM.base tabs N w0 m ι w h) (@RelM.blk tabs N w0 m ι w h) (@RelM.view tabs N w0 m ι w h) (@RelM.inj tabs N w0 m ι w h)
theorem pureC {f : FuncId} {s : Ab.Spec} (h : @PureOK tabs Tryz.prog f s) : @PureOK tabsC Tryz.prog f s :=
 ⟨h.1, fun args v N w0 lk ι w hr hs hv => h.2 args v N w0 lk ι w (RelM.toT hr) hs hv⟩
theorem pureT {f : FuncId} {s : Ab.Spec} (h : @PureOK tabsC Tryz.prog f s) : @PureOK tabs Tryz.prog f s :=
 ⟨h.1, fun args v N w0 lk ι w hr hs hv => h.2 args v N w0 lk ι w (RelM.toC hr) hs hv⟩
theorem pure_at {f : FuncId} {s : Ab.Spec} (h : PureOK Tryz.prog f s) {l : List (List Value × Value)} (hl : ∀ a v, (a, v) ∈ l → ∀ bs, s a bs = some (true, v)) : PureOK Tryz.prog f (memo l) :=
 ⟨h.1, fun args v N w0 lk ι w hr hs hv => h.2 args v N w0 lk ι w hr (hl _ _ (memo_spec hs).2 _) hv⟩
def s154 (s t : ByteArray) : Bool × Value := (oneB t && asc (bz t), .string (sz (tlZ (bz s) ((bz t).getD 0 0))))
theorem ok154 : PureOK Tryz.prog 154 (sp2 s154) := by
 have e : s154 = Cx.s154 := by funext s t; simp only [s154, Cx.s154, szO_eq]
 rw [e]; exact pureC Cx.ok154
def s131 (s t : ByteArray) : Bool × Value := (decide (s.size ≤ 9223372036854775807) && (oneB t && asc (bz t)), .string (sz (trZ (bz s) ((bz t).getD 0 0))))
theorem ok131 : PureOK Tryz.prog 131 (sp2 s131) := by
 have e : s131 = Cx.s131 := by funext s t; simp only [s131, Cx.s131, szO_eq]
 rw [e]; exact pureC Cx.ok131
def s55 (s t : ByteArray) : Bool × Value := (decide (s.size ≤ 9223372036854775807) && (decide (t.size ≤ 1000) && asc (bz t)), .string (sz (trimZ (bz s) (bz t))))
theorem ok55 : PureOK Tryz.prog 55 (sp2 s55) := by
 have e : s55 = Cx.s55 := by funext s t; simp only [s55, Cx.s55, szO_eq]
 rw [e]; exact pureC Cx.ok55
def s30 (s : ByteArray) (n : Int) : Bool × Value := (decide (0 ≤ n ∧ n ≤ 1000 ∧ s.size ≤ 1000), .string (sz (repZ (bz s) n.toNat)))
theorem ok30 : PureOK Tryz.prog 30 (sp2 s30) := by
 have e : s30 = Cx.s30 := by funext s n; simp only [s30, Cx.s30, szO_eq]
 rw [e]; exact pureC Cx.ok30
theorem dec1234 : Lib.decDigits 1234 = [49, 50, 51, 52] := by
 rw [Lib.decDigits, dif_neg (by decide), Lib.decDigits, dif_neg (by decide), Lib.decDigits_two (by decide) (by decide)]; rfl
theorem dec1230 : Lib.decDigits 1230 = [49, 50, 51, 48] := by
 rw [Lib.decDigits, dif_neg (by decide), Lib.decDigits, dif_neg (by decide), Lib.decDigits_two (by decide) (by decide)]; rfl
theorem dec150 : Lib.decDigits 150 = [49, 53, 48] := by
 rw [Lib.decDigits, dif_neg (by decide), Lib.decDigits_two (by decide) (by decide)]; rfl
theorem dec123 : Lib.decDigits 123 = [49, 50, 51] := by
 rw [Lib.decDigits, dif_neg (by decide), Lib.decDigits_two (by decide) (by decide)]; rfl
theorem dec234 : Lib.decDigits 234 = [50, 51, 52] := by
 rw [Lib.decDigits, dif_neg (by decide), Lib.decDigits_two (by decide) (by decide)]; rfl
theorem ito {n : Nat} {l : List UInt8} (h : Lib.decDigits n = l) : Cx.s29 (n : Int) = (decide (-9223372036854775808 ≤ (n : Int) ∧ (n : Int) ≤ 9223372036854775807), .string ⟨l.toArray⟩) := by
 rw [Cx.s29, szO_eq, itoZ, Lib.itoa_nonneg, h, sz_zl]
theorem fmt {n : Nat} {l : List UInt8} (h : Lib.decDigits n = l) : Px.s87 ⟨(n : Int)⟩ 10 = (decide (0 ≤ (n : Int) ∧ (n : Int) < 18446744073709551616) && isTen 10, .string ⟨l.toArray⟩) := by
 show (_, Value.string (sz (zl (Lib.decDigits (n : Int).toNat)))) = _
 rw [Int.toNat_natCast, h, sz_zl]
def m29 : List (List Value × Value) := [([.int .i64 150], .string ⟨#[49, 53, 48]⟩), ([.int .i64 123], .string ⟨#[49, 50, 51]⟩), ([.int .i64 1234], .string ⟨#[49, 50, 51, 52]⟩)]
theorem mem_all {α : Type} {p : α → Prop} : ∀ {l : List α}, (l.foldr (fun a q => p a ∧ q) True) → ∀ a ∈ l, p a
 | _ :: _, h, _, ha => by
  rcases List.mem_cons.1 ha with rfl | ha
  ·exact h.1
  ·exact mem_all h.2 _ ha
theorem pk29 : PureOK Tryz.prog 29 (memo m29) := pure_at (pureC Cx.ok29) fun a v h bs => by
 have := mem_all (p := fun x : List Value × Value => sp1 Cx.s29 x.1 bs = some (true, x.2)) (l := m29) ⟨congrArg some (ito dec150), congrArg some (ito dec123), congrArg some (ito dec1234), trivial⟩ _ h
 exact this
def m81 : List (List Value × Value) := [([.int .u64 1230, .int .i64 10], .string ⟨#[49, 50, 51, 48]⟩), ([.int .u64 234, .int .i64 10], .string ⟨#[50, 51, 52]⟩)]
theorem pk81 : PureOK Tryz.prog 81 (memo m81) := pure_at (pureC Px.ok87) fun a v h bs => by
 have := mem_all (p := fun x : List Value × Value => sp2 Px.s87 x.1 bs = some (true, x.2)) (l := m81) ⟨congrArg some (fmt dec1230), congrArg some (fmt dec234), trivial⟩ _ h
 exact this
theorem genC : @GenOK tabsC Tryz.prog 100 h100 := by
 obtain ⟨h1, h2⟩ := @gen100
 refine ⟨h1, fun args m n K hh N w0 ι w hrel hwf hargs => ?_⟩
 refine (h2 args m n K hh N w0 ι w (RelM.toT hrel) hwf hargs).mono fun e w' ⟨v, m', n', ι', h⟩ => ⟨v, m', n', ι', h.1, h.2.1, h.2.2.1, h.2.2.2.1, RelM.toC h.2.2.2.2.1, h.2.2.2.2.2⟩
def S0 : Env := Env.nil
theorem ok_S0 : EnvOK Tryz.prog S0 := env_nil
end Go.Cs
end
noncomputable section
set_option maxRecDepth 100000
set_option maxHeartbeats 3200000
namespace Go.Cs
open Go Go.Ab Go.Proofs Go.Px Go.Cx
theorem capOK {row tail : List Value} {cap n : Nat} (h : tailOK tail cap n 1 = true) (hr : Nat.beq row.length n = true) :
  (Nat.beq (List.length (row ++ tail)) (cap * 1) && Nat.ble n cap && Nat.ble cap 9223372036854775807 && true && true) = true := by
 simp only [tailOK, Bool.and_eq_true] at h
 obtain ⟨⟨⟨_, h2⟩, h3⟩, h4⟩ := h
 have hr := Nat.eq_of_beq_eq_true hr
 have h2 := Nat.eq_of_beq_eq_true h2
 have e : Nat.beq (List.length (row ++ tail)) (cap * 1) = true := by
  rw [List.length_append, hr, ← h2, Nat.mul_one, Nat.add_comm]; exact Nat.beq_refl _
 rw [e, h3, h4]; rfl
theorem fn234 : Fn1 Tryz.prog 234 Tryz.f234 := ⟨Tryz.func234, by kernel_rfl, by kernel_rfl, by kernel_rfl⟩
def B1 : Env := Env.nil.add 272 (sp2 Px.s141)
theorem ok_B1 : EnvOK Tryz.prog B1 := env_add env_nil (pureC Px.ok141)
theorem fn235 : Fn1 Tryz.prog 235 Tryz.f235 := ⟨Tryz.func235, by kernel_rfl, by kernel_rfl, by kernel_rfl⟩
def B2 : Env := (Env.nil.addG 234 (inlQ Tryz.prog S0 noL Tryz.f234)).addG 235 (inlQ Tryz.prog B1 noL Tryz.f235)
theorem ok_B2 : EnvOK Tryz.prog B2 := env_addG (env_addG env_nil (gen_inlQ ok_S0 hmix fn234 lokf_none)) (gen_inlQ ok_B1 hmix fn235 lokf_none)
theorem fn188 : Fn1 Tryz.prog 188 Tryz.f188 := ⟨Tryz.func188, by kernel_rfl, by kernel_rfl, by kernel_rfl⟩
def m188 : List (List Value × Value) := [([.string ⟨#[90, 90, 57, 86, 46, 57, 57]⟩], .tuple ⟨[.string ⟨#[90, 90, 57, 86, 46, 57, 57]⟩, .bool true]⟩), ([.string ⟨#[57, 57, 57]⟩], .tuple ⟨[.string ⟨#[57, 57, 57]⟩, .bool true]⟩), ([.string ⟨#[65, 65, 57]⟩], .tuple ⟨[.string ⟨#[65, 65, 57]⟩, .bool true]⟩)]
theorem v188_0 (R : Value → Prop) : bodyQ Tryz.prog B2 noL Tryz.f188 [S ⟨#[90, 90, 57, 86, 46, 57, 57]⟩] (fun _ => none) 0 (fun v _ _ => R v) = (∀ (c1 : Nat) (t1 : List Value), tailOK t1 c1 1 1 = true → bif Nat.beq (List.length ([.int .u8 90] ++ t1)) (c1 * 1) && Nat.ble 1 c1 && Nat.ble c1 9223372036854775807 && true && true then ∀ (c2 : Nat) (t2 : List Value), tailOK t2 c2 2 1 = true → bif Nat.beq (List.length ([.int .u8 90, .int .u8 90] ++ t2)) (c2 * 1) && Nat.ble 2 c2 && Nat.ble c2 9223372036854775807 && true && true then ∀ (c3 : Nat) (t3 : List Value), tailOK t3 c3 3 1 = true → bif Nat.beq (List.length ([.int .u8 90, .int .u8 90, .int .u8 57] ++ t3)) (c3 * 1) && Nat.ble 3 c3 && Nat.ble c3 9223372036854775807 && true && true then ∀ (c4 : Nat) (t4 : List Value), tailOK t4 c4 4 1 = true → bif Nat.beq (List.length ([.int .u8 90, .int .u8 90, .int .u8 57, .int .u8 86] ++ t4)) (c4 * 1) && Nat.ble 4 c4 && Nat.ble c4 9223372036854775807 && true && true then ∀ (c5 : Nat) (t5 : List Value), tailOK t5 c5 5 1 = true → bif Nat.beq (List.length ([.int .u8 90, .int .u8 90, .int .u8 57, .int .u8 86, .int .u8 46] ++ t5)) (c5 * 1) && Nat.ble 5 c5 && Nat.ble c5 9223372036854775807 && true && true then ∀ (c6 : Nat) (t6 : List Value), tailOK t6 c6 6 1 = true → bif Nat.beq (List.length ([.int .u8 90, .int .u8 90, .int .u8 57, .int .u8 86, .int .u8 46, .int .u8 57] ++ t6)) (c6 * 1) && Nat.ble 6 c6 && Nat.ble c6 9223372036854775807 && true && true then ∀ (c7 : Nat) (t7 : List Value), tailOK t7 c7 7 1 = true → R (.tuple ⟨[S ⟨#[90, 90, 57, 86, 46, 57, 57]⟩, B true]⟩) else False else False else False else False else False else False) := by kernel_rfl
theorem k188_0 : DoesQ Tryz.prog B2 noL Tryz.f188 [.string ⟨#[90, 90, 57, 86, 46, 57, 57]⟩] (.tuple ⟨[.string ⟨#[90, 90, 57, 86, 46, 57, 57]⟩, .bool true]⟩) := by
 rw [DoesQ, v188_0]
 intro c1 t1 h1
 refine c_t (capOK (row := [.int .u8 90]) h1 rfl) ?_
 intro c2 t2 h2
 refine c_t (capOK (row := [.int .u8 90, .int .u8 90]) h2 rfl) ?_
 intro c3 t3 h3
 refine c_t (capOK (row := [.int .u8 90, .int .u8 90, .int .u8 57]) h3 rfl) ?_
 intro c4 t4 h4
 refine c_t (capOK (row := [.int .u8 90, .int .u8 90, .int .u8 57, .int .u8 86]) h4 rfl) ?_
 intro c5 t5 h5
 refine c_t (capOK (row := [.int .u8 90, .int .u8 90, .int .u8 57, .int .u8 86, .int .u8 46]) h5 rfl) ?_
 intro c6 t6 h6
 refine c_t (capOK (row := [.int .u8 90, .int .u8 90, .int .u8 57, .int .u8 86, .int .u8 46, .int .u8 57]) h6 rfl) ?_
 intro c7 t7 h7
 rfl
theorem v188_1 (R : Value → Prop) : bodyQ Tryz.prog B2 noL Tryz.f188 [S ⟨#[57, 57, 57]⟩] (fun _ => none) 0 (fun v _ _ => R v) = (∀ (c1 : Nat) (t1 : List Value), tailOK t1 c1 1 1 = true → bif Nat.beq (List.length ([.int .u8 57] ++ t1)) (c1 * 1) && Nat.ble 1 c1 && Nat.ble c1 9223372036854775807 && true && true then ∀ (c2 : Nat) (t2 : List Value), tailOK t2 c2 2 1 = true → bif Nat.beq (List.length ([.int .u8 57, .int .u8 57] ++ t2)) (c2 * 1) && Nat.ble 2 c2 && Nat.ble c2 9223372036854775807 && true && true then ∀ (c3 : Nat) (t3 : List Value), tailOK t3 c3 3 1 = true → R (.tuple ⟨[S ⟨#[57, 57, 57]⟩, B true]⟩) else False else False) := by kernel_rfl
theorem k188_1 : DoesQ Tryz.prog B2 noL Tryz.f188 [.string ⟨#[57, 57, 57]⟩] (.tuple ⟨[.string ⟨#[57, 57, 57]⟩, .bool true]⟩) := by
 rw [DoesQ, v188_1]
 intro c1 t1 h1
 refine c_t (capOK (row := [.int .u8 57]) h1 rfl) ?_
 intro c2 t2 h2
 refine c_t (capOK (row := [.int .u8 57, .int .u8 57]) h2 rfl) ?_
 intro c3 t3 h3
 rfl
theorem v188_2 (R : Value → Prop) : bodyQ Tryz.prog B2 noL Tryz.f188 [S ⟨#[65, 65, 57]⟩] (fun _ => none) 0 (fun v _ _ => R v) = (∀ (c1 : Nat) (t1 : List Value), tailOK t1 c1 1 1 = true → bif Nat.beq (List.length ([.int .u8 65] ++ t1)) (c1 * 1) && Nat.ble 1 c1 && Nat.ble c1 9223372036854775807 && true && true then ∀ (c2 : Nat) (t2 : List Value), tailOK t2 c2 2 1 = true → bif Nat.beq (List.length ([.int .u8 65, .int .u8 65] ++ t2)) (c2 * 1) && Nat.ble 2 c2 && Nat.ble c2 9223372036854775807 && true && true then ∀ (c3 : Nat) (t3 : List Value), tailOK t3 c3 3 1 = true → R (.tuple ⟨[S ⟨#[65, 65, 57]⟩, B true]⟩) else False else False) := by kernel_rfl
theorem k188_2 : DoesQ Tryz.prog B2 noL Tryz.f188 [.string ⟨#[65, 65, 57]⟩] (.tuple ⟨[.string ⟨#[65, 65, 57]⟩, .bool true]⟩) := by
 rw [DoesQ, v188_2]
 intro c1 t1 h1
 refine c_t (capOK (row := [.int .u8 65]) h1 rfl) ?_
 intro c2 t2 h2
 refine c_t (capOK (row := [.int .u8 65, .int .u8 65]) h2 rfl) ?_
 intro c3 t3 h3
 rfl
theorem pk188 : PureOK Tryz.prog 188 (memo m188) := pure_memo ok_B2 hmix fn188 lokf_none (by kernel_rfl) ⟨k188_0, k188_1, k188_2, trivial⟩
def B3 : Env := Env.nil.add 272 (sp2 Px.s141)
theorem ok_B3 : EnvOK Tryz.prog B3 := env_add env_nil (pureC Px.ok141)
theorem fn281 : Fn1 Tryz.prog 281 Tryz.f281 := ⟨Tryz.func281, by kernel_rfl, by kernel_rfl, by kernel_rfl⟩
def B4 : Env := (((Env.nil.add 272 (sp2 Px.s141)).add 279 (sp2 Px.s157)).add 129 (sp2 s132)).add 280 (sp2 s280)
theorem ok_B4 : EnvOK Tryz.prog B4 := env_add (env_add (env_add (env_add env_nil (pureC Px.ok141)) (pureC Px.ok157)) (pureC ok132)) (pureC ok280)
theorem fn244 : Fn1 Tryz.prog 244 Tryz.f244 := ⟨Tryz.func244, by kernel_rfl, by kernel_rfl, by kernel_rfl⟩
def B5 : Env := Env.nil.addG 281 (inlQ Tryz.prog B3 noL Tryz.f281)
theorem ok_B5 : EnvOK Tryz.prog B5 := env_addG env_nil (gen_inlQ ok_B3 hmix fn281 lokf_none)
theorem fn245 : Fn1 Tryz.prog 245 Tryz.f245 := ⟨Tryz.func245, by kernel_rfl, by kernel_rfl, by kernel_rfl⟩
def B6 : Env := Env.nil
theorem ok_B6 : EnvOK Tryz.prog B6 := env_nil
theorem fn246 : Fn1 Tryz.prog 246 Tryz.f246 := ⟨Tryz.func246, by kernel_rfl, by kernel_rfl, by kernel_rfl⟩
def B7 : Env := Env.nil.add 272 (sp2 Px.s141)
theorem ok_B7 : EnvOK Tryz.prog B7 := env_add env_nil (pureC Px.ok141)
theorem fn247 : Fn1 Tryz.prog 247 Tryz.f247 := ⟨Tryz.func247, by kernel_rfl, by kernel_rfl, by kernel_rfl⟩
def B8 : Env := ((((((Env.nil.add 129 (sp2 s132)).add 130 (sp2 s130)).add 203 (sp2 s102)).addG 244 (inlQ Tryz.prog B4 noL Tryz.f244)).addG 245 (inlQ Tryz.prog B5 noL Tryz.f245)).addG 246 (inlQ Tryz.prog B6 noL Tryz.f246)).addG 247 (inlQ Tryz.prog B7 noL Tryz.f247)
theorem ok_B8 : EnvOK Tryz.prog B8 := env_addG (env_addG (env_addG (env_addG (env_add (env_add (env_add env_nil (pureC ok132)) (pureC ok130)) (pureC ok102)) (gen_inlQ ok_B4 hmix fn244 lokf_none)) (gen_inlQ ok_B5 hmix fn245 lokf_none)) (gen_inlQ ok_B6 hmix fn246 lokf_none)) (gen_inlQ ok_B7 hmix fn247 lokf_none)
theorem fn204 : Fn1 Tryz.prog 204 Tryz.f204 := ⟨Tryz.func204, by kernel_rfl, by kernel_rfl, by kernel_rfl⟩
def B9 : Env := (((Env.nil.add 55 (sp2 s55)).add 203 (sp2 s102)).add 188 (memo m188)).addG 204 (inlQ Tryz.prog B8 noL Tryz.f204)
theorem ok_B9 : EnvOK Tryz.prog B9 := env_addG (env_add (env_add (env_add env_nil ok55) (pureC ok102)) pk188) (gen_inlQ ok_B8 hmix fn204 lokf_none)
theorem fn145 : Fn1 Tryz.prog 145 Tryz.f145 := ⟨Tryz.func145, by kernel_rfl, by kernel_rfl, by kernel_rfl⟩
def B10 : Env := Env.nil.addG 145 (inlQ Tryz.prog B9 noL Tryz.f145)
theorem ok_B10 : EnvOK Tryz.prog B10 := env_addG env_nil (gen_inlQ ok_B9 hmix fn145 lokf_none)
theorem fn113 : Fn1 Tryz.prog 113 Tryz.f113 := ⟨Tryz.func113, by kernel_rfl, by kernel_rfl, by kernel_rfl⟩
def m113 : List (List Value × Value) := [([.string ⟨#[90, 90, 57, 86, 46, 57, 57]⟩], .tuple ⟨[.agg ⟨[.string ⟨#[90, 90, 57, 86, 46, 57, 57]⟩, .bool true, .int .i64 6, .int .i64 5, .int .i64 2, .bool false]⟩, .int .i64 0]⟩), ([.string ⟨#[57, 57, 57]⟩], .tuple ⟨[.agg ⟨[.string ⟨#[57, 57, 57]⟩, .bool true, .int .i64 3, .int .i64 3, .int .i64 0, .bool false]⟩, .int .i64 0]⟩), ([.string ⟨#[65, 65, 57]⟩], .tuple ⟨[.agg ⟨[.string ⟨#[65, 65, 57]⟩, .bool false, .int .i64 3, .int .i64 0, .int .i64 0, .bool false]⟩, .int .i64 0]⟩)]
theorem v113_0 (R : Value → Prop) : bodyQ Tryz.prog B10 noL Tryz.f113 [S ⟨#[90, 90, 57, 86, 46, 57, 57]⟩] (fun _ => none) 0 (fun v _ _ => R v) = (∀ c1 : Nat, Nat.ble 7 c1 = true → ∀ (c2 : Nat) (t2 : List Value), tailOK t2 c2 1 1 = true → bif Nat.beq (List.length ([I 1] ++ t2)) (c2 * 1) && Nat.ble 1 c2 && Nat.ble c2 9223372036854775807 && true && true then ∀ (c3 : Nat) (t3 : List Value), tailOK t3 c3 2 1 = true → bif Nat.beq (List.length ([I 1, I 1] ++ t3)) (c3 * 1) && Nat.ble 2 c3 && Nat.ble c3 9223372036854775807 && true && true then ∀ (c4 : Nat) (t4 : List Value), tailOK t4 c4 3 1 = true → bif Nat.beq (List.length ([I 1, I 1, I 0] ++ t4)) (c4 * 1) && Nat.ble 3 c4 && Nat.ble c4 9223372036854775807 && true && true then ∀ (c5 : Nat) (t5 : List Value), tailOK t5 c5 4 1 = true → bif Nat.beq (List.length ([I 1, I 1, I 0, I 2] ++ t5)) (c5 * 1) && Nat.ble 4 c5 && Nat.ble c5 9223372036854775807 && true && true then ∀ (c6 : Nat) (t6 : List Value), tailOK t6 c6 5 1 = true → bif Nat.beq (List.length ([I 1, I 1, I 0, I 2, I 3] ++ t6)) (c6 * 1) && Nat.ble 5 c6 && Nat.ble c6 9223372036854775807 && true && true then ∀ (c7 : Nat) (t7 : List Value), tailOK t7 c7 6 1 = true → bif Nat.beq (List.length ([I 1, I 1, I 0, I 2, I 3, I 0] ++ t7)) (c7 * 1) && Nat.ble 6 c7 && Nat.ble c7 9223372036854775807 && true && true then ∀ (c8 : Nat) (t8 : List Value), tailOK t8 c8 7 1 = true → ∀ c9 : Nat, Nat.ble 7 c9 = true → R (.tuple ⟨[.agg ⟨[S ⟨#[90, 90, 57, 86, 46, 57, 57]⟩, B true, I 6, I 5, I 2, B false]⟩, I 0]⟩) else False else False else False else False else False else False) := by kernel_rfl
theorem k113_0 : DoesQ Tryz.prog B10 noL Tryz.f113 [.string ⟨#[90, 90, 57, 86, 46, 57, 57]⟩] (.tuple ⟨[.agg ⟨[.string ⟨#[90, 90, 57, 86, 46, 57, 57]⟩, .bool true, .int .i64 6, .int .i64 5, .int .i64 2, .bool false]⟩, .int .i64 0]⟩) := by
 rw [DoesQ, v113_0]
 intro c1 h1
 intro c2 t2 h2
 refine c_t (capOK (row := [.int .i64 1]) h2 rfl) ?_
 intro c3 t3 h3
 refine c_t (capOK (row := [.int .i64 1, .int .i64 1]) h3 rfl) ?_
 intro c4 t4 h4
 refine c_t (capOK (row := [.int .i64 1, .int .i64 1, .int .i64 0]) h4 rfl) ?_
 intro c5 t5 h5
 refine c_t (capOK (row := [.int .i64 1, .int .i64 1, .int .i64 0, .int .i64 2]) h5 rfl) ?_
 intro c6 t6 h6
 refine c_t (capOK (row := [.int .i64 1, .int .i64 1, .int .i64 0, .int .i64 2, .int .i64 3]) h6 rfl) ?_
 intro c7 t7 h7
 refine c_t (capOK (row := [.int .i64 1, .int .i64 1, .int .i64 0, .int .i64 2, .int .i64 3, .int .i64 0]) h7 rfl) ?_
 intro c8 t8 h8
 intro c9 h9
 rfl
theorem v113_1 (R : Value → Prop) : bodyQ Tryz.prog B10 noL Tryz.f113 [S ⟨#[57, 57, 57]⟩] (fun _ => none) 0 (fun v _ _ => R v) = (∀ c1 : Nat, Nat.ble 3 c1 = true → ∀ (c2 : Nat) (t2 : List Value), tailOK t2 c2 1 1 = true → bif Nat.beq (List.length ([I 0] ++ t2)) (c2 * 1) && Nat.ble 1 c2 && Nat.ble c2 9223372036854775807 && true && true then ∀ (c3 : Nat) (t3 : List Value), tailOK t3 c3 2 1 = true → bif Nat.beq (List.length ([I 0, I 0] ++ t3)) (c3 * 1) && Nat.ble 2 c3 && Nat.ble c3 9223372036854775807 && true && true then ∀ (c4 : Nat) (t4 : List Value), tailOK t4 c4 3 1 = true → ∀ c5 : Nat, Nat.ble 3 c5 = true → R (.tuple ⟨[.agg ⟨[S ⟨#[57, 57, 57]⟩, B true, I 3, I 3, I 0, B false]⟩, I 0]⟩) else False else False) := by kernel_rfl
theorem k113_1 : DoesQ Tryz.prog B10 noL Tryz.f113 [.string ⟨#[57, 57, 57]⟩] (.tuple ⟨[.agg ⟨[.string ⟨#[57, 57, 57]⟩, .bool true, .int .i64 3, .int .i64 3, .int .i64 0, .bool false]⟩, .int .i64 0]⟩) := by
 rw [DoesQ, v113_1]
 intro c1 h1
 intro c2 t2 h2
 refine c_t (capOK (row := [.int .i64 0]) h2 rfl) ?_
 intro c3 t3 h3
 refine c_t (capOK (row := [.int .i64 0, .int .i64 0]) h3 rfl) ?_
 intro c4 t4 h4
 intro c5 h5
 rfl
theorem v113_2 (R : Value → Prop) : bodyQ Tryz.prog B10 noL Tryz.f113 [S ⟨#[65, 65, 57]⟩] (fun _ => none) 0 (fun v _ _ => R v) = (R (.tuple ⟨[.agg ⟨[S ⟨#[65, 65, 57]⟩, B false, I 3, I 0, I 0, B false]⟩, I 0]⟩)) := by kernel_rfl
theorem pk113 : PureOK Tryz.prog 113 (memo m113) := pure_memo ok_B10 hmix fn113 lokf_none (by kernel_rfl) ⟨k113_0, k113_1, by rw [DoesQ, v113_2], trivial⟩
def B11 : Env := Env.nil.add 113 (memo m113)
theorem ok_B11 : EnvOK Tryz.prog B11 := env_add env_nil pk113
theorem fn67 : Fn1 Tryz.prog 67 Tryz.f67 := ⟨Tryz.func67, by kernel_rfl, by kernel_rfl, by kernel_rfl⟩
def m67 : List (List Value × Value) := [([.string ⟨#[90, 90, 57, 86, 46, 57, 57]⟩], .int .i64 0), ([.string ⟨#[57, 57, 57]⟩], .int .i64 0), ([.string ⟨#[65, 65, 57]⟩], .int .i64 0)]
theorem pk67 : PureOK Tryz.prog 67 (memo m67) := pure_memoR [] ok_B11 hmix fn67 lokf_none (by kernel_rfl) (by kernel_rfl)
def B12 : Env := Env.nil.add 113 (memo m113)
theorem ok_B12 : EnvOK Tryz.prog B12 := env_add env_nil pk113
theorem fn61 : Fn1 Tryz.prog 61 Tryz.f61 := ⟨Tryz.func61, by kernel_rfl, by kernel_rfl, by kernel_rfl⟩
def m61 : List (List Value × Value) := [([.string ⟨#[90, 90, 57, 86, 46, 57, 57]⟩], .tuple ⟨[.agg ⟨[.int .i64 1, .int .i64 5, .int .i64 2, .bool false, .string ⟨#[]⟩]⟩, .int .i64 0]⟩), ([.string ⟨#[57, 57, 57]⟩], .tuple ⟨[.agg ⟨[.int .i64 1, .int .i64 3, .int .i64 0, .bool false, .string ⟨#[]⟩]⟩, .int .i64 0]⟩), ([.string ⟨#[65, 65, 57]⟩], .tuple ⟨[.agg ⟨[.int .i64 3, .int .i64 3, .int .i64 0, .bool false, .string ⟨#[]⟩]⟩, .int .i64 0]⟩)]
theorem pk61 : PureOK Tryz.prog 61 (memo m61) := pure_memoR [] ok_B12 hmix fn61 lokf_none (by kernel_rfl) (by kernel_rfl)
def B13 : Env := Env.nil.addG 145 (inlQ Tryz.prog B9 noL Tryz.f145)
theorem ok_B13 : EnvOK Tryz.prog B13 := env_addG env_nil (gen_inlQ ok_B9 hmix fn145 lokf_none)
theorem fn136 : Fn1 Tryz.prog 136 Tryz.f136 := ⟨Tryz.func136, by kernel_rfl, by kernel_rfl, by kernel_rfl⟩
def B14 : Env := Env.nil.addG 136 (inlQ Tryz.prog B13 noL Tryz.f136)
theorem ok_B14 : EnvOK Tryz.prog B14 := env_addG env_nil (gen_inlQ ok_B13 hmix fn136 lokf_none)
theorem fn59 : Fn1 Tryz.prog 59 Tryz.f59 := ⟨Tryz.func59, by kernel_rfl, by kernel_rfl, by kernel_rfl⟩
def m59 : List (List Value × Value) := [([.string ⟨#[90, 90, 57, 86, 46, 57, 57]⟩], .bool true), ([.string ⟨#[57, 57, 57]⟩], .bool true), ([.string ⟨#[65, 65, 57]⟩], .bool false)]
theorem v59_0 (R : Value → Prop) : bodyQ Tryz.prog B14 noL Tryz.f59 [S ⟨#[90, 90, 57, 86, 46, 57, 57]⟩] (fun _ => none) 0 (fun v _ _ => R v) = (∀ c1 : Nat, Nat.ble 7 c1 = true → ∀ (c2 : Nat) (t2 : List Value), tailOK t2 c2 1 1 = true → bif Nat.beq (List.length ([I 1] ++ t2)) (c2 * 1) && Nat.ble 1 c2 && Nat.ble c2 9223372036854775807 && true && true then ∀ (c3 : Nat) (t3 : List Value), tailOK t3 c3 2 1 = true → bif Nat.beq (List.length ([I 1, I 1] ++ t3)) (c3 * 1) && Nat.ble 2 c3 && Nat.ble c3 9223372036854775807 && true && true then ∀ (c4 : Nat) (t4 : List Value), tailOK t4 c4 3 1 = true → bif Nat.beq (List.length ([I 1, I 1, I 0] ++ t4)) (c4 * 1) && Nat.ble 3 c4 && Nat.ble c4 9223372036854775807 && true && true then ∀ (c5 : Nat) (t5 : List Value), tailOK t5 c5 4 1 = true → bif Nat.beq (List.length ([I 1, I 1, I 0, I 2] ++ t5)) (c5 * 1) && Nat.ble 4 c5 && Nat.ble c5 9223372036854775807 && true && true then ∀ (c6 : Nat) (t6 : List Value), tailOK t6 c6 5 1 = true → bif Nat.beq (List.length ([I 1, I 1, I 0, I 2, I 3] ++ t6)) (c6 * 1) && Nat.ble 5 c6 && Nat.ble c6 9223372036854775807 && true && true then ∀ (c7 : Nat) (t7 : List Value), tailOK t7 c7 6 1 = true → bif Nat.beq (List.length ([I 1, I 1, I 0, I 2, I 3, I 0] ++ t7)) (c7 * 1) && Nat.ble 6 c7 && Nat.ble c7 9223372036854775807 && true && true then ∀ (c8 : Nat) (t8 : List Value), tailOK t8 c8 7 1 = true → ∀ c9 : Nat, Nat.ble 7 c9 = true → R (B true) else False else False else False else False else False else False) := by kernel_rfl
theorem k59_0 : DoesQ Tryz.prog B14 noL Tryz.f59 [.string ⟨#[90, 90, 57, 86, 46, 57, 57]⟩] (.bool true) := by
 rw [DoesQ, v59_0]
 intro c1 h1
 intro c2 t2 h2
 refine c_t (capOK (row := [.int .i64 1]) h2 rfl) ?_
 intro c3 t3 h3
 refine c_t (capOK (row := [.int .i64 1, .int .i64 1]) h3 rfl) ?_
 intro c4 t4 h4
 refine c_t (capOK (row := [.int .i64 1, .int .i64 1, .int .i64 0]) h4 rfl) ?_
 intro c5 t5 h5
 refine c_t (capOK (row := [.int .i64 1, .int .i64 1, .int .i64 0, .int .i64 2]) h5 rfl) ?_
 intro c6 t6 h6
 refine c_t (capOK (row := [.int .i64 1, .int .i64 1, .int .i64 0, .int .i64 2, .int .i64 3]) h6 rfl) ?_
 intro c7 t7 h7
 refine c_t (capOK (row := [.int .i64 1, .int .i64 1, .int .i64 0, .int .i64 2, .int .i64 3, .int .i64 0]) h7 rfl) ?_
 intro c8 t8 h8
 intro c9 h9
 rfl
theorem v59_1 (R : Value → Prop) : bodyQ Tryz.prog B14 noL Tryz.f59 [S ⟨#[57, 57, 57]⟩] (fun _ => none) 0 (fun v _ _ => R v) = (∀ c1 : Nat, Nat.ble 3 c1 = true → ∀ (c2 : Nat) (t2 : List Value), tailOK t2 c2 1 1 = true → bif Nat.beq (List.length ([I 0] ++ t2)) (c2 * 1) && Nat.ble 1 c2 && Nat.ble c2 9223372036854775807 && true && true then ∀ (c3 : Nat) (t3 : List Value), tailOK t3 c3 2 1 = true → bif Nat.beq (List.length ([I 0, I 0] ++ t3)) (c3 * 1) && Nat.ble 2 c3 && Nat.ble c3 9223372036854775807 && true && true then ∀ (c4 : Nat) (t4 : List Value), tailOK t4 c4 3 1 = true → ∀ c5 : Nat, Nat.ble 3 c5 = true → R (B true) else False else False) := by kernel_rfl
theorem k59_1 : DoesQ Tryz.prog B14 noL Tryz.f59 [.string ⟨#[57, 57, 57]⟩] (.bool true) := by
 rw [DoesQ, v59_1]
 intro c1 h1
 intro c2 t2 h2
 refine c_t (capOK (row := [.int .i64 0]) h2 rfl) ?_
 intro c3 t3 h3
 refine c_t (capOK (row := [.int .i64 0, .int .i64 0]) h3 rfl) ?_
 intro c4 t4 h4
 intro c5 h5
 rfl
theorem v59_2 (R : Value → Prop) : bodyQ Tryz.prog B14 noL Tryz.f59 [S ⟨#[65, 65, 57]⟩] (fun _ => none) 0 (fun v _ _ => R v) = (R (B false)) := by kernel_rfl
theorem pk59 : PureOK Tryz.prog 59 (memo m59) := pure_memo ok_B14 hmix fn59 lokf_none (by kernel_rfl) ⟨k59_0, k59_1, by rw [DoesQ, v59_2], trivial⟩
def B15 : Env := Env.nil
theorem ok_B15 : EnvOK Tryz.prog B15 := env_nil
theorem fn147 : Fn1 Tryz.prog 147 Tryz.f147 := ⟨Tryz.func147, by kernel_rfl, by kernel_rfl, by kernel_rfl⟩
def B16 : Env := (((Env.nil.add 154 (sp2 s154)).add 55 (sp2 s55)).add 30 (sp2 s30)).add 81 (memo m81)
theorem ok_B16 : EnvOK Tryz.prog B16 := env_add (env_add (env_add (env_add env_nil ok154) ok55) ok30) pk81
theorem fn225 : Fn1 Tryz.prog 225 Tryz.f225 := ⟨Tryz.func225, by kernel_rfl, by kernel_rfl, by kernel_rfl⟩
def B17 : Env := Env.nil
theorem ok_B17 : EnvOK Tryz.prog B17 := env_nil
theorem fn287 : Fn1 Tryz.prog 287 Tryz.f287 := ⟨Tryz.func287, by kernel_rfl, by kernel_rfl, by kernel_rfl⟩
def B18 : Env := Env.nil
theorem ok_B18 : EnvOK Tryz.prog B18 := env_nil
theorem fn288 : Fn1 Tryz.prog 288 Tryz.f288 := ⟨Tryz.func288, by kernel_rfl, by kernel_rfl, by kernel_rfl⟩
def B19 : Env := Env.nil.add 55 (sp2 s55)
theorem ok_B19 : EnvOK Tryz.prog B19 := env_add env_nil ok55
theorem fn251 : Fn1 Tryz.prog 251 Tryz.f251 := ⟨Tryz.func251, by kernel_rfl, by kernel_rfl, by kernel_rfl⟩
def B20 : Env := (Env.nil.addG 287 (inlQ Tryz.prog B17 noL Tryz.f287)).addG 288 (inlQ Tryz.prog B18 noL Tryz.f288)
theorem ok_B20 : EnvOK Tryz.prog B20 := env_addG (env_addG env_nil (gen_inlQ ok_B17 hmix fn287 lokf_none)) (gen_inlQ ok_B18 hmix fn288 lokf_none)
theorem fn252 : Fn1 Tryz.prog 252 Tryz.f252 := ⟨Tryz.func252, by kernel_rfl, by kernel_rfl, by kernel_rfl⟩
def B21 : Env := Env.nil.addG 287 (inlQ Tryz.prog B17 noL Tryz.f287)
theorem ok_B21 : EnvOK Tryz.prog B21 := env_addG env_nil (gen_inlQ ok_B17 hmix fn287 lokf_none)
theorem fn253 : Fn1 Tryz.prog 253 Tryz.f253 := ⟨Tryz.func253, by kernel_rfl, by kernel_rfl, by kernel_rfl⟩
def B22 : Env := Env.nil
theorem ok_B22 : EnvOK Tryz.prog B22 := env_nil
theorem fn254 : Fn1 Tryz.prog 254 Tryz.f254 := ⟨Tryz.func254, by kernel_rfl, by kernel_rfl, by kernel_rfl⟩
def B23 : Env := Env.nil
theorem ok_B23 : EnvOK Tryz.prog B23 := env_nil
theorem fn255 : Fn1 Tryz.prog 255 Tryz.f255 := ⟨Tryz.func255, by kernel_rfl, by kernel_rfl, by kernel_rfl⟩
def B24 : Env := Env.nil
theorem ok_B24 : EnvOK Tryz.prog B24 := env_nil
theorem fn256 : Fn1 Tryz.prog 256 Tryz.f256 := ⟨Tryz.func256, by kernel_rfl, by kernel_rfl, by kernel_rfl⟩
def B25 : Env := ((((((Env.nil.add 30 (sp2 s30)).addG 251 (inlQ Tryz.prog B19 noL Tryz.f251)).addG 252 (inlQ Tryz.prog B20 noL Tryz.f252)).addG 253 (inlQ Tryz.prog B21 noL Tryz.f253)).addG 254 (inlQ Tryz.prog B22 noL Tryz.f254)).addG 255 (inlQ Tryz.prog B23 noL Tryz.f255)).addG 256 (inlQ Tryz.prog B24 noL Tryz.f256)
theorem ok_B25 : EnvOK Tryz.prog B25 := env_addG (env_addG (env_addG (env_addG (env_addG (env_addG (env_add env_nil ok30) (gen_inlQ ok_B19 hmix fn251 lokf_none)) (gen_inlQ ok_B20 hmix fn252 lokf_none)) (gen_inlQ ok_B21 hmix fn253 lokf_none)) (gen_inlQ ok_B22 hmix fn254 lokf_none)) (gen_inlQ ok_B23 hmix fn255 lokf_none)) (gen_inlQ ok_B24 hmix fn256 lokf_none)
theorem fn207 : Fn1 Tryz.prog 207 Tryz.f207 := ⟨Tryz.func207, by kernel_rfl, by kernel_rfl, by kernel_rfl⟩
def B26 : Env := ((Env.nil.addG 136 (inlQ Tryz.prog B13 noL Tryz.f136)).addG 225 (inlQ Tryz.prog B16 noL Tryz.f225)).addG 207 (inlQ Tryz.prog B25 noL Tryz.f207)
theorem ok_B26 : EnvOK Tryz.prog B26 := env_addG (env_addG (env_addG env_nil (gen_inlQ ok_B13 hmix fn136 lokf_none)) (gen_inlQ ok_B16 hmix fn225 lokf_none)) (gen_inlQ ok_B25 hmix fn207 lokf_none)
theorem fn171 : Fn1 Tryz.prog 171 Tryz.f171 := ⟨Tryz.func171, by kernel_rfl, by kernel_rfl, by kernel_rfl⟩
def m171 : List (List Value × Value) := [([.int .i64 1230, .int .i64 2, .string ⟨#[90, 90, 57, 86, 46, 57, 57]⟩], .tuple ⟨[.string ⟨#[32, 49, 50, 46, 51, 48]⟩, .bool true, .int .i64 0]⟩), ([.int .i64 234, .int .i64 0, .string ⟨#[57, 57, 57]⟩], .tuple ⟨[.string ⟨#[50, 51, 52]⟩, .bool true, .int .i64 0]⟩)]
theorem v171_0 (R : Value → Prop) : bodyQ Tryz.prog B26 noL Tryz.f171 [I 1230, I 2, S ⟨#[90, 90, 57, 86, 46, 57, 57]⟩] (fun _ => none) 0 (fun v _ _ => R v) = (∀ c1 : Nat, Nat.ble 7 c1 = true → ∀ (c2 : Nat) (t2 : List Value), tailOK t2 c2 1 1 = true → bif Nat.beq (List.length ([I 1] ++ t2)) (c2 * 1) && Nat.ble 1 c2 && Nat.ble c2 9223372036854775807 && true && true then ∀ (c3 : Nat) (t3 : List Value), tailOK t3 c3 2 1 = true → bif Nat.beq (List.length ([I 1, I 1] ++ t3)) (c3 * 1) && Nat.ble 2 c3 && Nat.ble c3 9223372036854775807 && true && true then ∀ (c4 : Nat) (t4 : List Value), tailOK t4 c4 3 1 = true → bif Nat.beq (List.length ([I 1, I 1, I 0] ++ t4)) (c4 * 1) && Nat.ble 3 c4 && Nat.ble c4 9223372036854775807 && true && true then ∀ (c5 : Nat) (t5 : List Value), tailOK t5 c5 4 1 = true → bif Nat.beq (List.length ([I 1, I 1, I 0, I 2] ++ t5)) (c5 * 1) && Nat.ble 4 c5 && Nat.ble c5 9223372036854775807 && true && true then ∀ (c6 : Nat) (t6 : List Value), tailOK t6 c6 5 1 = true → bif Nat.beq (List.length ([I 1, I 1, I 0, I 2, I 3] ++ t6)) (c6 * 1) && Nat.ble 5 c6 && Nat.ble c6 9223372036854775807 && true && true then ∀ (c7 : Nat) (t7 : List Value), tailOK t7 c7 6 1 = true → bif Nat.beq (List.length ([I 1, I 1, I 0, I 2, I 3, I 0] ++ t7)) (c7 * 1) && Nat.ble 6 c7 && Nat.ble c7 9223372036854775807 && true && true then ∀ (c8 : Nat) (t8 : List Value), tailOK t8 c8 7 1 = true → ∀ c9 : Nat, Nat.ble 7 c9 = true → ∀ (c10 : Nat) (t10 : List Value), tailOK t10 c10 1 1 = true → bif Nat.beq (List.length ([.int .u8 32] ++ t10)) (c10 * 1) && Nat.ble 1 c10 && Nat.ble c10 9223372036854775807 && true && true then ∀ (c11 : Nat) (t11 : List Value), tailOK t11 c11 2 1 = true → bif Nat.beq (List.length ([.int .u8 32, .int .u8 49] ++ t11)) (c11 * 1) && Nat.ble 2 c11 && Nat.ble c11 9223372036854775807 && true && true then ∀ (c12 : Nat) (t12 : List Value), tailOK t12 c12 3 1 = true → bif Nat.beq (List.length ([.int .u8 32, .int .u8 49, .int .u8 50] ++ t12)) (c12 * 1) && Nat.ble 3 c12 && Nat.ble c12 9223372036854775807 && true && true then ∀ (c13 : Nat) (t13 : List Value), tailOK t13 c13 4 1 = true → bif Nat.beq (List.length ([.int .u8 32, .int .u8 49, .int .u8 50, .int .u8 46] ++ t13)) (c13 * 1) && Nat.ble 4 c13 && Nat.ble c13 9223372036854775807 && true && true then ∀ (c14 : Nat) (t14 : List Value), tailOK t14 c14 5 1 = true → bif Nat.beq (List.length ([.int .u8 32, .int .u8 49, .int .u8 50, .int .u8 46, .int .u8 51] ++ t14)) (c14 * 1) && Nat.ble 5 c14 && Nat.ble c14 9223372036854775807 && true && true then ∀ (c15 : Nat) (t15 : List Value), tailOK t15 c15 6 1 = true → R (.tuple ⟨[S ⟨#[32, 49, 50, 46, 51, 48]⟩, B true, I 0]⟩) else False else False else False else False else False else False else False else False else False else False else False) := by kernel_rfl
theorem k171_0 : DoesQ Tryz.prog B26 noL Tryz.f171 [.int .i64 1230, .int .i64 2, .string ⟨#[90, 90, 57, 86, 46, 57, 57]⟩] (.tuple ⟨[.string ⟨#[32, 49, 50, 46, 51, 48]⟩, .bool true, .int .i64 0]⟩) := by
 rw [DoesQ, v171_0]
 intro c1 h1
 intro c2 t2 h2
 refine c_t (capOK (row := [.int .i64 1]) h2 rfl) ?_
 intro c3 t3 h3
 refine c_t (capOK (row := [.int .i64 1, .int .i64 1]) h3 rfl) ?_
 intro c4 t4 h4
 refine c_t (capOK (row := [.int .i64 1, .int .i64 1, .int .i64 0]) h4 rfl) ?_
 intro c5 t5 h5
 refine c_t (capOK (row := [.int .i64 1, .int .i64 1, .int .i64 0, .int .i64 2]) h5 rfl) ?_
 intro c6 t6 h6
 refine c_t (capOK (row := [.int .i64 1, .int .i64 1, .int .i64 0, .int .i64 2, .int .i64 3]) h6 rfl) ?_
 intro c7 t7 h7
 refine c_t (capOK (row := [.int .i64 1, .int .i64 1, .int .i64 0, .int .i64 2, .int .i64 3, .int .i64 0]) h7 rfl) ?_
 intro c8 t8 h8
 intro c9 h9
 intro c10 t10 h10
 refine c_t (capOK (row := [.int .u8 32]) h10 rfl) ?_
 intro c11 t11 h11
 refine c_t (capOK (row := [.int .u8 32, .int .u8 49]) h11 rfl) ?_
 intro c12 t12 h12
 refine c_t (capOK (row := [.int .u8 32, .int .u8 49, .int .u8 50]) h12 rfl) ?_
 intro c13 t13 h13
 refine c_t (capOK (row := [.int .u8 32, .int .u8 49, .int .u8 50, .int .u8 46]) h13 rfl) ?_
 intro c14 t14 h14
 refine c_t (capOK (row := [.int .u8 32, .int .u8 49, .int .u8 50, .int .u8 46, .int .u8 51]) h14 rfl) ?_
 intro c15 t15 h15
 rfl
theorem v171_1 (R : Value → Prop) : bodyQ Tryz.prog B26 noL Tryz.f171 [I 234, I 0, S ⟨#[57, 57, 57]⟩] (fun _ => none) 0 (fun v _ _ => R v) = (∀ c1 : Nat, Nat.ble 3 c1 = true → ∀ (c2 : Nat) (t2 : List Value), tailOK t2 c2 1 1 = true → bif Nat.beq (List.length ([I 0] ++ t2)) (c2 * 1) && Nat.ble 1 c2 && Nat.ble c2 9223372036854775807 && true && true then ∀ (c3 : Nat) (t3 : List Value), tailOK t3 c3 2 1 = true → bif Nat.beq (List.length ([I 0, I 0] ++ t3)) (c3 * 1) && Nat.ble 2 c3 && Nat.ble c3 9223372036854775807 && true && true then ∀ (c4 : Nat) (t4 : List Value), tailOK t4 c4 3 1 = true → ∀ c5 : Nat, Nat.ble 3 c5 = true → ∀ (c6 : Nat) (t6 : List Value), tailOK t6 c6 1 1 = true → bif Nat.beq (List.length ([.int .u8 50] ++ t6)) (c6 * 1) && Nat.ble 1 c6 && Nat.ble c6 9223372036854775807 && true && true then ∀ (c7 : Nat) (t7 : List Value), tailOK t7 c7 2 1 = true → bif Nat.beq (List.length ([.int .u8 50, .int .u8 51] ++ t7)) (c7 * 1) && Nat.ble 2 c7 && Nat.ble c7 9223372036854775807 && true && true then ∀ (c8 : Nat) (t8 : List Value), tailOK t8 c8 3 1 = true → R (.tuple ⟨[S ⟨#[50, 51, 52]⟩, B true, I 0]⟩) else False else False else False else False) := by kernel_rfl
theorem k171_1 : DoesQ Tryz.prog B26 noL Tryz.f171 [.int .i64 234, .int .i64 0, .string ⟨#[57, 57, 57]⟩] (.tuple ⟨[.string ⟨#[50, 51, 52]⟩, .bool true, .int .i64 0]⟩) := by
 rw [DoesQ, v171_1]
 intro c1 h1
 intro c2 t2 h2
 refine c_t (capOK (row := [.int .i64 0]) h2 rfl) ?_
 intro c3 t3 h3
 refine c_t (capOK (row := [.int .i64 0, .int .i64 0]) h3 rfl) ?_
 intro c4 t4 h4
 intro c5 h5
 intro c6 t6 h6
 refine c_t (capOK (row := [.int .u8 50]) h6 rfl) ?_
 intro c7 t7 h7
 refine c_t (capOK (row := [.int .u8 50, .int .u8 51]) h7 rfl) ?_
 intro c8 t8 h8
 rfl
theorem pk171 : PureOK Tryz.prog 171 (memo m171) := pure_memo ok_B26 hmix fn171 lokf_none (by kernel_rfl) ⟨k171_0, k171_1, trivial⟩
def B27 : Env := (Env.nil.addG 145 (inlQ Tryz.prog B9 noL Tryz.f145)).addG 147 (inlQ Tryz.prog B15 noL Tryz.f147)
theorem ok_B27 : EnvOK Tryz.prog B27 := env_addG (env_addG env_nil (gen_inlQ ok_B9 hmix fn145 lokf_none)) (gen_inlQ ok_B15 hmix fn147 lokf_none)
theorem fn72 : Fn1 Tryz.prog 72 Tryz.f72 := ⟨Tryz.func72, by kernel_rfl, by kernel_rfl, by kernel_rfl⟩
def m72 : List (List Value × Value) := [([.string ⟨#[65, 65, 57]⟩, .string ⟨#[97, 49, 49]⟩], .bool false)]
theorem v72_0 (R : Value → Prop) : bodyQ Tryz.prog B27 noL Tryz.f72 [S ⟨#[65, 65, 57]⟩, S ⟨#[97, 49, 49]⟩] (fun _ => none) 0 (fun v _ _ => R v) = (∀ c1 : Nat, Nat.ble 3 c1 = true → R (B false)) := by kernel_rfl
theorem k72_0 : DoesQ Tryz.prog B27 noL Tryz.f72 [.string ⟨#[65, 65, 57]⟩, .string ⟨#[97, 49, 49]⟩] (.bool false) := by
 rw [DoesQ, v72_0]
 intro c1 h1
 rfl
theorem pk72 : PureOK Tryz.prog 72 (memo m72) := pure_memo ok_B27 hmix fn72 lokf_none (by kernel_rfl) ⟨k72_0, trivial⟩
def B28 : Env := ((Env.nil.add 30 (sp2 s30)).addG 145 (inlQ Tryz.prog B9 noL Tryz.f145)).addG 207 (inlQ Tryz.prog B25 noL Tryz.f207)
theorem ok_B28 : EnvOK Tryz.prog B28 := env_addG (env_addG (env_add env_nil ok30) (gen_inlQ ok_B9 hmix fn145 lokf_none)) (gen_inlQ ok_B25 hmix fn207 lokf_none)
theorem fn176 : Fn1 Tryz.prog 176 Tryz.f176 := ⟨Tryz.func176, by kernel_rfl, by kernel_rfl, by kernel_rfl⟩
def m176 : List (List Value × Value) := [([.string ⟨#[65, 65, 57]⟩], .tuple ⟨[.string ⟨#[32, 32, 32]⟩, .int .i64 0]⟩)]
theorem pk176 : PureOK Tryz.prog 176 (memo m176) := pure_memoR [] ok_B28 hmix fn176 lokf_none (by kernel_rfl) (by kernel_rfl)
def B29 : Env := B28.add 176 (memo m176)
def A1 : Env := B29.add 152 (sp1 Cx.s152)
def A2 : Env := A1.add 213 (sp1 Cx.s213)
def A5 : Env := (Env.nil.add 67 (memo m67)).add 66 (sp1 Cx.s66)
theorem ok_A5 : EnvOK Tryz.prog A5 := env_add (env_add env_nil pk67) (pureC Cx.ok66)
theorem fn20 : Fn1 Tryz.prog 20 Tryz.f20 := ⟨Tryz.func20, by kernel_rfl, by kernel_rfl, by kernel_rfl⟩
def m20 : List (List Value × Value) := [([.agg ⟨[.int .i64 1, .int .i64 4, .int .i64 2, .bool false, .string ⟨#[]⟩]⟩], .int .i64 0), ([.agg ⟨[.int .i64 3, .int .i64 3, .int .i64 0, .bool false, .string ⟨#[]⟩]⟩], .int .i64 0), ([.agg ⟨[.int .i64 1, .int .i64 3, .int .i64 0, .bool false, .string ⟨#[]⟩]⟩], .int .i64 0), ([.agg ⟨[.int .i64 2, .int .i64 15, .int .i64 0, .bool false, .string ⟨#[]⟩]⟩], .int .i64 0), ([.agg ⟨[.int .i64 4, .int .i64 1, .int .i64 0, .bool false, .string ⟨#[]⟩]⟩], .int .i64 0), ([.agg ⟨[.int .i64 4, .int .i64 3, .int .i64 0, .bool false, .string ⟨#[]⟩]⟩], .int .i64 0), ([.agg ⟨[.int .i64 3, .int .i64 5, .int .i64 0, .bool false, .string ⟨#[]⟩]⟩], .int .i64 0), ([.agg ⟨[.int .i64 1, .int .i64 3, .int .i64 1, .bool false, .string ⟨#[]⟩]⟩], .int .i64 0), ([.agg ⟨[.int .i64 5, .int .i64 0, .int .i64 0, .bool false, .string ⟨#[90, 90, 57, 86, 46, 57, 57]⟩]⟩], .int .i64 0), ([.agg ⟨[.int .i64 1, .int .i64 4, .int .i64 0, .bool false, .string ⟨#[]⟩]⟩], .int .i64 0), ([.agg ⟨[.int .i64 5, .int .i64 0, .int .i64 0, .bool false, .string ⟨#[57, 57, 57]⟩]⟩], .int .i64 0), ([.agg ⟨[.int .i64 5, .int .i64 0, .int .i64 0, .bool false, .string ⟨#[65, 65, 57]⟩]⟩], .int .i64 0), ([.agg ⟨[.int .i64 3, .int .i64 256, .int .i64 0, .bool false, .string ⟨#[]⟩]⟩], .int .i64 5), ([.agg ⟨[.int .i64 4, .int .i64 64, .int .i64 0, .bool false, .string ⟨#[]⟩]⟩], .int .i64 0)]
theorem pk20 : PureOK Tryz.prog 20 (memo m20) := pure_memoR [0, 1, 0, 0, 0, 0, 1, 0, 0, 0, 0, 0, 1] ok_A5 hmix fn20 lokf_none (by kernel_rfl) (by kernel_rfl)
def A6 : Env := Env.nil
theorem ok_A6 : EnvOK Tryz.prog A6 := env_nil
theorem fn191 : Fn1 Tryz.prog 191 Tryz.f191 := ⟨Tryz.func191, by kernel_rfl, by kernel_rfl, by kernel_rfl⟩
def m191 : List (List Value × Value) := [([], .agg ⟨[.int .i64 1, .int .i64 10, .int .i64 100, .int .i64 1000, .int .i64 10000, .int .i64 100000, .int .i64 1000000, .int .i64 10000000, .int .i64 100000000, .int .i64 1000000000, .int .i64 10000000000, .int .i64 100000000000, .int .i64 1000000000000, .int .i64 10000000000000, .int .i64 100000000000000, .int .i64 1000000000000000, .int .i64 10000000000000000, .int .i64 100000000000000000, .int .i64 1000000000000000000]⟩)]
theorem pk191 : PureOK Tryz.prog 191 (memo m191) := pure_memoR [] ok_A6 hmix fn191 lokf_none (by kernel_rfl) (by kernel_rfl)
def A7 : Env := Env.nil.add 191 (memo m191)
theorem ok_A7 : EnvOK Tryz.prog A7 := env_add env_nil pk191
theorem fn144 : Fn1 Tryz.prog 144 Tryz.f144 := ⟨Tryz.func144, by kernel_rfl, by kernel_rfl, by kernel_rfl⟩
def m144 : List (List Value × Value) := [([.agg ⟨[.int .i64 1, .int .i64 4, .int .i64 2, .bool false, .string ⟨#[]⟩]⟩], .int .i64 10000), ([.agg ⟨[.int .i64 2, .int .i64 15, .int .i64 0, .bool false, .string ⟨#[]⟩]⟩], .int .i64 32768), ([.agg ⟨[.int .i64 1, .int .i64 3, .int .i64 1, .bool false, .string ⟨#[]⟩]⟩], .int .i64 1000), ([.agg ⟨[.int .i64 1, .int .i64 4, .int .i64 0, .bool false, .string ⟨#[]⟩]⟩], .int .i64 10000)]
theorem pk144 : PureOK Tryz.prog 144 (memo m144) := pure_memoR [] ok_A7 hmix fn144 lokf_none (by kernel_rfl) (by kernel_rfl)
def A8 : Env := (Env.nil.add 66 (sp1 Cx.s66)).add 144 (memo m144)
theorem ok_A8 : EnvOK Tryz.prog A8 := env_add (env_add env_nil (pureC Cx.ok66)) pk144
theorem fn70 : Fn1 Tryz.prog 70 Tryz.f70 := ⟨Tryz.func70, by kernel_rfl, by kernel_rfl, by kernel_rfl⟩
def m70 : List (List Value × Value) := [([.agg ⟨[.int .i64 (-150), .string ⟨#[]⟩]⟩, .agg ⟨[.int .i64 1, .int .i64 4, .int .i64 2, .bool false, .string ⟨#[]⟩]⟩], .int .i64 0), ([.agg ⟨[.int .i64 1, .string ⟨#[]⟩]⟩, .agg ⟨[.int .i64 2, .int .i64 15, .int .i64 0, .bool false, .string ⟨#[]⟩]⟩], .int .i64 0), ([.agg ⟨[.int .i64 123, .string ⟨#[]⟩]⟩, .agg ⟨[.int .i64 1, .int .i64 3, .int .i64 1, .bool false, .string ⟨#[]⟩]⟩], .int .i64 0), ([.agg ⟨[.int .i64 1234, .string ⟨#[]⟩]⟩, .agg ⟨[.int .i64 1, .int .i64 4, .int .i64 0, .bool false, .string ⟨#[]⟩]⟩], .int .i64 0)]
theorem pk70 : PureOK Tryz.prog 70 (memo m70) := pure_memoR [] ok_A8 hmix fn70 lokf_none (by kernel_rfl) (by kernel_rfl)
def A9 : Env := Env.nil.add 55 (sp2 s55)
theorem ok_A9 : EnvOK Tryz.prog A9 := env_add env_nil ok55
theorem fn71 : Fn1 Tryz.prog 71 Tryz.f71 := ⟨Tryz.func71, by kernel_rfl, by kernel_rfl, by kernel_rfl⟩
def m71 : List (List Value × Value) := [([.string ⟨#[49, 48, 49]⟩], .bool true), ([.string ⟨#[50]⟩], .bool false)]
theorem pk71 : PureOK Tryz.prog 71 (memo m71) := pure_memoR [] ok_A9 hmix fn71 lokf_none (by kernel_rfl) (by kernel_rfl)
def A10 : Env := (((Env.nil.add 72 (memo m72)).add 20 (memo m20)).add 70 (memo m70)).add 71 (memo m71)
theorem ok_A10 : EnvOK Tryz.prog A10 := env_add (env_add (env_add (env_add env_nil pk72) pk20) pk70) pk71
theorem fn22 : Fn1 Tryz.prog 22 Tryz.f22 := ⟨Tryz.func22, by kernel_rfl, by kernel_rfl, by kernel_rfl⟩
def m22 : List (List Value × Value) := [([.agg ⟨[.int .i64 (-150), .string ⟨#[]⟩]⟩, .agg ⟨[.int .i64 1, .int .i64 4, .int .i64 2, .bool false, .string ⟨#[]⟩]⟩], .int .i64 0), ([.agg ⟨[.int .i64 0, .string ⟨#[49, 50, 120]⟩]⟩, .agg ⟨[.int .i64 3, .int .i64 3, .int .i64 0, .bool false, .string ⟨#[]⟩]⟩], .int .i64 0), ([.agg ⟨[.int .i64 1, .string ⟨#[]⟩]⟩, .agg ⟨[.int .i64 2, .int .i64 15, .int .i64 0, .bool false, .string ⟨#[]⟩]⟩], .int .i64 0), ([.agg ⟨[.int .i64 0, .string ⟨#[49, 48, 49]⟩]⟩, .agg ⟨[.int .i64 4, .int .i64 3, .int .i64 0, .bool false, .string ⟨#[]⟩]⟩], .int .i64 0), ([.agg ⟨[.int .i64 123, .string ⟨#[]⟩]⟩, .agg ⟨[.int .i64 1, .int .i64 3, .int .i64 1, .bool false, .string ⟨#[]⟩]⟩], .int .i64 0), ([.agg ⟨[.int .i64 1234, .string ⟨#[]⟩]⟩, .agg ⟨[.int .i64 1, .int .i64 4, .int .i64 0, .bool false, .string ⟨#[]⟩]⟩], .int .i64 0), ([.agg ⟨[.int .i64 0, .string ⟨#[97, 49, 49]⟩]⟩, .agg ⟨[.int .i64 3, .int .i64 3, .int .i64 0, .bool false, .string ⟨#[]⟩]⟩], .int .i64 0), ([.agg ⟨[.int .i64 0, .string ⟨#[50]⟩]⟩, .agg ⟨[.int .i64 4, .int .i64 1, .int .i64 0, .bool false, .string ⟨#[]⟩]⟩], .int .i64 6)]
theorem pk22 : PureOK Tryz.prog 22 (memo m22) := pure_memoR [] ok_A10 hmix fn22 lokf_none (by kernel_rfl) (by kernel_rfl)
def A11 : Env := (Env.nil.add 154 (sp2 s154)).add 131 (sp2 s131)
theorem ok_A11 : EnvOK Tryz.prog A11 := env_add (env_add env_nil ok154) ok131
theorem fn77 : Fn1 Tryz.prog 77 Tryz.f77 := ⟨Tryz.func77, by kernel_rfl, by kernel_rfl, by kernel_rfl⟩
def m77 : List (List Value × Value) := [([.bool true, .string ⟨#[48, 48, 49, 50, 53, 48]⟩, .int .i64 2], .agg ⟨[.bool true, .string ⟨#[49, 50, 53]⟩, .int .i64 1]⟩), ([.bool false, .string ⟨#[49, 50, 48, 48]⟩, .int .i64 0], .agg ⟨[.bool false, .string ⟨#[49, 50]⟩, .int .i64 (-2)]⟩), ([.bool false, .string ⟨#[49, 50, 51]⟩, .int .i64 1], .agg ⟨[.bool false, .string ⟨#[49, 50, 51]⟩, .int .i64 1]⟩), ([.bool false, .string ⟨#[49, 50, 51, 52]⟩, .int .i64 0], .agg ⟨[.bool false, .string ⟨#[49, 50, 51, 52]⟩, .int .i64 0]⟩)]
theorem pk77 : PureOK Tryz.prog 77 (memo m77) := pure_memoR [] ok_A11 hmix fn77 lokf_none (by kernel_rfl) (by kernel_rfl)
def A12 : Env := Env.nil.add 55 (sp2 s55)
theorem ok_A12 : EnvOK Tryz.prog A12 := env_add env_nil ok55
theorem fn84 : Fn1 Tryz.prog 84 Tryz.f84 := ⟨Tryz.func84, by kernel_rfl, by kernel_rfl, by kernel_rfl⟩
def m84 : List (List Value × Value) := [([.agg ⟨[.bool false, .string ⟨#[49, 50, 51, 52, 53]⟩, .int .i64 2]⟩], .bool true), ([.agg ⟨[.bool false, .string ⟨#[49, 50, 51]⟩, .int .i64 1]⟩], .bool true), ([.agg ⟨[.bool false, .string ⟨#[49, 50, 51, 52]⟩, .int .i64 0]⟩], .bool true)]
theorem pk84 : PureOK Tryz.prog 84 (memo m84) := pure_memoR [] ok_A12 hmix fn84 lokf_none (by kernel_rfl) (by kernel_rfl)
def A13 : Env := (Env.nil.add 154 (sp2 s154)).add 30 (sp2 s30)
theorem ok_A13 : EnvOK Tryz.prog A13 := env_add (env_add env_nil ok154) ok30
theorem fn86 : Fn1 Tryz.prog 86 Tryz.f86 := ⟨Tryz.func86, by kernel_rfl, by kernel_rfl, by kernel_rfl⟩
def m86 : List (List Value × Value) := [([.agg ⟨[.bool false, .string ⟨#[49, 50, 51, 52, 53]⟩, .int .i64 2]⟩, .int .i64 1], .string ⟨#[49, 50, 51, 52]⟩), ([.agg ⟨[.bool false, .string ⟨#[49, 50, 51]⟩, .int .i64 1]⟩, .int .i64 2], .string ⟨#[49, 50, 51, 48]⟩), ([.agg ⟨[.bool false, .string ⟨#[49, 50, 51, 52]⟩, .int .i64 0]⟩, .int .i64 0], .string ⟨#[49, 50, 51, 52]⟩)]
theorem pk86 : PureOK Tryz.prog 86 (memo m86) := pure_memoR [] ok_A13 hmix fn86 lokf_none (by kernel_rfl) (by kernel_rfl)
def A14 : Env := ((Env.nil.add 85 (sp1 Cx.s85)).add 84 (memo m84)).add 86 (memo m86)
theorem ok_A14 : EnvOK Tryz.prog A14 := env_add (env_add (env_add env_nil (pureC Cx.ok85)) pk84) pk86
theorem fn26 : Fn1 Tryz.prog 26 Tryz.f26 := ⟨Tryz.func26, by kernel_rfl, by kernel_rfl, by kernel_rfl⟩
def m26 : List (List Value × Value) := [([.agg ⟨[.bool false, .string ⟨#[49, 50, 51, 52, 53]⟩, .int .i64 2]⟩, .agg ⟨[.int .i64 1, .int .i64 3, .int .i64 1, .bool false, .string ⟨#[]⟩]⟩], .tuple ⟨[.agg ⟨[.int .i64 234, .string ⟨#[]⟩]⟩, .int .i64 1, .int .i64 0]⟩), ([.agg ⟨[.bool false, .string ⟨#[49, 50, 51]⟩, .int .i64 1]⟩, .agg ⟨[.int .i64 1, .int .i64 5, .int .i64 2, .bool false, .string ⟨#[]⟩]⟩], .tuple ⟨[.agg ⟨[.int .i64 1230, .string ⟨#[]⟩]⟩, .int .i64 0, .int .i64 0]⟩), ([.agg ⟨[.bool false, .string ⟨#[49, 50, 51, 52]⟩, .int .i64 0]⟩, .agg ⟨[.int .i64 1, .int .i64 3, .int .i64 0, .bool false, .string ⟨#[]⟩]⟩], .tuple ⟨[.agg ⟨[.int .i64 234, .string ⟨#[]⟩]⟩, .int .i64 1, .int .i64 0]⟩)]
theorem pk26 : PureOK Tryz.prog 26 (memo m26) := pure_memoR [] ok_A14 hmix fn26 lokf_none (by kernel_rfl) (by kernel_rfl)
def A15 : Env := Env.nil.add 59 (memo m59)
theorem ok_A15 : EnvOK Tryz.prog A15 := env_add env_nil pk59
theorem fn97 : Fn1 Tryz.prog 97 Tryz.f97 := ⟨Tryz.func97, by kernel_rfl, by kernel_rfl, by kernel_rfl⟩
def m97 : List (List Value × Value) := [([.agg ⟨[.int .i64 (-150), .string ⟨#[]⟩]⟩, .agg ⟨[.int .i64 1, .int .i64 4, .int .i64 2, .bool false, .string ⟨#[]⟩]⟩], .iface 174 (.agg ⟨[.int .i64 (-150), .int .i64 1, .int .i64 4, .int .i64 2, .bool false, .string ⟨#[]⟩]⟩)), ([.agg ⟨[.int .i64 0, .string ⟨#[49, 50, 120]⟩]⟩, .agg ⟨[.int .i64 3, .int .i64 3, .int .i64 0, .bool false, .string ⟨#[]⟩]⟩], .iface 178 (.string ⟨#[49, 50, 120]⟩)), ([.agg ⟨[.int .i64 1, .string ⟨#[]⟩]⟩, .agg ⟨[.int .i64 2, .int .i64 15, .int .i64 0, .bool false, .string ⟨#[]⟩]⟩], .iface 174 (.agg ⟨[.int .i64 1, .int .i64 2, .int .i64 15, .int .i64 0, .bool false, .string ⟨#[]⟩]⟩)), ([.agg ⟨[.int .i64 0, .string ⟨#[49, 48, 49]⟩]⟩, .agg ⟨[.int .i64 4, .int .i64 3, .int .i64 0, .bool false, .string ⟨#[]⟩]⟩], .iface 175 (.string ⟨#[49, 48, 49]⟩)), ([.agg ⟨[.int .i64 123, .string ⟨#[]⟩]⟩, .agg ⟨[.int .i64 1, .int .i64 3, .int .i64 1, .bool false, .string ⟨#[]⟩]⟩], .iface 174 (.agg ⟨[.int .i64 123, .int .i64 1, .int .i64 3, .int .i64 1, .bool false, .string ⟨#[]⟩]⟩)), ([.agg ⟨[.int .i64 1234, .string ⟨#[]⟩]⟩, .agg ⟨[.int .i64 1, .int .i64 4, .int .i64 0, .bool false, .string ⟨#[]⟩]⟩], .iface 174 (.agg ⟨[.int .i64 1234, .int .i64 1, .int .i64 4, .int .i64 0, .bool false, .string ⟨#[]⟩]⟩)), ([.agg ⟨[.int .i64 0, .string ⟨#[97, 49, 49]⟩]⟩, .agg ⟨[.int .i64 3, .int .i64 3, .int .i64 0, .bool false, .string ⟨#[]⟩]⟩], .iface 178 (.string ⟨#[97, 49, 49]⟩))]
theorem pk97 : PureOK Tryz.prog 97 (memo m97) := pure_memoR [] ok_A15 hmix fn97 lokf_none (by kernel_rfl) (by kernel_rfl)
def A16 : Env := Env.nil
theorem ok_A16 : EnvOK Tryz.prog A16 := env_nil
theorem fn112 : Fn1 Tryz.prog 112 Tryz.f112 := ⟨Tryz.func112, by kernel_rfl, by kernel_rfl, by kernel_rfl⟩
def m112 : List (List Value × Value) := [([.agg ⟨[.int .i64 1, .int .i64 4, .int .i64 2, .bool false, .string ⟨#[]⟩]⟩], .int .i64 7), ([.agg ⟨[.int .i64 1, .int .i64 3, .int .i64 1, .bool false, .string ⟨#[]⟩]⟩], .int .i64 6)]
theorem pk112 : PureOK Tryz.prog 112 (memo m112) := pure_memoR [] ok_A16 hmix fn112 lokf_none (by kernel_rfl) (by kernel_rfl)
def A17 : Env := ((Env.nil.add 30 (sp2 s30)).add 29 (memo m29)).add 112 (memo m112)
theorem ok_A17 : EnvOK Tryz.prog A17 := env_add (env_add (env_add env_nil ok30) pk29) pk112
theorem fn321 : Fn1 Tryz.prog 321 Tryz.f321 := ⟨Tryz.func321, by kernel_rfl, by kernel_rfl, by kernel_rfl⟩
def m321 : List (List Value × Value) := [([.agg ⟨[.int .i64 (-150), .int .i64 1, .int .i64 4, .int .i64 2, .bool false, .string ⟨#[]⟩]⟩], .string ⟨#[32, 32, 45, 49, 46, 53, 48]⟩)]
theorem pk321 : PureOK Tryz.prog 321 (memo m321) := pure_memoR [] ok_A17 hmix fn321 lokf_none (by kernel_rfl) (by kernel_rfl)
def A18 : Env := Env.nil
theorem ok_A18 : EnvOK Tryz.prog A18 := env_nil
theorem fn322 : Fn1 Tryz.prog 322 Tryz.f322 := ⟨Tryz.func322, by kernel_rfl, by kernel_rfl, by kernel_rfl⟩
def m322 : List (List Value × Value) := [([.string ⟨#[49, 48, 49]⟩], .string ⟨#[49, 48, 49]⟩)]
theorem pk322 : PureOK Tryz.prog 322 (memo m322) := pure_memoR [] ok_A18 hmix fn322 lokf_none (by kernel_rfl) (by kernel_rfl)
def A19 : Env := Env.nil
theorem ok_A19 : EnvOK Tryz.prog A19 := env_nil
theorem fn324 : Fn1 Tryz.prog 324 Tryz.f324 := ⟨Tryz.func324, by kernel_rfl, by kernel_rfl, by kernel_rfl⟩
def m324 : List (List Value × Value) := [([.string ⟨#[49, 50, 120]⟩], .string ⟨#[49, 50, 120]⟩), ([.string ⟨#[97, 49, 49]⟩], .string ⟨#[97, 49, 49]⟩)]
theorem pk324 : PureOK Tryz.prog 324 (memo m324) := pure_memoR [] ok_A19 hmix fn324 lokf_none (by kernel_rfl) (by kernel_rfl)
def A20 : Env := ((((Env.nil.add 22 (memo m22)).add 97 (memo m97)).add 321 (memo m321)).add 322 (memo m322)).add 324 (memo m324)
theorem ok_A20 : EnvOK Tryz.prog A20 := env_add (env_add (env_add (env_add (env_add env_nil pk22) pk97) pk321) pk322) pk324
theorem fn32 : Fn1 Tryz.prog 32 Tryz.f32 := ⟨Tryz.func32, by kernel_rfl, by kernel_rfl, by kernel_rfl⟩
def m32 : List (List Value × Value) := [([.agg ⟨[.int .i64 (-150), .string ⟨#[]⟩]⟩, .agg ⟨[.int .i64 1, .int .i64 4, .int .i64 2, .bool false, .string ⟨#[]⟩]⟩], .tuple ⟨[.string ⟨#[32, 32, 45, 49, 46, 53, 48]⟩, .int .i64 0]⟩)]
theorem pk32 : PureOK Tryz.prog 32 (memo m32) := pure_memoR [] ok_A20 hmix fn32 lokf_none (by kernel_rfl) (by kernel_rfl)
def A21 : Env := Env.nil
theorem ok_A21 : EnvOK Tryz.prog A21 := env_nil
theorem fn153 : Fn1 Tryz.prog 153 Tryz.f153 := ⟨Tryz.func153, by kernel_rfl, by kernel_rfl, by kernel_rfl⟩
def A22 : Env := Env.nil
theorem ok_A22 : EnvOK Tryz.prog A22 := env_nil
theorem fn214 : Fn1 Tryz.prog 214 Tryz.f214 := ⟨Tryz.func214, by kernel_rfl, by kernel_rfl, by kernel_rfl⟩
def A23 : Env := Env.nil
theorem ok_A23 : EnvOK Tryz.prog A23 := env_nil
theorem fn215 : Fn1 Tryz.prog 215 Tryz.f215 := ⟨Tryz.func215, by kernel_rfl, by kernel_rfl, by kernel_rfl⟩
def A24 : Env := Env.nil
theorem ok_A24 : EnvOK Tryz.prog A24 := env_nil
theorem fn76 : Fn1 Tryz.prog 76 Tryz.f76 := ⟨Tryz.func76, by kernel_rfl, by kernel_rfl, by kernel_rfl⟩
def A25 : Env := ((((Env.nil.add 152 (sp1 Cx.s152)).add 213 (sp1 Cx.s213)).addG 153 (inlQ Tryz.prog A21 noL Tryz.f153)).addG 214 (inlQ Tryz.prog A22 noL Tryz.f214)).addG 215 (inlQ Tryz.prog A23 noL Tryz.f215)
theorem ok_A25 : EnvOK Tryz.prog A25 := env_addG (env_addG (env_addG (env_add (env_add env_nil (pureC Cx.ok152)) (pureC Cx.ok213)) (gen_inlQ ok_A21 hmix fn153 lokf_none)) (gen_inlQ ok_A22 hmix fn214 lokf_none)) (gen_inlQ ok_A23 hmix fn215 lokf_none)
theorem fn212 : Fn1 Tryz.prog 212 Tryz.f212 := ⟨Tryz.func212, by kernel_rfl, by kernel_rfl, by kernel_rfl⟩
def A26 : Env := (((Env.nil.add 152 (sp1 Cx.s152)).add 213 (sp1 Cx.s213)).addG 214 (inlQ Tryz.prog A22 noL Tryz.f214)).addG 215 (inlQ Tryz.prog A23 noL Tryz.f215)
theorem ok_A26 : EnvOK Tryz.prog A26 := env_addG (env_addG (env_add (env_add env_nil (pureC Cx.ok152)) (pureC Cx.ok213)) (gen_inlQ ok_A22 hmix fn214 lokf_none)) (gen_inlQ ok_A23 hmix fn215 lokf_none)
theorem fn263 : Fn1 Tryz.prog 263 Tryz.f263 := ⟨Tryz.func263, by kernel_rfl, by kernel_rfl, by kernel_rfl⟩
def A27 : Env := (Env.nil.add 152 (sp1 Cx.s152)).addG 215 (inlQ Tryz.prog A23 noL Tryz.f215)
theorem ok_A27 : EnvOK Tryz.prog A27 := env_addG (env_add env_nil (pureC Cx.ok152)) (gen_inlQ ok_A23 hmix fn215 lokf_none)
theorem fn264 : Fn1 Tryz.prog 264 Tryz.f264 := ⟨Tryz.func264, by kernel_rfl, by kernel_rfl, by kernel_rfl⟩
def A28 : Env := ((((((((Env.nil.add 152 (sp1 Cx.s152)).add 321 (memo m321)).add 322 (memo m322)).add 324 (memo m324)).addG 153 (inlQ Tryz.prog A21 noL Tryz.f153)).addG 76 (inlQ Tryz.prog A24 noL Tryz.f76)).addG 212 (inlQ Tryz.prog A25 noL Tryz.f212)).addG 263 (inlQ Tryz.prog A26 noL Tryz.f263)).addG 264 (inlQ Tryz.prog A27 noL Tryz.f264)
theorem ok_A28 : EnvOK Tryz.prog A28 := env_addG (env_addG (env_addG (env_addG (env_addG (env_add (env_add (env_add (env_add env_nil (pureC Cx.ok152)) pk321) pk322) pk324) (gen_inlQ ok_A21 hmix fn153 lokf_none)) (gen_inlQ ok_A24 hmix fn76 lokf_none)) (gen_inlQ ok_A25 hmix fn212 lokf_none)) (gen_inlQ ok_A26 hmix fn263 lokf_none)) (gen_inlQ ok_A27 hmix fn264 lokf_none)
theorem fn151 : Fn1 Tryz.prog 151 Tryz.f151 := ⟨Tryz.func151, by kernel_rfl, by kernel_rfl, by kernel_rfl⟩
def A29 : Env := (((((((((Env.nil.add 55 (sp2 s55)).add 77 (memo m77)).add 321 (memo m321)).add 322 (memo m322)).add 324 (memo m324)).addG 76 (inlQ Tryz.prog A24 noL Tryz.f76)).addG 212 (inlQ Tryz.prog A25 noL Tryz.f212)).addG 263 (inlQ Tryz.prog A26 noL Tryz.f263)).addG 264 (inlQ Tryz.prog A27 noL Tryz.f264)).addG 151 (inlQ Tryz.prog A28 noL Tryz.f151)
theorem ok_A29 : EnvOK Tryz.prog A29 := env_addG (env_addG (env_addG (env_addG (env_addG (env_add (env_add (env_add (env_add (env_add env_nil ok55) pk77) pk321) pk322) pk324) (gen_inlQ ok_A24 hmix fn76 lokf_none)) (gen_inlQ ok_A25 hmix fn212 lokf_none)) (gen_inlQ ok_A26 hmix fn263 lokf_none)) (gen_inlQ ok_A27 hmix fn264 lokf_none)) (gen_inlQ ok_A28 hmix fn151 lokf_none)
theorem fn24 : Fn1 Tryz.prog 24 Tryz.f24 := ⟨Tryz.func24, by kernel_rfl, by kernel_rfl, by kernel_rfl⟩
def m24 : List (List Value × Value) := [([.string ⟨#[32, 32, 45, 48, 48, 49, 50, 46, 53, 48, 32]⟩], .tuple ⟨[.agg ⟨[.bool true, .string ⟨#[49, 50, 53]⟩, .int .i64 1]⟩, .bool true]⟩), ([.string ⟨#[49, 50, 48, 48]⟩], .tuple ⟨[.agg ⟨[.bool false, .string ⟨#[49, 50]⟩, .int .i64 (-2)]⟩, .bool true]⟩), ([.string ⟨#[49, 69, 49, 50, 51]⟩], .tuple ⟨[.agg ⟨[.bool false, .string ⟨#[]⟩, .int .i64 0]⟩, .bool false]⟩), ([.string ⟨#[49, 50, 120]⟩], .tuple ⟨[.agg ⟨[.bool false, .string ⟨#[]⟩, .int .i64 0]⟩, .bool false]⟩)]
theorem pk24 : PureOK Tryz.prog 24 (memo m24) := pure_memoR [] ok_A29 hmix fn24 lokf_none (by kernel_rfl) (by kernel_rfl)
def A30 : Env := (((((((((Env.nil.add 29 (memo m29)).add 77 (memo m77)).add 321 (memo m321)).add 322 (memo m322)).add 324 (memo m324)).addG 212 (inlQ Tryz.prog A25 noL Tryz.f212)).addG 263 (inlQ Tryz.prog A26 noL Tryz.f263)).addG 264 (inlQ Tryz.prog A27 noL Tryz.f264)).addG 151 (inlQ Tryz.prog A28 noL Tryz.f151)).add 24 (memo m24)
theorem ok_A30 : EnvOK Tryz.prog A30 := env_add (env_addG (env_addG (env_addG (env_addG (env_add (env_add (env_add (env_add (env_add env_nil pk29) pk77) pk321) pk322) pk324) (gen_inlQ ok_A25 hmix fn212 lokf_none)) (gen_inlQ ok_A26 hmix fn263 lokf_none)) (gen_inlQ ok_A27 hmix fn264 lokf_none)) (gen_inlQ ok_A28 hmix fn151 lokf_none)) pk24
theorem fn222 : Fn1 Tryz.prog 222 Tryz.f222 := ⟨Tryz.func222, by kernel_rfl, by kernel_rfl, by kernel_rfl⟩
def m222 : List (List Value × Value) := [([.iface 178 (.string ⟨#[49, 50, 120]⟩)], .tuple ⟨[.agg ⟨[.bool false, .string ⟨#[]⟩, .int .i64 0]⟩, .iface 119 (.agg ⟨[.string ⟨#[49, 50, 120]⟩]⟩)]⟩), ([.iface 174 (.agg ⟨[.int .i64 123, .int .i64 1, .int .i64 3, .int .i64 1, .bool false, .string ⟨#[]⟩]⟩)], .tuple ⟨[.agg ⟨[.bool false, .string ⟨#[49, 50, 51]⟩, .int .i64 1]⟩, .nilIface]⟩), ([.iface 174 (.agg ⟨[.int .i64 1234, .int .i64 1, .int .i64 4, .int .i64 0, .bool false, .string ⟨#[]⟩]⟩)], .tuple ⟨[.agg ⟨[.bool false, .string ⟨#[49, 50, 51, 52]⟩, .int .i64 0]⟩, .nilIface]⟩)]
theorem pk222 : PureOK Tryz.prog 222 (memo m222) := pure_memoR [] ok_A30 hmix fn222 lokf_none (by kernel_rfl) (by kernel_rfl)
def A31 : Env := (Env.nil.add 26 (memo m26)).add 222 (memo m222)
theorem ok_A31 : EnvOK Tryz.prog A31 := env_add (env_add env_nil pk26) pk222
theorem fn168 : Fn1 Tryz.prog 168 Tryz.f168 := ⟨Tryz.func168, by kernel_rfl, by kernel_rfl, by kernel_rfl⟩
def m168 : List (List Value × Value) := [([.iface 178 (.string ⟨#[49, 50, 120]⟩), .agg ⟨[.int .i64 1, .int .i64 3, .int .i64 0, .bool false, .string ⟨#[]⟩]⟩], .tuple ⟨[.agg ⟨[.int .i64 0, .string ⟨#[]⟩]⟩, .int .i64 0, .iface 119 (.agg ⟨[.string ⟨#[49, 50, 120]⟩]⟩)]⟩), ([.iface 174 (.agg ⟨[.int .i64 123, .int .i64 1, .int .i64 3, .int .i64 1, .bool false, .string ⟨#[]⟩]⟩), .agg ⟨[.int .i64 1, .int .i64 5, .int .i64 2, .bool false, .string ⟨#[]⟩]⟩], .tuple ⟨[.agg ⟨[.int .i64 1230, .string ⟨#[]⟩]⟩, .int .i64 0, .nilIface]⟩), ([.iface 174 (.agg ⟨[.int .i64 1234, .int .i64 1, .int .i64 4, .int .i64 0, .bool false, .string ⟨#[]⟩]⟩), .agg ⟨[.int .i64 1, .int .i64 3, .int .i64 0, .bool false, .string ⟨#[]⟩]⟩], .tuple ⟨[.agg ⟨[.int .i64 234, .string ⟨#[]⟩]⟩, .int .i64 1, .nilIface]⟩)]
theorem pk168 : PureOK Tryz.prog 168 (memo m168) := pure_memoR [] ok_A31 hmix fn168 lokf_none (by kernel_rfl) (by kernel_rfl)
def A32 : Env := Env.nil
theorem ok_A32 : EnvOK Tryz.prog A32 := env_nil
theorem fn115 : Fn1 Tryz.prog 115 Tryz.f115 := ⟨Tryz.func115, by kernel_rfl, by kernel_rfl, by kernel_rfl⟩
def m115 : List (List Value × Value) := [([.agg ⟨[.int .i64 2, .int .i64 15, .int .i64 0, .bool false, .string ⟨#[]⟩]⟩], .int .i64 15), ([.agg ⟨[.int .i64 1, .int .i64 3, .int .i64 0, .bool false, .string ⟨#[]⟩]⟩], .int .i64 10)]
theorem pk115 : PureOK Tryz.prog 115 (memo m115) := pure_memoR [] ok_A32 hmix fn115 lokf_none (by kernel_rfl) (by kernel_rfl)
def A33 : Env := Env.nil
theorem ok_A33 : EnvOK Tryz.prog A33 := env_nil
theorem fn223 : Fn1 Tryz.prog 223 Tryz.f223 := ⟨Tryz.func223, by kernel_rfl, by kernel_rfl, by kernel_rfl⟩
def m223 : List (List Value × Value) := [([.int .i64 1, .int .i64 15], .string ⟨#[48, 48, 48, 48, 48, 48, 48, 48, 48, 48, 48, 48, 48, 48, 49]⟩)]
theorem pk223 : PureOK Tryz.prog 223 (memo m223) := pure_memoR [] ok_A33 hmix fn223 lokf_none (by kernel_rfl) (by kernel_rfl)
def A34 : Env := Env.nil.add 30 (sp2 s30)
theorem ok_A34 : EnvOK Tryz.prog A34 := env_add env_nil ok30
theorem fn169 : Fn1 Tryz.prog 169 Tryz.f169 := ⟨Tryz.func169, by kernel_rfl, by kernel_rfl, by kernel_rfl⟩
def m169 : List (List Value × Value) := [([.string ⟨#[48, 48, 48, 48, 48, 48, 48, 48, 48, 48, 48, 48, 48, 48, 49]⟩, .int .i64 1, .string ⟨#[48]⟩], .string ⟨#[48]⟩), ([.string ⟨#[49, 48, 49]⟩, .int .i64 5, .string ⟨#[32]⟩], .string ⟨#[49, 48, 49, 32, 32]⟩), ([.string ⟨#[97, 49, 49]⟩, .int .i64 3, .string ⟨#[32]⟩], .string ⟨#[97, 49, 49]⟩)]
theorem pk169 : PureOK Tryz.prog 169 (memo m169) := pure_memoR [] ok_A34 hmix fn169 lokf_none (by kernel_rfl) (by kernel_rfl)
def A35 : Env := (((((((((Env.nil.add 71 (memo m71)).add 321 (memo m321)).add 322 (memo m322)).add 324 (memo m324)).addG 212 (inlQ Tryz.prog A25 noL Tryz.f212)).addG 263 (inlQ Tryz.prog A26 noL Tryz.f263)).addG 264 (inlQ Tryz.prog A27 noL Tryz.f264)).addG 151 (inlQ Tryz.prog A28 noL Tryz.f151)).add 115 (memo m115)).add 223 (memo m223)
theorem ok_A35 : EnvOK Tryz.prog A35 := env_add (env_add (env_addG (env_addG (env_addG (env_addG (env_add (env_add (env_add (env_add env_nil pk71) pk321) pk322) pk324) (gen_inlQ ok_A25 hmix fn212 lokf_none)) (gen_inlQ ok_A26 hmix fn263 lokf_none)) (gen_inlQ ok_A27 hmix fn264 lokf_none)) (gen_inlQ ok_A28 hmix fn151 lokf_none)) pk115) pk223
theorem fn170 : Fn1 Tryz.prog 170 Tryz.f170 := ⟨Tryz.func170, by kernel_rfl, by kernel_rfl, by kernel_rfl⟩
def m170 : List (List Value × Value) := [([.iface 174 (.agg ⟨[.int .i64 1, .int .i64 2, .int .i64 15, .int .i64 0, .bool false, .string ⟨#[]⟩]⟩)], .tuple ⟨[.string ⟨#[48, 48, 48, 48, 48, 48, 48, 48, 48, 48, 48, 48, 48, 48, 49]⟩, .nilIface]⟩)]
theorem pk170 : PureOK Tryz.prog 170 (memo m170) := pure_memoR [] ok_A35 hmix fn170 lokf_none (by kernel_rfl) (by kernel_rfl)
def A36 : Env := (((((((((((((Env.nil.add 61 (memo m61)).add 59 (memo m59)).add 171 (memo m171)).add 72 (memo m72)).add 321 (memo m321)).add 322 (memo m322)).add 324 (memo m324)).addG 212 (inlQ Tryz.prog A25 noL Tryz.f212)).addG 263 (inlQ Tryz.prog A26 noL Tryz.f263)).addG 264 (inlQ Tryz.prog A27 noL Tryz.f264)).addG 151 (inlQ Tryz.prog A28 noL Tryz.f151)).add 168 (memo m168)).add 169 (memo m169)).add 170 (memo m170)
theorem ok_A36 : EnvOK Tryz.prog A36 := env_add (env_add (env_add (env_addG (env_addG (env_addG (env_addG (env_add (env_add (env_add (env_add (env_add (env_add (env_add env_nil pk61) pk59) pk171) pk72) pk321) pk322) pk324) (gen_inlQ ok_A25 hmix fn212 lokf_none)) (gen_inlQ ok_A26 hmix fn263 lokf_none)) (gen_inlQ ok_A27 hmix fn264 lokf_none)) (gen_inlQ ok_A28 hmix fn151 lokf_none)) pk168) pk169) pk170
theorem fn99 : Fn1 Tryz.prog 99 Tryz.f99 := ⟨Tryz.func99, by kernel_rfl, by kernel_rfl, by kernel_rfl⟩
def m99 : List (List Value × Value) := [([.iface 178 (.string ⟨#[49, 50, 120]⟩), .agg ⟨[.int .i64 1, .int .i64 3, .int .i64 0, .bool false, .string ⟨#[]⟩]⟩], .tuple ⟨[.agg ⟨[.int .i64 0, .string ⟨#[]⟩]⟩, .int .i64 0, .iface 119 (.agg ⟨[.string ⟨#[49, 50, 120]⟩]⟩)]⟩), ([.iface 174 (.agg ⟨[.int .i64 1, .int .i64 2, .int .i64 15, .int .i64 0, .bool false, .string ⟨#[]⟩]⟩), .agg ⟨[.int .i64 4, .int .i64 1, .int .i64 0, .bool false, .string ⟨#[]⟩]⟩], .tuple ⟨[.agg ⟨[.int .i64 0, .string ⟨#[48]⟩]⟩, .int .i64 0, .nilIface]⟩), ([.iface 175 (.string ⟨#[49, 48, 49]⟩), .agg ⟨[.int .i64 3, .int .i64 5, .int .i64 0, .bool false, .string ⟨#[]⟩]⟩], .tuple ⟨[.agg ⟨[.int .i64 0, .string ⟨#[49, 48, 49, 32, 32]⟩]⟩, .int .i64 0, .nilIface]⟩), ([.iface 174 (.agg ⟨[.int .i64 123, .int .i64 1, .int .i64 3, .int .i64 1, .bool false, .string ⟨#[]⟩]⟩), .agg ⟨[.int .i64 5, .int .i64 0, .int .i64 0, .bool false, .string ⟨#[90, 90, 57, 86, 46, 57, 57]⟩]⟩], .tuple ⟨[.agg ⟨[.int .i64 0, .string ⟨#[32, 49, 50, 46, 51, 48]⟩]⟩, .int .i64 0, .nilIface]⟩), ([.iface 174 (.agg ⟨[.int .i64 1234, .int .i64 1, .int .i64 4, .int .i64 0, .bool false, .string ⟨#[]⟩]⟩), .agg ⟨[.int .i64 5, .int .i64 0, .int .i64 0, .bool false, .string ⟨#[57, 57, 57]⟩]⟩], .tuple ⟨[.agg ⟨[.int .i64 0, .string ⟨#[50, 51, 52]⟩]⟩, .int .i64 1, .nilIface]⟩), ([.iface 178 (.string ⟨#[97, 49, 49]⟩), .agg ⟨[.int .i64 5, .int .i64 0, .int .i64 0, .bool false, .string ⟨#[65, 65, 57]⟩]⟩], .tuple ⟨[.agg ⟨[.int .i64 0, .string ⟨#[]⟩]⟩, .int .i64 0, .iface 119 (.agg ⟨[.string ⟨#[97, 49, 49]⟩]⟩)]⟩)]
theorem pk99 : PureOK Tryz.prog 99 (memo m99) := pure_memoR [0, 0, 0, 0, 0, 2] ok_A36 hmix fn99 lokf_none (by kernel_rfl) (by kernel_rfl)
def A37 : Env := (Env.nil.add 30 (sp2 s30)).add 176 (memo m176)
theorem ok_A37 : EnvOK Tryz.prog A37 := env_add (env_add env_nil ok30) pk176
theorem fn101 : Fn1 Tryz.prog 101 Tryz.f101 := ⟨Tryz.func101, by kernel_rfl, by kernel_rfl, by kernel_rfl⟩
def m101 : List (List Value × Value) := [([.agg ⟨[.int .i64 1, .int .i64 3, .int .i64 0, .bool false, .string ⟨#[]⟩]⟩], .agg ⟨[.int .i64 0, .string ⟨#[]⟩]⟩), ([.agg ⟨[.int .i64 5, .int .i64 0, .int .i64 0, .bool false, .string ⟨#[65, 65, 57]⟩]⟩], .agg ⟨[.int .i64 0, .string ⟨#[32, 32, 32]⟩]⟩)]
theorem pk101 : PureOK Tryz.prog 101 (memo m101) := pure_memoR [] ok_A37 hmix fn101 lokf_none (by kernel_rfl) (by kernel_rfl)
def A38 : Env := (((((Env.nil.addG 100 h100).add 20 (memo m20)).add 22 (memo m22)).add 97 (memo m97)).add 99 (memo m99)).add 101 (memo m101)
theorem ok_A38 : EnvOK Tryz.prog A38 := env_add (env_add (env_add (env_add (env_add (env_addG env_nil genC) pk20) pk22) pk97) pk99) pk101
theorem fn34 : Fn1 Tryz.prog 34 Tryz.f34 := ⟨Tryz.func34, by kernel_rfl, by kernel_rfl, by kernel_rfl⟩
def m34 : List (List Value × Value) := [([.agg ⟨[.int .i64 0, .string ⟨#[49, 50, 120]⟩]⟩, .agg ⟨[.int .i64 3, .int .i64 3, .int .i64 0, .bool false, .string ⟨#[]⟩]⟩, .agg ⟨[.int .i64 1, .int .i64 3, .int .i64 0, .bool false, .string ⟨#[]⟩]⟩], .tuple ⟨[.agg ⟨[.int .i64 0, .string ⟨#[]⟩]⟩, .int .i64 4, .int .i64 0]⟩), ([.agg ⟨[.int .i64 1, .string ⟨#[]⟩]⟩, .agg ⟨[.int .i64 2, .int .i64 15, .int .i64 0, .bool false, .string ⟨#[]⟩]⟩, .agg ⟨[.int .i64 4, .int .i64 1, .int .i64 0, .bool false, .string ⟨#[]⟩]⟩], .tuple ⟨[.agg ⟨[.int .i64 0, .string ⟨#[48]⟩]⟩, .int .i64 0, .int .i64 0]⟩), ([.agg ⟨[.int .i64 0, .string ⟨#[49, 48, 49]⟩]⟩, .agg ⟨[.int .i64 4, .int .i64 3, .int .i64 0, .bool false, .string ⟨#[]⟩]⟩, .agg ⟨[.int .i64 3, .int .i64 5, .int .i64 0, .bool false, .string ⟨#[]⟩]⟩], .tuple ⟨[.agg ⟨[.int .i64 0, .string ⟨#[49, 48, 49, 32, 32]⟩]⟩, .int .i64 0, .int .i64 0]⟩), ([.agg ⟨[.int .i64 123, .string ⟨#[]⟩]⟩, .agg ⟨[.int .i64 1, .int .i64 3, .int .i64 1, .bool false, .string ⟨#[]⟩]⟩, .agg ⟨[.int .i64 5, .int .i64 0, .int .i64 0, .bool false, .string ⟨#[90, 90, 57, 86, 46, 57, 57]⟩]⟩], .tuple ⟨[.agg ⟨[.int .i64 0, .string ⟨#[32, 49, 50, 46, 51, 48]⟩]⟩, .int .i64 0, .int .i64 0]⟩), ([.agg ⟨[.int .i64 1234, .string ⟨#[]⟩]⟩, .agg ⟨[.int .i64 1, .int .i64 4, .int .i64 0, .bool false, .string ⟨#[]⟩]⟩, .agg ⟨[.int .i64 5, .int .i64 0, .int .i64 0, .bool false, .string ⟨#[57, 57, 57]⟩]⟩], .tuple ⟨[.agg ⟨[.int .i64 0, .string ⟨#[50, 51, 52]⟩]⟩, .int .i64 1, .int .i64 0]⟩), ([.agg ⟨[.int .i64 0, .string ⟨#[97, 49, 49]⟩]⟩, .agg ⟨[.int .i64 3, .int .i64 3, .int .i64 0, .bool false, .string ⟨#[]⟩]⟩, .agg ⟨[.int .i64 5, .int .i64 0, .int .i64 0, .bool false, .string ⟨#[65, 65, 57]⟩]⟩], .tuple ⟨[.agg ⟨[.int .i64 0, .string ⟨#[32, 32, 32]⟩]⟩, .int .i64 4, .int .i64 0]⟩)]
theorem pk34 : PureOK Tryz.prog 34 (memo m34) := pure_memoR [] ok_A38 hmix fn34 lokf_none (by kernel_rfl) (by kernel_rfl)
def A39 : Env := Env.nil.add 34 (memo m34)
theorem ok_A39 : EnvOK Tryz.prog A39 := env_add env_nil pk34
theorem fn48 : Fn1 Tryz.prog 48 Tryz.f48 := ⟨Tryz.func48, by kernel_rfl, by kernel_rfl, by kernel_rfl⟩
def m48 : List (List Value × Value) := [([.agg ⟨[.int .i64 0, .string ⟨#[49, 50, 120]⟩]⟩, .agg ⟨[.int .i64 3, .int .i64 3, .int .i64 0, .bool false, .string ⟨#[]⟩]⟩, .agg ⟨[.int .i64 1, .int .i64 3, .int .i64 0, .bool false, .string ⟨#[]⟩]⟩, .agg ⟨[.int .i64 0, .string ⟨#[]⟩]⟩, .int .i64 4], .bool true), ([.agg ⟨[.int .i64 1, .string ⟨#[]⟩]⟩, .agg ⟨[.int .i64 2, .int .i64 15, .int .i64 0, .bool false, .string ⟨#[]⟩]⟩, .agg ⟨[.int .i64 4, .int .i64 1, .int .i64 0, .bool false, .string ⟨#[]⟩]⟩, .agg ⟨[.int .i64 0, .string ⟨#[48]⟩]⟩, .int .i64 0], .bool true), ([.agg ⟨[.int .i64 0, .string ⟨#[49, 48, 49]⟩]⟩, .agg ⟨[.int .i64 4, .int .i64 3, .int .i64 0, .bool false, .string ⟨#[]⟩]⟩, .agg ⟨[.int .i64 3, .int .i64 5, .int .i64 0, .bool false, .string ⟨#[]⟩]⟩, .agg ⟨[.int .i64 0, .string ⟨#[49, 48, 49, 32, 32]⟩]⟩, .int .i64 0], .bool true), ([.agg ⟨[.int .i64 123, .string ⟨#[]⟩]⟩, .agg ⟨[.int .i64 1, .int .i64 3, .int .i64 1, .bool false, .string ⟨#[]⟩]⟩, .agg ⟨[.int .i64 5, .int .i64 0, .int .i64 0, .bool false, .string ⟨#[90, 90, 57, 86, 46, 57, 57]⟩]⟩, .agg ⟨[.int .i64 0, .string ⟨#[32, 49, 50, 46, 51, 48]⟩]⟩, .int .i64 0], .bool true), ([.agg ⟨[.int .i64 1234, .string ⟨#[]⟩]⟩, .agg ⟨[.int .i64 1, .int .i64 4, .int .i64 0, .bool false, .string ⟨#[]⟩]⟩, .agg ⟨[.int .i64 5, .int .i64 0, .int .i64 0, .bool false, .string ⟨#[57, 57, 57]⟩]⟩, .agg ⟨[.int .i64 0, .string ⟨#[50, 51, 52]⟩]⟩, .int .i64 1], .bool true), ([.agg ⟨[.int .i64 0, .string ⟨#[97, 49, 49]⟩]⟩, .agg ⟨[.int .i64 3, .int .i64 3, .int .i64 0, .bool false, .string ⟨#[]⟩]⟩, .agg ⟨[.int .i64 5, .int .i64 0, .int .i64 0, .bool false, .string ⟨#[65, 65, 57]⟩]⟩, .agg ⟨[.int .i64 0, .string ⟨#[32, 32, 32]⟩]⟩, .int .i64 4], .bool true)]
theorem pk48 : PureOK Tryz.prog 48 (memo m48) := pure_memoR [] ok_A39 hmix fn48 lokf_none (by kernel_rfl) (by kernel_rfl)
def A40 : Env := Env.nil.add 20 (memo m20)
theorem ok_A40 : EnvOK Tryz.prog A40 := env_add env_nil pk20
theorem fn108 : Fn1 Tryz.prog 108 Tryz.f108 := ⟨Tryz.func108, by kernel_rfl, by kernel_rfl, by kernel_rfl⟩
def m108 : List (List Value × Value) := [([.agg ⟨[.int .i64 4, .int .i64 3, .int .i64 0, .bool false, .string ⟨#[]⟩]⟩], .int .i64 0), ([.agg ⟨[.int .i64 1, .int .i64 3, .int .i64 1, .bool false, .string ⟨#[]⟩]⟩], .int .i64 0), ([.agg ⟨[.int .i64 1, .int .i64 3, .int .i64 0, .bool false, .string ⟨#[]⟩]⟩], .int .i64 0), ([.agg ⟨[.int .i64 2, .int .i64 15, .int .i64 0, .bool false, .string ⟨#[]⟩]⟩], .int .i64 0)]
theorem pk108 : PureOK Tryz.prog 108 (memo m108) := pure_memoR [] ok_A40 hmix fn108 lokf_none (by kernel_rfl) (by kernel_rfl)
def A41 : Env := (((Env.nil.add 61 (memo m61)).add 59 (memo m59)).add 85 (sp1 Cx.s85)).add 108 (memo m108)
theorem ok_A41 : EnvOK Tryz.prog A41 := env_add (env_add (env_add (env_add env_nil pk61) pk59) (pureC Cx.ok85)) pk108
theorem fn38 : Fn1 Tryz.prog 38 Tryz.f38 := ⟨Tryz.func38, by kernel_rfl, by kernel_rfl, by kernel_rfl⟩
def m38 : List (List Value × Value) := [([.agg ⟨[.int .i64 4, .int .i64 3, .int .i64 0, .bool false, .string ⟨#[]⟩]⟩], .tuple ⟨[.agg ⟨[.int .i64 2, .int .i64 31, .int .i64 0, .bool false, .string ⟨#[]⟩]⟩, .int .i64 0]⟩), ([.agg ⟨[.int .i64 1, .int .i64 3, .int .i64 1, .bool false, .string ⟨#[]⟩]⟩], .tuple ⟨[.agg ⟨[.int .i64 1, .int .i64 3, .int .i64 1, .bool false, .string ⟨#[]⟩]⟩, .int .i64 0]⟩), ([.agg ⟨[.int .i64 2, .int .i64 15, .int .i64 0, .bool false, .string ⟨#[]⟩]⟩], .tuple ⟨[.agg ⟨[.int .i64 2, .int .i64 15, .int .i64 0, .bool false, .string ⟨#[]⟩]⟩, .int .i64 0]⟩)]
theorem pk38 : PureOK Tryz.prog 38 (memo m38) := pure_memoR [] ok_A41 hmix fn38 lokf_none (by kernel_rfl) (by kernel_rfl)
def A42 : Env := ((Env.nil.add 113 (memo m113)).add 112 (memo m112)).add 108 (memo m108)
theorem ok_A42 : EnvOK Tryz.prog A42 := env_add (env_add (env_add env_nil pk113) pk112) pk108
theorem fn40 : Fn1 Tryz.prog 40 Tryz.f40 := ⟨Tryz.func40, by kernel_rfl, by kernel_rfl, by kernel_rfl⟩
def m40 : List (List Value × Value) := [([.agg ⟨[.int .i64 1, .int .i64 3, .int .i64 1, .bool false, .string ⟨#[]⟩]⟩], .tuple ⟨[.agg ⟨[.int .i64 3, .int .i64 6, .int .i64 0, .bool false, .string ⟨#[]⟩]⟩, .int .i64 0]⟩)]
theorem pk40 : PureOK Tryz.prog 40 (memo m40) := pure_memoR [] ok_A42 hmix fn40 lokf_none (by kernel_rfl) (by kernel_rfl)
def A43 : Env := (((Env.nil.add 61 (memo m61)).add 85 (sp1 Cx.s85)).add 115 (memo m115)).add 108 (memo m108)
theorem ok_A43 : EnvOK Tryz.prog A43 := env_add (env_add (env_add (env_add env_nil pk61) (pureC Cx.ok85)) pk115) pk108
theorem fn42 : Fn1 Tryz.prog 42 Tryz.f42 := ⟨Tryz.func42, by kernel_rfl, by kernel_rfl, by kernel_rfl⟩
def m42 : List (List Value × Value) := [([.agg ⟨[.int .i64 1, .int .i64 3, .int .i64 0, .bool false, .string ⟨#[]⟩]⟩], .tuple ⟨[.agg ⟨[.int .i64 4, .int .i64 10, .int .i64 0, .bool false, .string ⟨#[]⟩]⟩, .int .i64 0]⟩)]
theorem pk42 : PureOK Tryz.prog 42 (memo m42) := pure_memoR [] ok_A43 hmix fn42 lokf_none (by kernel_rfl) (by kernel_rfl)
def A44 : Env := Env.nil.add 66 (sp1 Cx.s66)
theorem ok_A44 : EnvOK Tryz.prog A44 := env_add env_nil (pureC Cx.ok66)
theorem fn117 : Fn1 Tryz.prog 117 Tryz.f117 := ⟨Tryz.func117, by kernel_rfl, by kernel_rfl, by kernel_rfl⟩
def m117 : List (List Value × Value) := [([.agg ⟨[.int .i64 1, .int .i64 3, .int .i64 1, .bool false, .string ⟨#[]⟩]⟩], .tuple ⟨[.agg ⟨[.int .i64 2, .int .i64 11, .int .i64 0, .bool false, .string ⟨#[]⟩]⟩, .int .i64 0]⟩)]
theorem pk117 : PureOK Tryz.prog 117 (memo m117) := pure_memoR [] ok_A44 hmix fn117 lokf_none (by kernel_rfl) (by kernel_rfl)
def A45 : Env := Env.nil
theorem ok_A45 : EnvOK Tryz.prog A45 := env_nil
theorem fn53 : Fn1 Tryz.prog 53 Tryz.f53 := ⟨Tryz.func53, by kernel_rfl, by kernel_rfl, by kernel_rfl⟩
def m53 : List (List Value × Value) := [([.int .i64 (-150)], .agg ⟨[.int .i64 (-150), .string ⟨#[]⟩]⟩), ([.int .i64 0], .agg ⟨[.int .i64 0, .string ⟨#[]⟩]⟩), ([.int .i64 1], .agg ⟨[.int .i64 1, .string ⟨#[]⟩]⟩), ([.int .i64 123], .agg ⟨[.int .i64 123, .string ⟨#[]⟩]⟩), ([.int .i64 1234], .agg ⟨[.int .i64 1234, .string ⟨#[]⟩]⟩), ([.int .i64 234], .agg ⟨[.int .i64 234, .string ⟨#[]⟩]⟩)]
theorem pk53 : PureOK Tryz.prog 53 (memo m53) := pure_memoR [] ok_A45 hmix fn53 lokf_none (by kernel_rfl) (by kernel_rfl)
def A46 : Env := Env.nil
theorem ok_A46 : EnvOK Tryz.prog A46 := env_nil
theorem fn65 : Fn1 Tryz.prog 65 Tryz.f65 := ⟨Tryz.func65, by kernel_rfl, by kernel_rfl, by kernel_rfl⟩
def m65 : List (List Value × Value) := [([.int .i64 3, .int .i64 1], .agg ⟨[.int .i64 1, .int .i64 3, .int .i64 1, .bool false, .string ⟨#[]⟩]⟩), ([.int .i64 4, .int .i64 2], .agg ⟨[.int .i64 1, .int .i64 4, .int .i64 2, .bool false, .string ⟨#[]⟩]⟩), ([.int .i64 3, .int .i64 0], .agg ⟨[.int .i64 1, .int .i64 3, .int .i64 0, .bool false, .string ⟨#[]⟩]⟩), ([.int .i64 4, .int .i64 0], .agg ⟨[.int .i64 1, .int .i64 4, .int .i64 0, .bool false, .string ⟨#[]⟩]⟩)]
theorem pk65 : PureOK Tryz.prog 65 (memo m65) := pure_memoR [] ok_A46 hmix fn65 lokf_none (by kernel_rfl) (by kernel_rfl)
def A47 : Env := Env.nil
theorem ok_A47 : EnvOK Tryz.prog A47 := env_nil
theorem fn50 : Fn1 Tryz.prog 50 Tryz.f50 := ⟨Tryz.func50, by kernel_rfl, by kernel_rfl, by kernel_rfl⟩
def m50 : List (List Value × Value) := [([.int .i64 15], .agg ⟨[.int .i64 2, .int .i64 15, .int .i64 0, .bool false, .string ⟨#[]⟩]⟩), ([.int .i64 11], .agg ⟨[.int .i64 2, .int .i64 11, .int .i64 0, .bool false, .string ⟨#[]⟩]⟩), ([.int .i64 31], .agg ⟨[.int .i64 2, .int .i64 31, .int .i64 0, .bool false, .string ⟨#[]⟩]⟩)]
theorem pk50 : PureOK Tryz.prog 50 (memo m50) := pure_memoR [] ok_A47 hmix fn50 lokf_none (by kernel_rfl) (by kernel_rfl)
def A48 : Env := Env.nil
theorem ok_A48 : EnvOK Tryz.prog A48 := env_nil
theorem fn51 : Fn1 Tryz.prog 51 Tryz.f51 := ⟨Tryz.func51, by kernel_rfl, by kernel_rfl, by kernel_rfl⟩
def m51 : List (List Value × Value) := [([.int .i64 1], .agg ⟨[.int .i64 4, .int .i64 1, .int .i64 0, .bool false, .string ⟨#[]⟩]⟩), ([.int .i64 3], .agg ⟨[.int .i64 4, .int .i64 3, .int .i64 0, .bool false, .string ⟨#[]⟩]⟩), ([.int .i64 10], .agg ⟨[.int .i64 4, .int .i64 10, .int .i64 0, .bool false, .string ⟨#[]⟩]⟩), ([.int .i64 64], .agg ⟨[.int .i64 4, .int .i64 64, .int .i64 0, .bool false, .string ⟨#[]⟩]⟩)]
theorem pk51 : PureOK Tryz.prog 51 (memo m51) := pure_memoR [] ok_A48 hmix fn51 lokf_none (by kernel_rfl) (by kernel_rfl)
def A49 : Env := Env.nil
theorem ok_A49 : EnvOK Tryz.prog A49 := env_nil
theorem fn54 : Fn1 Tryz.prog 54 Tryz.f54 := ⟨Tryz.func54, by kernel_rfl, by kernel_rfl, by kernel_rfl⟩
def m54 : List (List Value × Value) := [([.int .i64 3], .agg ⟨[.int .i64 3, .int .i64 3, .int .i64 0, .bool false, .string ⟨#[]⟩]⟩), ([.int .i64 5], .agg ⟨[.int .i64 3, .int .i64 5, .int .i64 0, .bool false, .string ⟨#[]⟩]⟩), ([.int .i64 6], .agg ⟨[.int .i64 3, .int .i64 6, .int .i64 0, .bool false, .string ⟨#[]⟩]⟩), ([.int .i64 256], .agg ⟨[.int .i64 3, .int .i64 256, .int .i64 0, .bool false, .string ⟨#[]⟩]⟩)]
theorem pk54 : PureOK Tryz.prog 54 (memo m54) := pure_memoR [] ok_A49 hmix fn54 lokf_none (by kernel_rfl) (by kernel_rfl)
def A50 : Env := Env.nil
theorem ok_A50 : EnvOK Tryz.prog A50 := env_nil
theorem fn60 : Fn1 Tryz.prog 60 Tryz.f60 := ⟨Tryz.func60, by kernel_rfl, by kernel_rfl, by kernel_rfl⟩
def m60 : List (List Value × Value) := [([.string ⟨#[90, 90, 57, 86, 46, 57, 57]⟩], .agg ⟨[.int .i64 5, .int .i64 0, .int .i64 0, .bool false, .string ⟨#[90, 90, 57, 86, 46, 57, 57]⟩]⟩), ([.string ⟨#[57, 57, 57]⟩], .agg ⟨[.int .i64 5, .int .i64 0, .int .i64 0, .bool false, .string ⟨#[57, 57, 57]⟩]⟩), ([.string ⟨#[65, 65, 57]⟩], .agg ⟨[.int .i64 5, .int .i64 0, .int .i64 0, .bool false, .string ⟨#[65, 65, 57]⟩]⟩)]
theorem pk60 : PureOK Tryz.prog 60 (memo m60) := pure_memoR [] ok_A50 hmix fn60 lokf_none (by kernel_rfl) (by kernel_rfl)
def A51 : Env := Env.nil
theorem ok_A51 : EnvOK Tryz.prog A51 := env_nil
theorem fn52 : Fn1 Tryz.prog 52 Tryz.f52 := ⟨Tryz.func52, by kernel_rfl, by kernel_rfl, by kernel_rfl⟩
def m52 : List (List Value × Value) := [([.string ⟨#[49, 50, 120]⟩], .agg ⟨[.int .i64 0, .string ⟨#[49, 50, 120]⟩]⟩), ([.string ⟨#[48]⟩], .agg ⟨[.int .i64 0, .string ⟨#[48]⟩]⟩), ([.string ⟨#[49, 48, 49]⟩], .agg ⟨[.int .i64 0, .string ⟨#[49, 48, 49]⟩]⟩), ([.string ⟨#[49, 48, 49, 32, 32]⟩], .agg ⟨[.int .i64 0, .string ⟨#[49, 48, 49, 32, 32]⟩]⟩), ([.string ⟨#[32, 49, 50, 46, 51, 48]⟩], .agg ⟨[.int .i64 0, .string ⟨#[32, 49, 50, 46, 51, 48]⟩]⟩), ([.string ⟨#[50, 51, 52]⟩], .agg ⟨[.int .i64 0, .string ⟨#[50, 51, 52]⟩]⟩), ([.string ⟨#[97, 49, 49]⟩], .agg ⟨[.int .i64 0, .string ⟨#[97, 49, 49]⟩]⟩), ([.string ⟨#[32, 32, 32]⟩], .agg ⟨[.int .i64 0, .string ⟨#[32, 32, 32]⟩]⟩), ([.string ⟨#[50]⟩], .agg ⟨[.int .i64 0, .string ⟨#[50]⟩]⟩)]
theorem pk52 : PureOK Tryz.prog 52 (memo m52) := pure_memoR [] ok_A51 hmix fn52 lokf_none (by kernel_rfl) (by kernel_rfl)
def A52 : Env := (((((((((((((Env.nil.add 59 (memo m59)).add 85 (sp1 Cx.s85)).add 20 (memo m20)).add 321 (memo m321)).add 322 (memo m322)).add 324 (memo m324)).addG 212 (inlQ Tryz.prog A25 noL Tryz.f212)).addG 263 (inlQ Tryz.prog A26 noL Tryz.f263)).addG 264 (inlQ Tryz.prog A27 noL Tryz.f264)).addG 151 (inlQ Tryz.prog A28 noL Tryz.f151)).add 38 (memo m38)).add 40 (memo m40)).add 42 (memo m42)).add 117 (memo m117)
theorem ok_A52 : EnvOK Tryz.prog A52 := env_add (env_add (env_add (env_add (env_addG (env_addG (env_addG (env_addG (env_add (env_add (env_add (env_add (env_add (env_add env_nil pk59) (pureC Cx.ok85)) pk20) pk321) pk322) pk324) (gen_inlQ ok_A25 hmix fn212 lokf_none)) (gen_inlQ ok_A26 hmix fn263 lokf_none)) (gen_inlQ ok_A27 hmix fn264 lokf_none)) (gen_inlQ ok_A28 hmix fn151 lokf_none)) pk38) pk40) pk42) pk117
theorem fn44 : Fn1 Tryz.prog 44 Tryz.f44 := ⟨Tryz.func44, by kernel_rfl, by kernel_rfl, by kernel_rfl⟩
def A53 : Env := Env.nil
theorem ok_A53 : EnvOK Tryz.prog A53 := env_nil
theorem fn46 : Fn1 Tryz.prog 46 Tryz.f46 := ⟨Tryz.func46, by kernel_rfl, by kernel_rfl, by kernel_rfl⟩
def L46 : List Value := [.int .i64 2, .int .i64 11, .int .i64 0, .bool false, .string ⟨#[]⟩, .int .i64 2, .int .i64 15, .int .i64 0, .bool false, .string ⟨#[]⟩]
def s46c : Ab.Spec := fun args bs => match args, bs with
 | [.slice (some ⟨_, 0, some 1⟩) 2 _, .slice (some ⟨_, 0, some 1⟩) 2 _], [some ⟨l1, _, _⟩, some ⟨l2, _, _⟩] => match eqVL (l1.take 10) L46 && eqVL (l2.take 10) L46 with
  | true => some (plainL l1 && plainL l2, .bool true)
  | false => none
 | _, _ => none
def vwT (c d : List Value) (t u : TypeId) : Lk := fun k => match k with | 0 => some ⟨c, t, false⟩ | 1 => some ⟨d, u, false⟩ | _ => none
theorem v46 (r1 r2 : List Value) (t u : TypeId) (c1 c2 : Nat) (R : Value → Prop) : bodyQ Tryz.prog A53 noL Tryz.f46 [.slice (some ⟨0, 0, some 1⟩) 2 c1, .slice (some ⟨1, 0, some 1⟩) 2 c2] (vwT (L46 ++ r1) (L46 ++ r2) t u) 2 (fun v _ _ => R v) = R (B true) := by kernel_rfl
theorem pk46 : PureOK Tryz.prog 46 s46c := by
 refine pure_viewQ ok_A53 hmix fn46 lokf_none fun args bs v hs => ?_
 unfold s46c at hs
 split at hs
 case h_2 => cases hs
 rename_i k1 c1 k2 c2 l1 t1 o1 l2 t2 o2
 split at hs
 case h_2 => cases hs
 rename_i hq
 simp only [Option.some.injEq, Prod.mk.injEq, Bool.and_eq_true] at hs hq
 obtain ⟨⟨p1, p2⟩, rfl⟩ := hs
 obtain ⟨q1, q2⟩ := hq
 have e1 : l1 = L46 ++ l1.drop 10 := by rw [← eqVL_spec q1, List.take_append_drop]
 have e2 : l2 = L46 ++ l2.drop 10 := by rw [← eqVL_spec q2, List.take_append_drop]
 refine ⟨[.slice (some ⟨0, 0, some 1⟩) 2 c1, .slice (some ⟨1, 0, some 1⟩) 2 c2], 2, rfl, rfl, Nat.le_of_ble_eq_true (by kernel_rfl), ?_⟩
 have e : viewL [some ⟨l1, t1, o1⟩, some ⟨l2, t2, o2⟩] = vwT (L46 ++ l1.drop 10) (L46 ++ l2.drop 10) t1 t2 := by
  funext k
  rw [← e1, ← e2]
  match k with
  | 0 => simp only [viewL, view1, p1, vwT]
  | 1 => simp only [viewL, view1, p2, vwT]
  | k + 2 => rfl
 rw [DoesVQ, e, v46]
def A54 : Env := (((((((((((((((((Env.nil.add 20 (memo m20)).add 22 (memo m22)).add 26 (memo m26)).add 32 (memo m32)).add 24 (memo m24)).add 48 (memo m48)).add 38 (memo m38)).add 40 (memo m40)).add 42 (memo m42)).add 53 (memo m53)).add 65 (memo m65)).add 50 (memo m50)).add 51 (memo m51)).add 54 (memo m54)).add 60 (memo m60)).add 52 (memo m52)).addG 44 (inlQ Tryz.prog A52 noL Tryz.f44)).add 46 (s46c)
theorem ok_A54 : EnvOK Tryz.prog A54 := env_add (env_addG (env_add (env_add (env_add (env_add (env_add (env_add (env_add (env_add (env_add (env_add (env_add (env_add (env_add (env_add (env_add (env_add env_nil pk20) pk22) pk26) pk32) pk24) pk48) pk38) pk40) pk42) pk53) pk65) pk50) pk51) pk54) pk60) pk52) (gen_inlQ ok_A52 hmix fn44 lokf_none)) pk46
end Go.Cs
end
noncomputable section
set_option maxRecDepth 100000
namespace Go.Cs
open Go Go.Ab Go.Proofs Go.Px Go.Cx
def T31 : List Value := [.int .i64 1, .int .i64 3, .int .i64 1, .bool false, .string ⟨#[]⟩]
theorem fn18 : Fn1 Tryz.prog 18 Tryz.f18 := ⟨Tryz.func18, by kernel_rfl, by kernel_rfl, by kernel_rfl⟩
theorem v18 (R : Value → Prop) : bodyQ Tryz.prog A54 noL Tryz.f18 [] (fun _ => none) 0 (fun v _ _ => R v) = ( ∀ (cap : Nat) (tail : List Value), tailOK tail cap 1 5 = true → bif Nat.beq (List.length (T31 ++ tail)) (cap * 5) && Nat.ble 1 cap && Nat.ble cap 9223372036854775807 && true && true then ∀ (cap : Nat) (tail : List Value), tailOK tail cap (1 + 1) 5 = true → bif plainL (L46 ++ tail) && plainL L46 then R (B true) else False else False) := by kernel_rfl
def s18 : Bool × Value := (true, .bool true)
theorem okC18 : PureOK Tryz.prog 18 (sp0 s18) := by
 refine qure0 ok_A54 hmix fn18 lokf_none fun _ => ?_
 rw [DoesQ, v18]
 intro cap tail h
 simp only [tailOK, Bool.and_eq_true] at h
 obtain ⟨⟨⟨_, h2⟩, h3⟩, h4⟩ := h
 have e : (T31 ++ tail).length = tail.length + 1 * 5 := by rw [List.length_append]; show 5 + _ = _; omega
 refine c_t (by rw [e, h2, h3, h4]; rfl) fun cap2 tail2 h => ?_
 simp only [tailOK, Bool.and_eq_true] at h
 obtain ⟨⟨⟨h1, _⟩, _⟩, _⟩ := h
 refine c_t ?_ rfl
 have : plainL (L46 ++ tail2) = true := by rw [plainL_iff] at h1 ⊢; intro v hv; rcases List.mem_append.1 hv with hv | hv; exact plainL_iff.1 (show plainL L46 = true from rfl) v hv; exact h1 v hv
 rw [this]
 rfl
theorem ok18 : @PureOK tabs Tryz.prog 18 (sp0 s18) := pureT okC18
end Go.Cs
end
noncomputable section
set_option maxHeartbeats 3200000
namespace Go.Cx
open Go Go.Ab Go.Proofs Go.Shelf Go.Px Go.Cv
open Go.Fx (Ty Vl check Valid most base pw bnd Fit fits tv vv tup V0 T0 pw_zero pw_succ wrap_mul pw_w64 str0)
instance tabsT : Tabs := tabs
def sz63 (t : Ty) : Prop := t.s.size ≤ 9223372036854775807
instance (t : Ty) : Decidable (sz63 t) := by unfold sz63; infer_instance
def M0 : Env := (Env.nil.add 66 (sp1 s66)).add 67 (sp1 Px.s33)
theorem ok_M0 : EnvOK Tryz.prog M0 := env_add (env_add env_nil ok66) Px.ok33
def s20f (t : Ty) : Bool × Value := (decide (sz63 t), I (chk4 t))
theorem v20f (t : Ty) (R : Value → Prop) : bodyQ Tryz.prog M0 noL Tryz.f20 [Enc.enc t] (fun _ => none) 0 (fun v _ _ => R v) = ( bif Ty.k t == 1 then R (I (check t)) else bif Ty.k t == 2 then R (I (check t)) else bif Ty.k t == 3 then (bif decide (Ty.p t ≥ 0) || true then bif !(decide (Ty.p t ≥ 0) && decide (Ty.p t ≤ 255)) || true then bif !(decide (Ty.p t ≥ 0) && decide (Ty.p t ≤ 255)) || !(Ty.k t == Ty.k t && (Ty.p t == Ty.p t && (Ty.q t == 0 && (Ty.v t == Ty.v t && (ByteArray.toList (Ty.s t) == ByteArray.toList (ByteArray.mk #[]) && true))))) then R (I 5) else R (I 0) else False else False) ∧ bif decide (Ty.p t ≥ 0) || true then bif !(decide (Ty.p t ≥ 0) && decide (Ty.p t ≤ 255)) || true then bif !(decide (Ty.p t ≥ 0) && decide (Ty.p t ≤ 255)) || !(Ty.k t == Ty.k t && (Ty.p t == Ty.p t && (Ty.q t == 0 && (Ty.v t == Ty.v t && (ByteArray.toList (Ty.s t) == ByteArray.toList (ByteArray.mk #[]) && true))))) then R (I 5) else R (I 0) else False else False else bif Ty.k t == 4 then bif decide (Ty.p t ≥ 0) || true then bif !(decide (Ty.p t ≥ 0) && decide (Ty.p t ≤ 64)) || true then bif !(decide (Ty.p t ≥ 0) && decide (Ty.p t ≤ 64)) || !(Ty.k t == Ty.k t && (Ty.p t == Ty.p t && (Ty.q t == 0 && (Ty.v t == false && (ByteArray.toList (Ty.s t) == ByteArray.toList (ByteArray.mk #[]) && true))))) then R (I 5) else R (I 0) else False else False else bif Ty.k t == 5 then bif decide (ByteArray.size (Ty.s t) ≤ 9223372036854775807) then bif !pE (bz (Ty.s t)) == 0 || true then bif !pE (bz (Ty.s t)) == 0 || !(Ty.k t == Ty.k t && (Ty.p t == 0 && (Ty.q t == 0 && (Ty.v t == false && (ByteArray.toList (Ty.s t) == ByteArray.toList (Ty.s t) && true))))) then R (I 5) else R (I 0) else False else False else bif Ty.k t == 6 then bif !true || !(Ty.k t == Ty.k t && (Ty.p t == 0 && (Ty.q t == 0 && (Ty.v t == false && (ByteArray.toList (Ty.s t) == ByteArray.toList (ByteArray.mk #[]) && true))))) then R (I 5) else R (I 0) else R (I 5)) := by kernel_rfl
theorem ok20f : PureOK Tryz.prog 20 (sp1 s20f) := by
 refine qure1 ok_M0 hmix fn20 lokf_none (Nat.le_of_ble_eq_true (by kernel_rfl)) fun t hc => ?_
 rw [DoesQ, v20f]
 have hc : (sz63 t) := of_decide_eq_true hc
 try dsimp only [s20f]
 have hs : t.s.size ≤ 9223372036854775807 := hc
 have nvk : ∀ k : Int, t.k = k → k ≠ 1 → k ≠ 2 → ¬ Valid t := fun k hk h1 h2 hv => by have := hv.1; omega
 have ck : t.k = 1 ∨ t.k = 2 → check t = chk4 t := fun hk => by
  unfold Fx.check chk4
  by_cases hv : Valid t
  ·rw [if_pos hv, if_pos hv]
  ·rw [if_neg hv, if_neg hv, if_neg (by omega), if_neg (by omega), if_neg (by omega), if_neg (by omega)]
 refine cond_intro (fun hk => ?_) (fun h1 => ?_)
 ·rw [ck (.inl (by simpa using hk))]
 refine cond_intro (fun hk => ?_) (fun h2 => ?_)
 ·rw [ck (.inr (by simpa using hk))]
 have h1 : t.k ≠ 1 := by simpa using h1
 have h2 : t.k ≠ 2 := by simpa using h2
 have nv : ¬ Valid t := nvk _ rfl h1 h2
 refine cond_intro (fun h3 => ?_) (fun h3 => ?_)
 ·have h3 : t.k = 3 := by simpa using h3
  have key : ∀ X : Prop, (bif !(decide (t.p ≥ 0) && decide (t.p ≤ 255)) || !(t.k == t.k && (t.p == t.p && (t.q == 0 && (t.v == t.v && (t.s.toList == (ByteArray.mk #[]).toList && true))))) then Value.int IntKind.i64 5 = I (chk4 t) else Value.int IntKind.i64 0 = I (chk4 t)) := fun _ => by
   rw [empty_iff]
   unfold chk4
   rw [if_neg nv]
   refine cond_intro (fun h => ?_) (fun h => ?_)
   ·rw [if_neg, if_neg (by omega), if_neg (by omega), if_neg (by omega)]
    rintro ⟨-, q1, q2, q3, q4⟩
    simp [q1, q2, q3, q4] at h
   ·rw [if_pos]
    simp at h
    exact ⟨h3, h.2.1, h.2.2, h.1.1, h.1.2⟩
  exact ⟨c_t (Bool.or_true _) (c_t (Bool.or_true _) (key True)), c_t (Bool.or_true _) (c_t (Bool.or_true _) (key True))⟩
 have h3 : t.k ≠ 3 := by simpa using h3
 refine cond_intro (fun h4 => ?_) (fun h4 => ?_)
 ·have h4 : t.k = 4 := by simpa using h4
  refine c_t (Bool.or_true _) (c_t (Bool.or_true _) ?_)
  rw [empty_iff]
  unfold chk4
  rw [if_neg nv, if_neg (by omega)]
  refine cond_intro (fun h => ?_) (fun h => ?_)
  ·rw [if_neg, if_neg (by omega), if_neg (by omega)]
   rintro ⟨-, q1, q2, q3, q4, q5⟩
   simp [q1, q2, q3, q4, q5] at h
  ·rw [if_pos]
   simp at h
   exact ⟨h4, h.2.1, h.2.2.2, h.2.2.1, h.1.1, h.1.2⟩
 have h4 : t.k ≠ 4 := by simpa using h4
 refine cond_intro (fun h5 => ?_) (fun h5 => ?_)
 ·have h5 : t.k = 5 := by simpa using h5
  refine c_t (decide_eq_true hs) (c_t (Bool.or_true _) ?_)
  unfold chk4
  rw [if_neg nv, if_neg (by omega), if_neg (by omega)]
  refine cond_intro (fun h => ?_) (fun h => ?_)
  ·rw [if_neg, if_neg (by omega)]
   rintro ⟨-, q1, q2, q3, q4⟩
   simp [q1, q2, q3, q4] at h
  ·rw [if_pos]
   simp at h
   exact ⟨h5, h.2.1, h.2.2.1, h.2.2.2, h.1⟩
 have h5 : t.k ≠ 5 := by simpa using h5
 refine cond_intro (fun h6 => ?_) (fun h6 => ?_)
 ·have h6 : t.k = 6 := by simpa using h6
  rw [empty_iff]
  unfold chk4
  rw [if_neg nv, if_neg (by omega), if_neg (by omega), if_neg (by omega)]
  refine cond_intro (fun h => ?_) (fun h => ?_)
  ·rw [if_neg]
   rintro ⟨-, q1, q2, q3, q4⟩
   simp [q1, q2, q3, q4] at h
  ·rw [if_pos]
   simp at h
   exact ⟨h6, h.2.1, h.2.2.2, h.1, h.2.2.1⟩
 have h6 : t.k ≠ 6 := by simpa using h6
 unfold chk4
 rw [if_neg nv, if_neg (by omega), if_neg (by omega), if_neg (by omega), if_neg (by omega)]
instance tabsT1 : Tabs := tabs
def Q0 : Env := (((Env.nil.add 20 (sp1 s20f)).add 70 (sp2 s70)).add 71 (sp1 s71)).add 72 (sp2 Px.s24)
theorem ok_Q0 : EnvOK Tryz.prog Q0 := env_add (env_add (env_add (env_add env_nil ok20f) ok70) ok71) Px.ok24
def s22f (v : Vl) (t : Ty) : Bool × Value := (decide (t.s.size ≤ 9223372036854775807 ∧ v.s.size ≤ 9223372036854775807), I (fit4 v t))
theorem v22f (v : Vl) (t : Ty) (R : Value → Prop) : bodyQ Tryz.prog Q0 noL Tryz.f22 [Enc.enc v, Enc.enc t] (fun _ => none) 0 (fun v _ _ => R v) = ( bif decide (sz63 t) then bif chk4 t != 0 then R (I (chk4 t)) else bif Ty.k t == 1 then R (I (fits v t)) else bif Ty.k t == 2 then R (I (fits v t)) else bif Ty.k t == 3 then bif bif Vl.n v == 0 then (↑(ByteArray.size (Vl.s v)) : Int) == Ty.p t || (Ty.v t || true) else true then bif !(Vl.n v == 0 && ((↑(ByteArray.size (Vl.s v)) : Int) == Ty.p t || Ty.v t && decide ((↑(ByteArray.size (Vl.s v)) : Int) < Ty.p t))) then R (I 6) else R (I 0) else False else bif Ty.k t == 4 then bif bif Vl.n v == 0 then bif (↑(ByteArray.size (Vl.s v)) : Int) == Ty.p t then decide (ByteArray.size (Vl.s v) ≤ 9223372036854775807) && true else true else true then bif !(Vl.n v == 0 && ((↑(ByteArray.size (Vl.s v)) : Int) == Ty.p t && bitsZ (bz (Vl.s v)))) then R (I 6) else R (I 0) else False else bif Ty.k t == 5 then bif bif Vl.n v == 0 then decide (ByteArray.size (Ty.s t) ≤ 9223372036854775807 ∧ ByteArray.size (Vl.s v) ≤ 9223372036854775807) && true else true then bif !(Vl.n v == 0 && hoZ (bz (Ty.s t)) (bz (Vl.s v))) then R (I 6) else R (I 0) else False else bif Ty.k t == 6 then bif bif ByteArray.toList (Vl.s v) == ByteArray.toList (ByteArray.mk #[]) then decide (Vl.n v ≥ 0) || true else true then bif !(ByteArray.toList (Vl.s v) == ByteArray.toList (ByteArray.mk #[]) && (decide (Vl.n v ≥ 0) && decide (Vl.n v ≤ 524288))) then R (I 6) else R (I 0) else False else bif !Vl.n v == 0 then R (I 6) else R (I 0) else False) := by kernel_rfl
theorem ok22f : PureOK Tryz.prog 22 (sp2 s22f) := by
 refine qure2 ok_Q0 hmix fn22 lokf_none (Nat.le_of_ble_eq_true (by kernel_rfl)) fun v t hc => ?_
 rw [DoesQ, v22f]
 have hc : (t.s.size ≤ 9223372036854775807 ∧ v.s.size ≤ 9223372036854775807) := of_decide_eq_true hc
 try dsimp only [s22f]
 rw [empty_iff]
 unfold fit4 is4
 refine c_t (decide_eq_true hc.1) ?_
 have hk : chk4 t = 0 → (t.k = 1 ∨ t.k = 2 ∨ t.k = 3 ∨ t.k = 4 ∨ t.k = 5 ∨ t.k = 6) ∧ ((t.k = 1 ∨ t.k = 2) → Valid t) := fun h => by
  unfold chk4 at h
  have hv : Valid t → t.k = 1 ∨ t.k = 2 := fun h => h.1
  grind
 refine cond_intro (fun h => ?_) (fun h => ?_)
 ·rw [if_pos (by simpa using h)]
 have h0 : chk4 t = 0 := by simpa using h
 rw [if_neg (fun z => z h0)]
 obtain ⟨hk, hval⟩ := hk h0
 have hf : Valid t → Fx.fits v t = if Fit v t then 0 else 6 := fun h => if_pos h
 simp only [Bool.or_true, Bool.and_true, Bool.cond_self, decide_eq_true hc, decide_eq_true hc.2]
 repeat' refine cond_intro (fun h => ?_) (fun h => ?_)
 all_goals first | (exfalso; simp at h; done) | (congr 1; grind) | (exfalso; grind)
instance tabsT2 : Tabs := tabs
theorem ex_ck3 (t : Ty) : ∃ x : Int, x = chk4 t := ⟨_, rfl⟩
def ckT (t : Ty) : Int := Classical.choose (ex_ck3 t)
theorem ckT_eq (t : Ty) : ckT t = chk4 t := Classical.choose_spec (ex_ck3 t)
theorem ex_ft3 (v : Vl) (t : Ty) : ∃ x : Int, x = fit4 v t := ⟨_, rfl⟩
def ftT (v : Vl) (t : Ty) : Int := Classical.choose (ex_ft3 v t)
theorem ftT_eq (v : Vl) (t : Ty) : ftT v t = fit4 v t := Classical.choose_spec (ex_ft3 v t)
def z20 (t : Ty) : Bool × Value := (decide (t.s.size ≤ 9223372036854775807), I (ckT t))
def z22 (v : Vl) (t : Ty) : Bool × Value := (decide (t.s.size ≤ 9223372036854775807 ∧ v.s.size ≤ 9223372036854775807), I (ftT v t))
def z19 (t : Ty) : Bool × Value := (true, B (decide ((t.s.size : Int) ≤ 200)))
def Q2 : Env := (((((Env.nil.add 18 (sp0 Cs.s18)).add 19 (sp1 z19)).add 20 (sp1 z20)).add 21 (sp1 z20)).add 22 (sp2 z22)).add 23 (sp2 z22)
theorem fn19s : Fn1 Tryz.prog 19 Tryz.f19 := ⟨Tryz.func19, by kernel_rfl, by kernel_rfl, by kernel_rfl⟩
theorem v19s (t : Ty) (R : Value → Prop) : bodyQ Tryz.prog Env.nil noL Tryz.f19 [Enc.enc t] (fun _ => none) 0 (fun v _ _ => R v) = R (B (decide ((t.s.size : Int) ≤ 200))) := by kernel_rfl
theorem ok19s : PureOK Tryz.prog 19 (sp1 z19) := by
 refine qure1 env_nil hmix fn19s lokf_none (Nat.le_of_ble_eq_true (by kernel_rfl)) fun t hc => ?_
 rw [DoesQ, v19s]; rfl
theorem z20_eq : z20 = s20f := by funext t; simp only [z20, s20f, ckT_eq]; rfl
theorem z20_eq2 : z20 = s21 := by funext t; simp only [z20, s21, ckT_eq]
theorem z22_eq : z22 = s22f := by funext v t; simp only [z22, s22f, ftT_eq]
theorem z22_eq2 : z22 = s23 := by funext v t; simp only [z22, s23, ftT_eq]
theorem ok_Q2 : EnvOK Tryz.prog Q2 := env_add (env_add (env_add (env_add (env_add (env_add env_nil Cs.ok18) ok19s) (z20_eq ▸ ok20f)) (z20_eq2 ▸ ok21)) (z22_eq ▸ ok22f)) (z22_eq2 ▸ ok23)
def s3 (t : Ty) (v : Vl) : Bool × Value := (decide (t.s.size ≤ 9223372036854775807 ∧ v.s.size ≤ 9223372036854775807), B true)
theorem fn3 : Fn1 Tryz.prog 3 Tryz.f3 := ⟨Tryz.func3, by kernel_rfl, by kernel_rfl, by kernel_rfl⟩
theorem v3 (t : Ty) (v : Vl) (R : Value → Prop) : bodyQ Tryz.prog Q2 noL Tryz.f3 [Enc.enc t, Enc.enc v] (fun _ => none) 0 (fun v _ _ => R v) = ( bif !decide ((↑(ByteArray.size (Ty.s t)) : Int) ≤ 200) then R (B true) else bif decide (ByteArray.size (Ty.s t) ≤ 9223372036854775807) && (decide (ByteArray.size (Ty.s t) ≤ 9223372036854775807) && bif ckT t == ckT t then decide (ByteArray.size (Ty.s t) ≤ 9223372036854775807 ∧ ByteArray.size (Vl.s v) ≤ 9223372036854775807) && (decide (ByteArray.size (Ty.s t) ≤ 9223372036854775807 ∧ ByteArray.size (Vl.s v) ≤ 9223372036854775807) && true) else true) then R (B (ckT t == ckT t && ftT v t == ftT v t)) else False) := by kernel_rfl
theorem ok3 : PureOK Tryz.prog 3 (sp2 s3) := by
 refine qure2 ok_Q2 hmix fn3 lokf_none (Nat.le_of_ble_eq_true (by kernel_rfl)) fun t v hc => ?_
 rw [DoesQ, v3]
 have hc : (t.s.size ≤ 9223372036854775807 ∧ v.s.size ≤ 9223372036854775807) := of_decide_eq_true hc
 try dsimp only [s3]
 simp only [decide_eq_true hc.1, decide_eq_true hc, beq_self_eq_true, cond_true, Bool.and_true, Bool.true_and, Bool.and_self]
 exact cond_intro (fun _ => trivial) (fun _ => trivial)
end Go.Cx
end
noncomputable section
namespace Go.Px
open Go Go.Proofs
open Go.Proofs.YtpflidodnhbeoaaGreatDoor
theorem q_laid : laidOutB Tryz.prog = true := by kernel_rfl
theorem q_maps : mapsRowed Tryz.prog = true := by kernel_rfl
theorem q_stop : (Tryz.prog.stops == []) = true := by kernel_rfl
theorem q_knob : (Tryz.prog.stopKnobs == []) = true := by kernel_rfl
theorem q_keys : (Rows.convertTypesRow.plainKeys == Tryz.prog.plainKeys) = true := by kernel_rfl
theorem q_heard : Tryz.prog.stopsHeard = true := by kernel_rfl
theorem q_enter : Tryz.prog.mayEnter = true := by kernel_rfl
theorem q_lifts : (Rows.convertTypesRow.lifted == Tryz.prog.liftsFinal) = true := by kernel_rfl
theorem q_make : (Tryz.prog.make == some Rows.convertTypesRow.make) = true := by kernel_rfl
theorem main_is : Tryz.pinned.checked.prog.mainIs = some (true, ("2cb47cbf95087f7cc8d5ede91c198a947601d35cfd546d8bdc61f47b13d7b636" : String).toList) := by kernel_rfl
theorem looks_is : true = Tryz.pinned.checked.prog.looks [] := by kernel_rfl
end Go.Px
end
noncomputable section
namespace Go.Px
open Go Go.Ab Go.Proofs Go.Shelf Go.ChangeMaps Go.ChangeShapes Go.WideShapes Go.ChangeAt Go.RowKit Go.Joins
open Go.Proofs.YtpflidodnhbeoaaGreatDoor
theorem own : ownKnob Tryz.prog.godebug = none := by kernel_rfl
def laidL : List (String × DataW Unit) := Rows.convertTypesRow.laid
theorem tab_is {P : Program} {W : World} {name : String} {k : IntKind} {zs : List Int} {g : Nat} {t e : TypeId} {n : Nat} (hr : Lib.VarReads P W name (Lib.tabData k zs))
  (hg : P.globalNamed name = some g) (hty : (P.globals[g]?).map (·.type) = some t) (ht : P.underlying t = some (.array n e)) (he : P.underlying e = some (.int k)) (hce : P.cellsOf e = 1) (hct : P.cellsOf t = n) :
  g < W.heap.size ∧ ∃ ty fr, W.heap[g]? = some (.cells ⟨zs.map fun z => Value.int k z⟩ ty fr) := by
 obtain ⟨g', t', cs, fuel, p, h1, h2, h3, h4⟩ := hr
 obtain rfl := Option.some.inj (hg.symm.trans h1)
 obtain rfl := Option.some.inj (hty.symm.trans h2)
 have hc := Lib.cells_of_tab ht he hce hct h4
 unfold World.var? at h3
 rw [hg, Option.bind_some] at h3
 split at h3
 case h_2 => cases h3
 rename_i cs' ty fr hh
 have h3 := Option.some.inj h3
 refine ⟨(Array.getElem?_eq_some_iff.1 hh).1, ty, fr, ?_⟩
 rw [hh, h3]
 congr 2
 rw [← hc]
theorem rt : (Tryz.prog.cutTypes.find? (·.1 == "internal/reflectlite.rtype")).map (·.2) = some 229 := by kernel_rfl
theorem tsz : Tryz.prog.types.size = 321 := by kernel_rfl
theorem oneRow : ((List.range 321).filter fun t => Tryz.prog.rowNamed t [101, 114, 114, 111, 114]) = [105] := by kernel_rfl
theorem hdl : typeHandle Tryz.prog 105 = .pointer (some ⟨10, 105, none⟩) := by kernel_rfl
theorem gE : Tryz.prog.globalNamed "errors.errorType" = some 0 := by kernel_rfl
theorem laid_h : laidL.filter (fun x => x.2.handleName?.isSome) = [("errors.errorType", Rows.laid_errors_errorType)] := by kernel_rfl
theorem laid_d : laidL.filter (fun x => x.2.handleName?.isNone) = [("math/bits.deBruijn32tab", Rows.laid_math_bits_deBruijn32tab), ("math/bits.deBruijn64tab", Rows.laid_math_bits_deBruijn64tab), ("internal/strconv.uint64pow10", Rows.laid_internal_strconv_uint64pow10), ("unicode/utf8.acceptRanges", Rows.laid_unicode_utf8_acceptRanges), ("strconv.ErrRange", Rows.laid_strconv_ErrRange), ("strconv.ErrSyntax", Rows.laid_strconv_ErrSyntax), ("pliant/picture.punched", Rows.laid_pliant_picture_punched), ("unicode/utf8.first", Rows.laid_unicode_utf8_first)] := by kernel_rfl
theorem handle_of_laid {W : World} (h : handlesMet Tryz.prog [("errors.errorType", Rows.laid_errors_errorType)] W) : 0 < W.heap.size ∧ ∃ ty fr, W.heap[0]? = some (.cells #[.iface 229 (.agg #[.pointer (some ⟨10, 105, none⟩)])] ty fr) := by
 obtain ⟨name, u, ty, e1, e2, e3, e4, e5⟩ := h _ (List.mem_singleton.2 rfl)
 have en : name = [101, 114, 114, 111, 114] := (Option.some.inj e1).symm
 subst en
 obtain rfl := Option.some.inj (rt.symm.trans e2)
 have hm : ty ∈ (List.range 321).filter fun t => Tryz.prog.rowNamed t [101, 114, 114, 111, 114] := List.mem_filter.2 ⟨List.mem_range.2 (by rw [← tsz]; exact e3), e4⟩
 rw [oneRow] at hm
 obtain rfl := List.mem_singleton.1 hm
 rw [hdl] at e5
 unfold World.var? at e5
 rw [gE, Option.bind_some] at e5
 split at e5
 case h_2 => cases e5
 rename_i cs' ty fr hh
 have e5 := Option.some.inj e5
 exact ⟨(Array.getElem?_eq_some_iff.1 hh).1, ty, fr, by rw [hh, e5]⟩
set_option maxRecDepth 100000 in
theorem tabs_of_laid {W : World} (h : laidMetH Tryz.prog laidL W) : TabsIn W.heap.size W := by
 obtain ⟨hd, hh⟩ := laidMetH_iff.1 h
 rw [laid_h] at hh
 rw [laid_d] at hd
 intro b r hb
 have key : ∀ b : Nat, rowsT b = some r → b = 5 ∧ r = punchedZ.map (fun n => Value.int .u8 n) ∨ b = 1 ∧ r = pow10Z.map (fun n => Value.int .u64 n) ∨ b = 0 ∧ r = [.iface 229 (.agg ⟨[.pointer (some ⟨10, 105, none⟩)]⟩)] := by
  intro b hb
  unfold rowsT at hb
  split at hb
  ·cases hb; exact .inl ⟨rfl, rfl⟩
  ·cases hb; exact .inr (.inl ⟨rfl, rfl⟩)
  ·cases hb; exact .inr (.inr ⟨rfl, rfl⟩)
  ·cases hb
 have t5 : Tryz.prog.cellsOf 5 = 1 := by kernel_rfl
 rcases key b hb with ⟨rfl, rfl⟩ | ⟨rfl, rfl⟩ | ⟨rfl, rfl⟩
 ·have hr : Lib.VarReads Tryz.prog W "pliant/picture.punched" (Lib.tabData .u8 punchedZ) := Lib.laidMet.reads hd (.tail _ (.tail _ (.tail _ (.tail _ (.tail _ (.tail _ (.head _)))))))
  exact tab_is hr (g := 5) (t := 273) (n := 20) (e := 5) (by kernel_rfl) (by kernel_rfl) (by kernel_rfl) (by kernel_rfl) t5 (by kernel_rfl)
 ·have hr : Lib.VarReads Tryz.prog W "internal/strconv.uint64pow10" (Lib.tabData .u64 pow10Z) := Lib.laidMet.reads hd (.tail _ (.tail _ (.head _)))
  exact tab_is hr (g := 1) (t := 262) (n := 20) (e := 90) (by kernel_rfl) (by kernel_rfl) (by kernel_rfl) (by kernel_rfl) (by kernel_rfl) (by kernel_rfl)
 ·exact handle_of_laid hh
noncomputable def handleWorld (os : Os) : World :=
 let w0 := World.holding Tryz.prog os ⟨#[], #[], []⟩
 { w0 with heap := w0.heap.modify 0 fun
   | .cells _ t frozen => .cells #[.iface 229 (.agg #[.pointer (some ⟨10, 105, none⟩)])] t frozen
   | o => o }
def laidD : List (String × DataW Unit) := laidL.filter fun x => x.2.handleName?.isNone
noncomputable def laidWorld (os : Os) : World := (handleWorld os).layVars Tryz.prog laidD
theorem laidWorld_os (os : Os) : (laidWorld os).os = os := World.layVars_os _ _ _
theorem laidWorld_met (os : Os) (args : Array Value) : laidMetH Tryz.prog laidL ((laidWorld os).forCall (fun _ _ => 0) ⟨#[], args, []⟩).memory := by
 refine laidMetH_of_parts ?_ (by kernel_rfl)
 have e1 : (laidD.filter fun x => (laidD.map (·.1)).contains x.1) = laidD := List.filter_eq_self.2 fun x hx => List.contains_iff_mem.2 (List.mem_map.2 ⟨x, hx, rfl⟩)
 have e2 : (laidD.filter fun x => !(laidD.map (·.1)).contains x.1) = [] := List.filter_eq_nil_iff.2 fun x hx => by rw [List.contains_iff_mem.2 (List.mem_map.2 ⟨x, hx, rfl⟩)]; simp
 have h : laidMet Tryz.prog laidD (laidWorld os) := laidMet_layVars (w0 := handleWorld os) (laidD.map (·.1)) [] (by rw [e1]; rfl) (by rw [e1]; kernel_rfl) (by rw [e1]; kernel_rfl) (by rw [e2]; exact LaidIn.none)
 exact h.of_heap (by simp [World.memory, World.forCall, Input.heap])
def OpensP (P : Program) (t : TypeId) (α : Type) [Enc α] (Q : α → Prop) : Prop :=
 ∀ {H : Type} {enc : TypeId × Value → H} {w : World} {base : Nat} {spare : Nat → Bool} {held : Bool} {r : Reach} {b0 : Nat} {v : Value} {d : DataW H} {p : List MemPlace}, Value.okWide P w r b0 t v → DataW.Trod enc P w base spare held t v d p →
  ∃ a : α, v = Enc.enc a ∧ Q a ∧ p = [] ∧ ∀ (w' : World) (b' : Nat) (sp' : Nat → Bool) (hd' : Bool), DataW.Trod enc P w' b' sp' hd' t v d []
theorem opensP_string {P : Program} {t : TypeId} (ht : P.underlying t = some .string) : OpensP P t ByteArray fun s => s.size ≤ 9223372036854775807 := by
 intro H enc w base spare held r b0 v d p hv h
 obtain ⟨n, rfl, rfl, rfl, hw⟩ := open_string ht hv h
 exact ⟨n, rfl, Nat.le_trans hw (by decide), rfl, fun w' b' sp' hd' => shut_string ht hw⟩
theorem oS : OpensP Tryz.prog 9 ByteArray fun s => s.size ≤ 9223372036854775807 := opensP_string Tryz.underlying9
theorem opensP_int {P : Program} {t : TypeId} (ht : P.underlying t = some (.int .i64)) : OpensP P t Int fun n => -9223372036854775808 ≤ n ∧ n ≤ 9223372036854775807 := by
 intro H enc w base spare held r b0 v d p hv h
 obtain ⟨n, rfl, rfl, rfl, hw⟩ := open_int ht hv h
 exact ⟨n, rfl, by simpa [Lit.wf, IntKind.min, IntKind.max, IntKind.signed, IntKind.bits] using hw, rfl, fun w' b' sp' hd' => shut_int ht hw⟩
theorem oI : OpensP Tryz.prog 3 Int fun n => -9223372036854775808 ≤ n ∧ n ≤ 9223372036854775807 := opensP_int Tryz.underlying3
theorem opensP_bool {P : Program} {t : TypeId} (ht : P.underlying t = some .bool) : OpensP P t Bool fun _ => True := by
 intro H enc w base spare held r b0 v d p hv h
 obtain ⟨n, rfl, rfl, rfl⟩ := open_bool ht hv h
 exact ⟨n, rfl, trivial, rfl, fun w' b' sp' hd' => shut_bool ht n⟩
theorem oB : OpensP Tryz.prog 4 Bool fun _ => True := opensP_bool Tryz.underlying4
theorem opensP_leaves {P : Program} {α : Type} [Enc α] {t : TypeId} {fs : Array Field} {Q : α → Prop} (hs : P.underlying t = some (.struct fs)) (hl : fs.toList.all (fun f => leafT P f.type) = true)
  (hc : ∀ cs : Array Value, cs.size = P.cellsOf t → (∀ (i : Nat) (f : Field), fs[i]? = some f → ∃ (H : Type) (enc : TypeId × Value → H) (w : World) (base : Nat) (spare : Nat → Bool) (held : Bool) (n : Nat) (y : DataW H × List MemPlace),
   DataW.trod enc P w base spare held n f.type ((cs.toList.drop f.offset).take (P.cellsOf f.type)) = some y) → ∃ a : α, Value.agg cs = Enc.enc a ∧ Q a) : OpensP P t α Q := by
 intro H enc w base spare held r b0 v d p hv h
 obtain ⟨cs, rfl, hsz⟩ := okWide_struct hs hv
 obtain ⟨fuel, hf⟩ := h
 simp only [Value.cells] at hf
 obtain ⟨hp, hany⟩ := leaves_any hs hl hf
 obtain ⟨xs, n, _, _, hlen, hxs, hg⟩ := DataW.trod_struct hs hf
 obtain ⟨a, ha, hq⟩ := hc cs hsz fun i f hi => by
  have hlt : i < xs.length := by
   have := (Array.getElem?_eq_some_iff.1 hi).1
   omega
  exact ⟨H, enc, w, base, spare, held, n, xs[i], by rw [hg i f hi, List.getElem?_eq_getElem hlt]⟩
 simp only at hp
 subst hp
 exact ⟨a, ha, hq, rfl, fun w' b' sp' hd' => ⟨2, by simpa [Value.cells] using hany w' b' sp' hd'⟩⟩
def r64 (n : Int) : Prop := -9223372036854775808 ≤ n ∧ n ≤ 9223372036854775807
def rS (s : ByteArray) : Prop := s.size ≤ 9223372036854775807
theorem r64_wf {n : Int} (h : (Lit.int .i64 n).wf = true) : r64 n := by simpa [Lit.wf, IntKind.min, IntKind.max, IntKind.signed, IntKind.bits, r64] using h
theorem array5 {α : Type} {cs : Array α} (h : cs.size = 5) : ∃ c0 c1 c2 c3 c4, cs = #[c0, c1, c2, c3, c4] := by
 obtain ⟨l⟩ := cs
 match l, h with
 | [c0, c1, c2, c3, c4], _ => exact ⟨c0, c1, c2, c3, c4, rfl⟩
theorem array3 {α : Type} {cs : Array α} (h : cs.size = 3) : ∃ c0 c1 c2, cs = #[c0, c1, c2] := by
 obtain ⟨l⟩ := cs
 match l, h with
 | [c0, c1, c2], _ => exact ⟨c0, c1, c2, rfl⟩
theorem oT : OpensP Tryz.prog 23 Fx.Ty fun t => r64 t.k ∧ r64 t.p ∧ r64 t.q ∧ rS t.s := by
 refine opensP_leaves Tryz.underlying23 (by kernel_rfl) fun cs hsz hf => ?_
 have hc : Tryz.prog.cellsOf 23 = 5 := by kernel_rfl
 have h3 : Tryz.prog.cellsOf 3 = 1 := by kernel_rfl
 have h4 : Tryz.prog.cellsOf 4 = 1 := by kernel_rfl
 have h9 : Tryz.prog.cellsOf 9 = 1 := by kernel_rfl
 rw [hc] at hsz
 obtain ⟨c0, c1, c2, c3, c4, rfl⟩ := array5 hsz
 ·obtain ⟨H, enc, w, base, spare, held, n, y, h0⟩ := hf 0 { name := "Kind", type := 3, offset := 0, embedded := false, tag := "", pkgPath := "", byteOffset := 0 } rfl
  obtain ⟨H, enc, w, base, spare, held, n, y, h1⟩ := hf 1 { name := "P", type := 3, offset := 1, embedded := false, tag := "", pkgPath := "", byteOffset := 8 } rfl
  obtain ⟨H, enc, w, base, spare, held, n, y, h2⟩ := hf 2 { name := "Q", type := 3, offset := 2, embedded := false, tag := "", pkgPath := "", byteOffset := 16 } rfl
  obtain ⟨H, enc, w, base, spare, held, n, y, hv⟩ := hf 3 { name := "Vary", type := 4, offset := 3, embedded := false, tag := "", pkgPath := "", byteOffset := 24 } rfl
  obtain ⟨H, enc, w, base, spare, held, n, y, hs⟩ := hf 4 { name := "Pic", type := 9, offset := 4, embedded := false, tag := "", pkgPath := "", byteOffset := 32 } rfl
  obtain ⟨k, e0, _, w0⟩ := DataW.trod_int Tryz.underlying3 h0
  obtain ⟨p, e1, _, w1⟩ := DataW.trod_int Tryz.underlying3 h1
  obtain ⟨q, e2, _, w2⟩ := DataW.trod_int Tryz.underlying3 h2
  obtain ⟨v, e3, _⟩ := DataW.trod_bool Tryz.underlying4 hv
  obtain ⟨s, e4, _, w4⟩ := DataW.trod_string Tryz.underlying9 hs
  simp only [h3, h4, h9, List.drop_zero, List.drop_succ_cons, List.take_succ_cons, List.take_zero, List.cons.injEq, and_true] at e0 e1 e2 e3 e4
  exact ⟨⟨k, p, q, v, s⟩, by rw [e0, e1, e2, e3, e4]; rfl, r64_wf w0, r64_wf w1, r64_wf w2, Nat.le_trans w4 (by decide)⟩
theorem oV : OpensP Tryz.prog 25 Fx.Vl fun v => r64 v.n ∧ rS v.s := by
 refine opensP_leaves Tryz.underlying25 (by kernel_rfl) fun cs hsz hf => ?_
 have hc : Tryz.prog.cellsOf 25 = 2 := by kernel_rfl
 have h3 : Tryz.prog.cellsOf 3 = 1 := by kernel_rfl
 have h9 : Tryz.prog.cellsOf 9 = 1 := by kernel_rfl
 rw [hc] at hsz
 obtain ⟨c0, c1, rfl⟩ := array2 hsz
 ·obtain ⟨H, enc, w, base, spare, held, n, y, h0⟩ := hf 0 { name := "N", type := 3, offset := 0, embedded := false, tag := "", pkgPath := "", byteOffset := 0 } rfl
  obtain ⟨H, enc, w, base, spare, held, n, y, h1⟩ := hf 1 { name := "S", type := 9, offset := 1, embedded := false, tag := "", pkgPath := "", byteOffset := 8 } rfl
  obtain ⟨k, e0, _, w0⟩ := DataW.trod_int Tryz.underlying3 h0
  obtain ⟨s, e4, _, w4⟩ := DataW.trod_string Tryz.underlying9 h1
  simp only [h3, h9, List.drop_zero, List.drop_succ_cons, List.take_succ_cons, List.take_zero, List.cons.injEq, and_true] at e0 e4
  exact ⟨⟨k, s⟩, by rw [e0, e4]; rfl, r64_wf w0, Nat.le_trans w4 (by decide)⟩
theorem oN : OpensP Tryz.prog 33 Cx.Nu fun v => rS v.d ∧ r64 v.c := by
 refine opensP_leaves Tryz.underlying33 (by kernel_rfl) fun cs hsz hf => ?_
 have hc : Tryz.prog.cellsOf 33 = 3 := by kernel_rfl
 have h3 : Tryz.prog.cellsOf 3 = 1 := by kernel_rfl
 have h4 : Tryz.prog.cellsOf 4 = 1 := by kernel_rfl
 have h9 : Tryz.prog.cellsOf 9 = 1 := by kernel_rfl
 rw [hc] at hsz
 obtain ⟨c0, c1, c2, rfl⟩ := array3 hsz
 ·obtain ⟨H, enc, w, base, spare, held, n, y, hv⟩ := hf 0 { name := "Neg", type := 4, offset := 0, embedded := false, tag := "", pkgPath := "", byteOffset := 0 } rfl
  obtain ⟨H, enc, w, base, spare, held, n, y, hs⟩ := hf 1 { name := "Digits", type := 9, offset := 1, embedded := false, tag := "", pkgPath := "", byteOffset := 8 } rfl
  obtain ⟨H, enc, w, base, spare, held, n, y, h0⟩ := hf 2 { name := "Scale", type := 3, offset := 2, embedded := false, tag := "", pkgPath := "", byteOffset := 24 } rfl
  obtain ⟨v, e3, _⟩ := DataW.trod_bool Tryz.underlying4 hv
  obtain ⟨s, e4, _, w4⟩ := DataW.trod_string Tryz.underlying9 hs
  obtain ⟨k, e0, _, w0⟩ := DataW.trod_int Tryz.underlying3 h0
  simp only [h3, h4, h9, List.drop_zero, List.drop_succ_cons, List.take_succ_cons, List.take_zero, List.cons.injEq, and_true] at e0 e3 e4
  exact ⟨⟨v, s, k⟩, by rw [e0, e3, e4]; rfl, Nat.le_trans w4 (by decide), r64_wf w0⟩
noncomputable def hAB (fn : Func) (s : ChangeSpec) (c : OpenClaim) : Bool := c.wf (OpenSpec.ofChange s) && fn.params.all (Tryz.prog.readableRec ·) && namedTie Tryz.prog c.named s.vars && (c.stops == []) && (c.knobs == [])
noncomputable def hRB (fn : Func) (s : ChangeSpec) (c : OpenClaim) : Bool := (c.maps == (fn.params.toList ++ s.plain.varTypes Tryz.prog).any (Tryz.prog.mapsRec ·)) && (c.ifaces == (fn.params.toList ++ s.plain.varTypes Tryz.prog).any (Tryz.prog.ifacesRec ·)) && (c.mapsOut == Tryz.prog.mapsAmong fn.resultTypes.toList) && (c.loops == (fn.params.toList ++ s.plain.varTypes Tryz.prog).any (Tryz.prog.loopsFrom ·))
noncomputable def hSB (fn : Func) (s : ChangeSpec) (c : OpenClaim) : Bool := (c.wideKeys == (fn.params.toList ++ s.plain.varTypes Tryz.prog ++ fn.resultTypes.toList).any (Tryz.prog.wideKeysFrom ·)) && s.vars.all (Tryz.prog.varReadable ·) && fn.resultTypes.all (fun t => Tryz.prog.readableRec t && decide (t < Tryz.prog.types.size)) && (c.ifacesOut == fn.resultTypes.toList.any (Tryz.prog.ifacesRec ·)) && (c.loopsOut == fn.resultTypes.toList.any (Tryz.prog.loopsFrom ·)) && c.shortTexts.isNone
noncomputable def hTB (fn : Func) (s : ChangeSpec) (c : OpenClaim) : Bool := (c.kinds == (if c.domain.isEmpty then [] else fn.params.toList.map fun t => match Tryz.prog.underlying t with | some (.int k) => some k | _ => none)) && (c.pinned == c.pinnedBy) && (c.veiled == (fn.params.toList ++ s.plain.varTypes Tryz.prog ++ fn.resultTypes.toList).any (Tryz.prog.veiledRec ·)) && c.veiledFits Tryz.prog fn.params.toList (fn.params.toList ++ s.plain.varTypes Tryz.prog ++ fn.resultTypes.toList)
set_option maxRecDepth 100000 in
theorem jf_mk {f : FuncId} {fn : Func} {s : ChangeSpec} {c : OpenClaim} (hA : hAB fn s c = true) (h1 : (c.inPlace == Tryz.prog.inPlace f) = true) (h2 : (c.unfollowed == Tryz.prog.unfollowed f) = true) (h3 : (c.recurses == Tryz.prog.recurses f) = true) (h4 : (c.named == Tryz.prog.varsNamed f) = true)
  (hR : hRB fn s c = true) (hS : hSB fn s c = true)
  (hk : (c.plainKeys == Tryz.prog.plainKeys) = true) (hl : (c.lifted == Tryz.prog.liftsFinal) = true) (hm : (Tryz.prog.make == some c.make) = true)
  (hT : hTB fn s c = true) : joinedFacts Tryz.prog f fn s c = true := by
 unfold joinedFacts
 simp only [hAB, hRB, hSB, hTB, Bool.and_eq_true] at hA hR hS hT
 obtain ⟨⟨⟨⟨a1, a2⟩, a3⟩, a4⟩, a5⟩ := hA
 obtain ⟨⟨⟨r1, r2⟩, r3⟩, r4⟩ := hR
 obtain ⟨⟨⟨⟨⟨s1, s2⟩, s3⟩, s4⟩, s5⟩, s6⟩ := hS
 obtain ⟨⟨⟨t1, t2⟩, t3⟩, t4⟩ := hT
 rw [a1, a2, a3, a4, a5, h1, h2, h3, h4, r1, r2, r3, r4, s1, s2, s3, s4, s5, s6, t2, t3, t4, q_laid, q_maps, q_stop, q_knob, q_heard, q_enter, hk, hl, hm]
 simp only [Bool.true_and, Bool.and_true]
 exact t1
end Go.Px
end
section

end
