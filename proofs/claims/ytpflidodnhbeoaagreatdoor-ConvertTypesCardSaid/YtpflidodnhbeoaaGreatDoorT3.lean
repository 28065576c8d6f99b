/-
  The run and the laws that serve these rows (part 3)
-/
import Derived.Test.YtpflidodnhbeoaaGreatDoorT2
set_option linter.unusedVariables false
set_option linter.unusedSimpArgs false
noncomputable section
namespace Go.Px
open Go Go.Ab Go.Proofs Go.Shelf
section
variable {P : Program} {G : Env} {L : Nat → Option LoopH} {f : FuncId} {fn : Func}
theorem gen_newR {h : List Value → Lk → Nat → (Value → Lk → Nat → Prop) → Prop} (hG : EnvOK P G) (hm : P.follows .mixedOrders = true) (hf : Fn1 P f fn) (hL : LOKf P L fn)
  (H : ∀ args m n K, h args m n K → ∃ (args' : List Value) (m0 : Lk) (n0 : Nat) (ρ : Nat → Nat) (R : Value → List (Option Blk) → Prop), SubM m ρ m0 n0 ∧ (∀ ι : Nm, args'.map (ren fun j => ι (ρ j)) = args.map (ren ι)) ∧ args'.length ≤ fn.ntmps ∧ (∀ v ∈ args', ∀ j ∈ ids v, j < n0) ∧
   DoesM P G L fn args' m0 n0 (fun v' m' _ => R v' (look m' v')) ∧
   ∀ v' m', R v' (look m' v') → ∃ v mm nn σ, ((∀ k b, m k = some b → k < n) → NewM m n m' mm nn σ) ∧ (∀ i ∈ ids v, n ≤ i ∧ i < nn) ∧ (∀ ι' ι'' : Nm, (∀ i, n ≤ i → ι'' i = ι' (σ i)) → ren ι'' v = ren ι' v') ∧ K v mm nn) : GenOK P f h := by
 obtain ⟨h1, h2, h3, h4⟩ := hf
 cases hb : fn.body with
 | none => rw [hb] at h2; cases h2
 | some c =>
  simp only [hb] at h4
  simp only [LOKf, hb] at hL
  refine ⟨⟨fn, h1, h3, by rw [hb]; rfl⟩, fun args m n K hh N w0 ι w hrel hwf hargs => ?_⟩
  obtain ⟨args', m0, n0, ρ, R, hs, ha, hlen, hids, hd, hR⟩ := H _ _ _ _ hh
  rw [DoesM] at hd
  rw [← ha ι]
  refine (bodyQ_sound (N := w.heap.size) (w0 := w) (ι := fun j => ι (ρ j)) hG hm h1 hb h4 hL hlen hd (hs.rel hrel) hs.lt hids).mono fun e w' ⟨v', m', n', ι', he, hv', _, _, hm', _, _⟩ => ?_
  obtain ⟨v, mm, nn, σ, hn, hvi, hvr, hk⟩ := hR v' m' hv'
  have hn := hn fun k b hk => (hwf k b hk).1
  obtain ⟨q1, q2⟩ := hn.rel hrel hwf hm'
  refine ⟨v, mm, nn, _, ?_, hk, hn.le, fun k hk => nmJ_old hk, q1, q2, fun j hj => (hvi j hj).2⟩
  rw [he, hvr ι' _ fun i hi => nmJ_new hi]
end
theorem sub_none (m : Lk) (ρ : Nat → Nat) (n : Nat) : SubM m ρ (fun _ => none) n := ⟨fun _ _ h => (by cases h), fun _ _ h => (by cases h)⟩
theorem new_none {m : Lk} {n : Nat} (hwf : ∀ k b, m k = some b → k < n) (m' : Lk) (σ : Nat → Nat) : NewM m n m' m n σ :=
 ⟨Nat.le_refl _, fun _ _ => rfl, fun j b h hj => by have := hwf j b hj; omega, fun j j' b b' h _ hj => by have := hwf j b hj; omega⟩
theorem new_one {m : Lk} {n : Nat} (hwf : ∀ k b, m k = some b → k < n) {m' : Lk} {a : Nat} {c : List Value} {ty : TypeId} (ha : m' a = some ⟨c, ty, true⟩) (hc : plainL c = true) (hit : Nat.ble itTy ty = false) :
  NewM m n m' (m.upd n ⟨c, ty, true⟩) (n + 1) (fun _ => a) := by
 have hget : ∀ j b, n ≤ j → m.upd n ⟨c, ty, true⟩ j = some b → j = n ∧ b = ⟨c, ty, true⟩ := fun j b hj h => by
  by_cases e : j = n
  ·subst e
   rw [Lk.upd_same] at h
   cases h
   exact ⟨rfl, rfl⟩
  ·rw [Lk.upd_other _ _ e] at h
   have := hwf j b h
   omega
 refine ⟨by omega, fun j hj => Lk.upd_other _ _ (by omega), fun j b hj h => ?_, fun j j' b b' hj hj' h h' hne => ?_⟩
 ·obtain ⟨rfl, rfl⟩ := hget j b hj h
  exact ⟨by omega, fun i hi => (by rw [ids_plainL hc] at hi; cases hi), rfl, hit, ⟨c, ty, true⟩, ha, rfl, rfl, fun ι' ι'' _ => renMap_congr fun k hk => by rw [ids_plainL hc] at hk; cases hk⟩
 ·have e1 := (hget j b hj h).1
  have e2 := (hget j' b' hj' h').1
  omega
theorem new_form {m : Lk} {n : Nat} (hwf : ∀ k b, m k = some b → k < n) {m' : Lk} {a x k cap : Nat} {A B d : List Value} {ty ty2 : TypeId} (ha : m' a = some ⟨A ++ .slice (some ⟨x, 0, some 1⟩) k cap :: B, ty, true⟩)
  (hx : m' x = some ⟨d, ty2, true⟩) (hA : plainL A = true) (hB : plainL B = true) (hd : plainL d = true) (hit : Nat.ble itTy ty = false) (hit2 : Nat.ble itTy ty2 = false) (hne : a ≠ x) :
  NewM m n m' ((m.upd n ⟨A ++ .slice (some ⟨n + 1, 0, some 1⟩) k cap :: B, ty, true⟩).upd (n + 1) ⟨d, ty2, true⟩) (n + 2) (fun j => if j = n then a else x) := by
 have hget : ∀ j b, n ≤ j → ((m.upd n ⟨A ++ .slice (some ⟨n + 1, 0, some 1⟩) k cap :: B, ty, true⟩).upd (n + 1) ⟨d, ty2, true⟩) j = some b →
   (j = n ∧ b = ⟨A ++ .slice (some ⟨n + 1, 0, some 1⟩) k cap :: B, ty, true⟩) ∨ (j = n + 1 ∧ b = ⟨d, ty2, true⟩) := fun j b hj h => by
  by_cases e : j = n + 1
  ·subst e
   rw [Lk.upd_same] at h
   cases h
   exact .inr ⟨rfl, rfl⟩
  ·rw [Lk.upd_other _ _ e] at h
   by_cases e2 : j = n
   ·subst e2
    rw [Lk.upd_same] at h
    cases h
    exact .inl ⟨rfl, rfl⟩
   ·rw [Lk.upd_other _ _ e2] at h
    have := hwf j b h
    omega
 have hids : ∀ y i, i ∈ idsL (A ++ Value.slice (some ⟨y, 0, some 1⟩) k cap :: B) → i = y := fun y i hi => by
  obtain ⟨v, hv, hi⟩ := mem_idsL.1 hi
  rcases List.mem_append.1 hv with hv | hv
  ·rw [ids_plain (plainL_iff.1 hA v hv)] at hi; cases hi
  ·rcases List.mem_cons.1 hv with rfl | hv
   ·simpa [ids] using hi
   ·rw [ids_plain (plainL_iff.1 hB v hv)] at hi; cases hi
 refine ⟨by omega, fun j hj => by rw [Lk.upd_other _ _ (by omega), Lk.upd_other _ _ (by omega)], fun j b hj h => ?_, fun j j' b b' hj hj' h h' hn => ?_⟩
 ·rcases hget j b hj h with ⟨rfl, rfl⟩ | ⟨rfl, rfl⟩
  ·refine ⟨by omega, fun i hi => by have := hids _ i hi; omega, rfl, hit, ⟨A ++ .slice (some ⟨x, 0, some 1⟩) k cap :: B, ty, true⟩, by rw [if_pos rfl]; exact ha, rfl, rfl, fun ι' ι'' hι => ?_⟩
   rw [List.map_append, List.map_append, List.map_cons, List.map_cons]
   have e1 : A.map (ren ι'') = A.map (ren ι') := renMap_congr fun k hk => by rw [ids_plainL hA] at hk; cases hk
   have e2 : B.map (ren ι'') = B.map (ren ι') := renMap_congr fun k hk => by rw [ids_plainL hB] at hk; cases hk
   have e3 : ι'' (j + 1) = ι' x := by rw [hι (j + 1) (by omega), if_neg (by omega)]
   rw [e1, e2]
   simp [ren, ren1, e3]
  ·refine ⟨by omega, fun i hi => (by rw [ids_plainL hd] at hi; cases hi), rfl, hit2, ⟨d, ty2, true⟩, (by rw [if_neg (by omega)]; exact hx), rfl, rfl, fun ι' ι'' _ => renMap_congr fun k hk => by rw [ids_plainL hd] at hk; cases hk⟩
 ·rcases hget j b hj h with ⟨rfl, rfl⟩ | ⟨rfl, rfl⟩ <;> rcases hget j' b' hj' h' with ⟨rfl, rfl⟩ | ⟨rfl, rfl⟩
  ·exact absurd rfl hn
  ·rw [if_pos rfl, if_neg (by omega)]; exact hne
  ·rw [if_neg (by omega), if_pos rfl]; exact hne.symm
  ·exact absurd rfl hn
theorem look_form {m : Lk} {a x k cap : Nat} {c d : List Value} {ty ty2 : TypeId} (hc : c[6]? = some (.slice (some ⟨x, 0, some 1⟩) k cap))
  (h : look m (.tuple ⟨[.pointer (some ⟨a, 0, some 0⟩), .bool true]⟩) = [some ⟨c, ty, true⟩, some ⟨d, ty2, true⟩]) : m a = some ⟨c, ty, true⟩ ∧ m x = some ⟨d, ty2, true⟩ := by
 simp only [look] at h
 cases ha : m a with
 | none => rw [ha] at h; cases h
 | some b =>
  rw [ha] at h
  simp only at h
  split at h
  ·rename_i a' l' c' hc'
   simp only [List.cons.injEq, and_true] at h
   obtain ⟨h1, h2⟩ := h
   cases h1
   rw [hc] at hc'
   cases hc'
   exact ⟨rfl, h2⟩
  ·cases h
def frm (l : List Int) (x k cap : Nat) : List Value := [.string (sz l), .bool true, .int .i64 (l.length - cntZ l 86), .int .i64 (pdGo (marksZ l)), .int .i64 (pqGo l (marksZ l) 0), .bool (signsZ l == 1)] ++
 .slice (some ⟨x, 0, some 1⟩) k cap :: [.int .u8 (drZ (bodyZ l)), .int .i64 (nD (bodyZ l)).2.2, .bool (crZ l), .int .u8 (fdFl l), .int .i64 (cntZ (mkGo (drZ (bodyZ l)) false (bodyZ l)) 100)]
def rolF (l : List Int) : List Int := nR (bodyZ l) ++ (bif crZ l then [4, 4] else [])
def allK (l : List Int) : Bool := l.all (hasZ kL)
theorem allK_spec {l : List Int} (h : allK l = true) : asc l = true ∧ ∀ c ∈ l, c ≠ 0 := by
 simp only [allK, List.all_eq_true] at h
 refine ⟨?_, fun c hc => ?_⟩
 ·simp only [asc, List.all_eq_true, decide_eq_true_eq]
  exact fun c hc => (kL_lt (h c hc)).2
 ·rintro rfl
  exact absurd (h 0 hc) (by decide)
theorem body_sub {l : List Int} {c : Int} (h : c ∈ bodyZ l) : c ∈ l := by
 unfold bodyZ at h
 split at h
 ·exact List.mem_of_mem_take h
 ·exact h
theorem star_body (l : List Int) : hasZ (bodyZ l) 42 = hasZ l 42 := by
 obtain ⟨t, h, ht⟩ := body_app l
 have e : hasZ l 42 = (hasZ (bodyZ l) 42 || hasZ t 42) := by
  conv => lhs; rw [h]
  simp [hasZ]
 rw [e]
 rcases ht with ⟨rfl, _⟩ | ⟨rfl | rfl, _⟩
 ·simp [hasZ]
 ·have : hasZ [67, 82] 42 = false := by decide
  rw [this, Bool.or_false]
 ·have : hasZ [68, 66] 42 = false := by decide
  rw [this, Bool.or_false]
theorem form_frm {s : ByteArray} (h : NumL (bz s)) (x k cap : Nat) : formC s (crZ (bz s)) x k cap = frm (bz s) x k cap := by
 have e : (bif hasZ (bodyZ (bz s)) 42 then (42 : Int) else 32) = fdFl (bz s) := by
  rw [star_body, fdFl]
  cases hasZ (bz s) 42 <;> rfl
 rw [formC, h.w, h.dg, h.q, h.g, h.d, h.fm, e, frm, sz_bz]
 rfl
def h103 : List Value → Lk → Nat → (Value → Lk → Nat → Prop) → Prop := fun args m n K => match args with
 | [.string s] => match cnd (decide (s.size ≤ 32) && allK (bz s)) with
  | true => bif numV (bz s) then ∀ (k cap : Nat) (d : List Value), rowIOK d k cap = true → zc d k = rolF (bz s) → K (.tuple ⟨[.pointer (some ⟨n, 0, some 0⟩), .bool true]⟩) ((m.upd n ⟨frm (bz s) (n + 1) k cap, 156, true⟩).upd (n + 1) ⟨d, 251, true⟩) (n + 2)
   else K (.tuple ⟨[.pointer none, .bool false]⟩) m n
  | false => False
 | _ => False
def R103 (s : ByteArray) (v : Value) (bs : List (Option Blk)) : Prop := (numV (bz s) = false ∧ v = .tuple ⟨[.pointer none, .bool false]⟩) ∨ (numV (bz s) = true ∧ v = .tuple ⟨[.pointer (some ⟨3, 0, some 0⟩), .bool true]⟩ ∧ ∃ x k cap d, RowI d k cap ∧ zc d k = rolF (bz s) ∧ bs = [some ⟨frm (bz s) x k cap, 156, true⟩, some ⟨d, 251, true⟩])
theorem w103' (s : ByteArray) (hs : s.size ≤ 32) (hk : allK (bz s) = true) : DoesM Tryz.prog G25 noL Tryz.f204 [.string s] (fun _ => none) 0 (fun v m _ => R103 s v (look m v)) := by
 obtain ⟨ha, h0⟩ := allK_spec hk
 obtain ⟨q1, q2⟩ := num_law (l := bz s) fun c hm => h0 c (body_sub hm)
 have A1 : numQ (bodyZ (bz s)) (crZ (bz s)) = false → R103 s (.tuple ⟨[.pointer none, .bool false]⟩) [] := fun hn => .inl ⟨by rw [← q1]; exact hn, rfl⟩
 have A2 : numQ (bodyZ (bz s)) (crZ (bz s)) = true → ∀ (x m cap : Nat) (d : List Value), RowI d m cap → zc d m = nRoles s (crZ (bz s)) →
   R103 s (.tuple ⟨[.pointer (some ⟨3, 0, some 0⟩), .bool true]⟩) [some ⟨formC s (crZ (bz s)) x m cap, 156, true⟩, some ⟨d, 251, true⟩] := fun hy x k cap d r1 r2 => by
  rw [q1] at hy
  rw [form_frm (q2 hy)]
  exact .inr ⟨hy, rfl, x, k, cap, d, r1, r2, rfl⟩
 exact w103 s hs ha (R103 s) A1 A2
theorem fn103 : Fn1 Tryz.prog 204 Tryz.f204 := ⟨Tryz.func204, by kernel_rfl, by kernel_rfl, by kernel_rfl⟩
theorem h103_ok : GenOK Tryz.prog 204 h103 := by
 refine gen_newR ok_G25 hmix fn103 lokf_none fun args m n K h => ?_
 unfold h103 at h
 split at h
 case h_2 => exact h.elim
 rename_i s
 split at h
 case h_2 => exact h.elim
 rename_i hc
 simp only [cnd, Bool.and_eq_true, decide_eq_true_eq] at hc
 refine ⟨[.string s], fun _ => none, 0, id, R103 s, sub_none _ _ _, fun ι => by simp [ren], Nat.le_of_ble_eq_true (by kernel_rfl), fun v hv j hj => ?_, w103' s hc.1 hc.2, fun v' m' hR => ?_⟩
 ·simp at hv; subst hv; simp [ids] at hj
 ·rcases hR with ⟨hv, rfl⟩ | ⟨hv, rfl, x, k, cap, d, r1, r2, hbs⟩
  ·rw [hv] at h
   exact ⟨_, m, n, id, fun hwf => new_none hwf _ _, by simp [ids, idsL], fun _ _ _ => by simp [ren, renL], h⟩
  ·rw [hv] at h
   obtain ⟨a1, a2⟩ := look_form (x := x) (k := k) (cap := cap) rfl hbs
   refine ⟨_, _, _, fun j => if j = n then 3 else x, fun hwf => new_form hwf a1 a2 rfl rfl r1.plain rfl rfl ?_, ?_, fun ι' ι'' hι => ?_, h k cap d (rowIOK_iff.2 r1) r2⟩
   ·rintro rfl
    rw [a1] at a2
    cases a2
   ·intro i hi
    have : i = n := by simpa [ids, idsL] using hi
    omega
   ·have e := hι n (Nat.le_refl _)
    simp only [if_true] at e
    simp [ren, renL, ren1, e]
def G26 : Env := (((Env.nil.add 203 (sp2 s102)).add 55 (sp2 s89)).add 188 (sp1 s80)).addG 204 h103
theorem ok_G26 : EnvOK Tryz.prog G26 := env_addG (env_add (env_add (env_add env_nil ok102) ok89) ok80) h103_ok
theorem dropW_nil {p : Int → Bool} : ∀ {l : List Int}, l.dropWhile p = [] ↔ ∀ c ∈ l, p c = true
 | [] => by simp
 | c :: l => by
  rw [List.dropWhile_cons]
  cases h : p c with
  | true => simp only [if_true]; rw [dropW_nil (l := l)]; simp [h]
  | false => simp [h]
theorem trim_nil {l cs : List Int} : trimZ l cs = [] ↔ ∀ c ∈ l, hasZ cs c = true := by
 unfold trimZ
 rw [dropW_nil]
 constructor
 ·intro h c hc
  cases hq : hasZ cs c with
  | true => rfl
  | false =>
   exfalso
   -- c stays in what is left
   have : ∀ r : List Int, c ∈ r → c ∈ r.dropWhile (hasZ cs) := by
    intro r
    induction r with
    | nil => exact fun h => by cases h
    | cons x r ih =>
     intro hx
     rw [List.dropWhile_cons]
     cases hh : hasZ cs x with
     | false => simpa using hx
     | true =>
      rw [if_pos rfl]
      rcases List.mem_cons.1 hx with rfl | hx
      ·rw [hq] at hh; cases hh
      ·exact ih hx
   have hm := this l.reverse (by simpa using hc)
   have := h c (by simpa using hm)
   rw [hq] at this
   cases this
 ·intro h c hc
  have : c ∈ l.reverse.dropWhile (hasZ cs) := by simpa using hc
  exact h c (by simpa using List.dropWhile_sublist _ |>.subset this)
theorem xp_kL : ∀ (l : List Int) (st n : Int) (out : List Int), allK out = true → allK (xpGo l st n out).1 = true
 | [], _, _, _, h => h
 | c :: r, st, n, out, h => by
  rw [xpGo]
  generalize (if st = 2 then n else 1) = k
  split
  ·split
   ·split
    ·exact xp_kL r _ _ _ h
    ·rfl
   ·split
    ·exact xp_kL r _ _ _ h
    ·rfl
  ·split
   ·rfl
   ·split
    ·exact xp_kL r _ _ _ h
    ·split
     ·rename_i hq
      refine xp_kL r _ _ _ ?_
      simp only [allK, List.all_append, Bool.and_eq_true]
      refine ⟨h, ?_⟩
      rw [List.all_eq_true]
      intro x hx
      rw [List.eq_of_mem_replicate hx]
      exact hq.1
     ·rfl
theorem ex_kL (l : List Int) : allK (exZ l) = true := by
 unfold exZ
 split
 ·exact xp_kL l 0 0 [] rfl
 ·rfl
def frmP (l : List Int) (x k cap : Nat) : List Value := [.string (sz (pS l)), .bool true, .int .i64 (pW l), .int .i64 (pD l), .int .i64 (pQ l), .bool (pG l)] ++
 .slice (some ⟨x, 0, some 1⟩) k cap :: [.int .u8 (drZ (bodyZ (pS l))), .int .i64 (nD (bodyZ (pS l))).2.2, .bool (crZ (pS l)), .int .u8 (fdFl (pS l)), .int .i64 (cntZ (mkGo (drZ (bodyZ (pS l))) false (bodyZ (pS l))) 100)]
def chrP (l : List Int) : List Value := [.string (sz (pS l)), .bool false, .int .i64 (pW l), .int .i64 0, .int .i64 0, .bool false, .slice none 0 0, .int .u8 0, .int .i64 0, .bool false, .int .u8 0, .int .i64 0]
theorem frm_P {l : List Int} (h : pN l = true) (x k cap : Nat) : frm (exZ l) x k cap = frmP l x k cap := by
 have hv := pN_vOK h
 have hc := (pN_num h).nch
 unfold frm frmP
 rw [pS, if_pos hv, pW, if_pos hv, if_neg (by rw [hc]; simp), pD, if_pos h, pQ, if_pos h, pG, h, Bool.true_and]
def h70 : List Value → Lk → Nat → (Value → Lk → Nat → Prop) → Prop := fun args m n K => match args with
 | [.string s] => match cnd (decide (s.size ≤ 9223372036854775807)) with
  | true => bif vOK (bz s) then (bif pN (bz s) then ∀ (k cap : Nat) (d : List Value), rowIOK d k cap = true → zc d k = rolF (pS (bz s)) → K (.tuple ⟨[.pointer (some ⟨n, 0, some 0⟩), .bool true]⟩) ((m.upd n ⟨frmP (bz s) (n + 1) k cap, 156, true⟩).upd (n + 1) ⟨d, 251, true⟩) (n + 2)
    else K (.tuple ⟨[.pointer (some ⟨n, 0, some 0⟩), .bool true]⟩) (m.upd n ⟨chrP (bz s), 156, true⟩) (n + 1))
   else K (.tuple ⟨[.pointer none, .bool false]⟩) m n
  | false => False
 | _ => False
def h62 : List Value → Lk → Nat → (Value → Lk → Nat → Prop) → Prop := fun args m n K => match args with
 | [.string s] => match cnd (decide (s.size ≤ 9223372036854775807)) with
  | true => bif pN (bz s) then ∀ (k cap : Nat) (d : List Value), rowIOK d k cap = true → zc d k = rolF (pS (bz s)) → K (.tuple ⟨[.pointer (some ⟨n, 0, some 0⟩), .bool true]⟩) ((m.upd n ⟨frmP (bz s) (n + 1) k cap, 156, true⟩).upd (n + 1) ⟨d, 251, true⟩) (n + 2)
   else K (.tuple ⟨[.pointer none, .bool false]⟩) m n
  | false => False
 | _ => False
def Rfm (c : Bool) (s : ByteArray) (v : Value) (bs : List (Option Blk)) : Prop :=
 (pN (bz s) = true ∧ ∃ a x k cap d, v = .tuple ⟨[.pointer (some ⟨a, 0, some 0⟩), .bool true]⟩ ∧ RowI d k cap ∧ zc d k = rolF (pS (bz s)) ∧ bs = [some ⟨frmP (bz s) x k cap, 156, true⟩, some ⟨d, 251, true⟩]) ∨
 (c = true ∧ vOK (bz s) = true ∧ pN (bz s) = false ∧ ∃ a, v = .tuple ⟨[.pointer (some ⟨a, 0, some 0⟩), .bool true]⟩ ∧ bs = [some ⟨chrP (bz s), 156, true⟩]) ∨
 (pN (bz s) = false ∧ (c = true → vOK (bz s) = false) ∧ v = .tuple ⟨[.pointer none, .bool false]⟩)
theorem rfm_new {c : Bool} {s : ByteArray} {v' : Value} {m m' : Lk} {n : Nat} {K : Value → Lk → Nat → Prop} (hR : Rfm c s v' (look m' v'))
  (h1 : pN (bz s) = true → ∀ (k cap : Nat) (d : List Value), rowIOK d k cap = true → zc d k = rolF (pS (bz s)) → K (.tuple ⟨[.pointer (some ⟨n, 0, some 0⟩), .bool true]⟩) ((m.upd n ⟨frmP (bz s) (n + 1) k cap, 156, true⟩).upd (n + 1) ⟨d, 251, true⟩) (n + 2))
  (h2 : c = true → vOK (bz s) = true → pN (bz s) = false → K (.tuple ⟨[.pointer (some ⟨n, 0, some 0⟩), .bool true]⟩) (m.upd n ⟨chrP (bz s), 156, true⟩) (n + 1))
  (h3 : pN (bz s) = false → (c = true → vOK (bz s) = false) → K (.tuple ⟨[.pointer none, .bool false]⟩) m n) :
  ∃ v mm nn σ, ((∀ k b, m k = some b → k < n) → NewM m n m' mm nn σ) ∧ (∀ i ∈ ids v, n ≤ i ∧ i < nn) ∧ (∀ ι' ι'' : Nm, (∀ i, n ≤ i → ι'' i = ι' (σ i)) → ren ι'' v = ren ι' v') ∧ K v mm nn := by
 rcases hR with ⟨hv, a, x, k, cap, d, rfl, r1, r2, hbs⟩ | ⟨hc, hv, hp, a, rfl, hbs⟩ | ⟨hv, hc, rfl⟩
 ·obtain ⟨a1, a2⟩ := look_form (x := x) (k := k) (cap := cap) rfl hbs
  refine ⟨_, _, _, fun j => if j = n then a else x, fun hwf => new_form hwf a1 a2 rfl rfl r1.plain rfl rfl ?_, ?_, fun ι' ι'' hι => ?_, h1 hv k cap d (rowIOK_iff.2 r1) r2⟩
  ·rintro rfl
   rw [a1] at a2
   cases a2
  ·intro i hi
   have : i = n := by simpa [ids, idsL] using hi
   omega
  ·have e := hι n (Nat.le_refl _)
   simp only [if_true] at e
   simp [ren, renL, ren1, e]
 ·have ha : m' a = some ⟨chrP (bz s), 156, true⟩ := by
   simp only [look] at hbs
   cases ha : m' a with
   | none => rw [ha] at hbs; cases hbs
   | some b =>
    rw [ha] at hbs
    simp only at hbs
    split at hbs
    ·cases hbs
    ·cases hbs; rfl
  refine ⟨_, _, _, fun j => a, fun hwf => new_one hwf ha rfl rfl, ?_, fun ι' ι'' hι => ?_, h2 hc hv hp⟩
  ·intro i hi
   have : i = n := by simpa [ids, idsL] using hi
   omega
  ·have e := hι n (Nat.le_refl _)
   simp [ren, renL, ren1, e]
 ·exact ⟨_, m, n, id, fun hwf => new_none hwf _ _, by simp [ids, idsL], fun _ _ _ => by simp [ren, renL], h3 hv hc⟩
theorem v70 (s : ByteArray) (R : Value → List (Option Blk) → Prop) : (bodyQ Tryz.prog G26 noL Tryz.f145 [S s] (fun _ => none) 0 (fun v m _ => R v (look m v))) = ( bif decide (ByteArray.size s ≤ 9223372036854775807) then bif !exOK (bz s) then R (.tuple (.mk [.pointer none, B false])) [] else bif decide (ByteArray.size (sz (Prod.fst (xpGo (bz s) 0 0 []))) ≤ 1000) && (decide (ByteArray.size (ByteArray.mk #[65, 88, 57]) ≤ 1000) && asc (bz (ByteArray.mk #[65, 88, 57]))) && bif ByteArray.toList (szO (trimZ (bz (sz (Prod.fst (xpGo (bz s) 0 0 [])))) (bz (ByteArray.mk #[65, 88, 57])))) == ByteArray.toList (ByteArray.mk #[]) then decide (ByteArray.size (sz (Prod.fst (xpGo (bz s) 0 0 []))) ≤ 1000) && (decide (ByteArray.size (ByteArray.mk #[65, 88]) ≤ 1000) && (asc (bz (sz (Prod.fst (xpGo (bz s) 0 0 [])))) && asc (bz (ByteArray.mk #[65, 88])))) && true else true then bif ByteArray.toList (szO (trimZ (bz (sz (Prod.fst (xpGo (bz s) 0 0 [])))) (bz (ByteArray.mk #[65, 88, 57])))) == ByteArray.toList (ByteArray.mk #[]) && anyZ (bz (sz (Prod.fst (xpGo (bz s) 0 0 [])))) (bz (ByteArray.mk #[65, 88])) then R (.tuple (.mk [.pointer (some (.mk 23 0 (some 0))), B true])) [some (.mk [S (sz (Prod.fst (xpGo (bz s) 0 0 []))), B false, I (↑(ByteArray.size (sz (Prod.fst (xpGo (bz s) 0 0 [])))) : Int), I 0, I 0, B false, .slice none 0 0, .int .u8 0, I 0, B false, .int .u8 0, I 0] 156 true)] else bif decide (ByteArray.size (sz (Prod.fst (xpGo (bz s) 0 0 []))) ≤ 32) && allK (bz (sz (Prod.fst (xpGo (bz s) 0 0 [])))) then bif numV (bz (sz (Prod.fst (xpGo (bz s) 0 0 [])))) then ∀ (k cap : Nat) (d : List Value), rowIOK d k cap = true → zc d k = rolF (bz (sz (Prod.fst (xpGo (bz s) 0 0 [])))) → R (.tuple (.mk [.pointer (some (.mk 20 0 (some 0))), B true])) [some (.mk [S (sz (bz (sz (Prod.fst (xpGo (bz s) 0 0 []))))), B true, I ((↑(List.length (bz (sz (Prod.fst (xpGo (bz s) 0 0 []))))) : Int) - (↑(cntZ (bz (sz (Prod.fst (xpGo (bz s) 0 0 [])))) 86) : Int)), I (pdGo (marksZ (bz (sz (Prod.fst (xpGo (bz s) 0 0 [])))))), I (pqGo (bz (sz (Prod.fst (xpGo (bz s) 0 0 [])))) (marksZ (bz (sz (Prod.fst (xpGo (bz s) 0 0 []))))) 0), B (signsZ (bz (sz (Prod.fst (xpGo (bz s) 0 0 [])))) == 1), .slice (some (.mk 21 0 (some 1))) k cap, .int .u8 (drZ (bodyZ (bz (sz (Prod.fst (xpGo (bz s) 0 0 [])))))), I (Prod.snd (Prod.snd (nD (bodyZ (bz (sz (Prod.fst (xpGo (bz s) 0 0 [])))))))), B (crZ (bz (sz (Prod.fst (xpGo (bz s) 0 0 []))))), .int .u8 (fdFl (bz (sz (Prod.fst (xpGo (bz s) 0 0 []))))), I (↑(cntZ (mkGo (drZ (bodyZ (bz (sz (Prod.fst (xpGo (bz s) 0 0 [])))))) false (bodyZ (bz (sz (Prod.fst (xpGo (bz s) 0 0 [])))))) 100) : Int)] 156 true), some (.mk d 251 true)] else R (.tuple (.mk [.pointer none, B false])) [] else False else False else False) := by kernel_rfl
theorem fn70 : Fn1 Tryz.prog 145 Tryz.f145 := ⟨Tryz.func145, by kernel_rfl, by kernel_rfl, by kernel_rfl⟩
theorem w70 (s : ByteArray) (hs : s.size ≤ 9223372036854775807) : DoesM Tryz.prog G26 noL Tryz.f145 [.string s] (fun _ => none) 0 (fun v m _ => Rfm true s v (look m v)) := by
 rw [DoesM, v70]
 have hN : pN (bz s) = false → vOK (bz s) = false → Rfm true s (.tuple ⟨[.pointer none, .bool false]⟩) [] := fun h1 h2 => .inr (.inr ⟨h1, fun _ => h2, rfl⟩)
 refine c_t (decide_eq_true hs) (cond_intro (fun h => ?_) (fun h => ?_))
 ·have h : exOK (bz s) = false := by simpa using h
  exact hN (by rw [pN, h]; rfl) (by rw [vOK, h]; rfl)
 have h : exOK (bz s) = true := by simpa using h
 have e : (xpGo (bz s) 0 0 []).1 = exZ (bz s) := by rw [exZ, if_pos h]
 obtain ⟨x1, x2⟩ := ex_rng s
 have k1 : bz ⟨#[65, 88, 57]⟩ = [65, 88, 57] := rfl
 have k2 : bz ⟨#[65, 88]⟩ = [65, 88] := rfl
 rw [e, bz_sz x1, sz_size, k1, k2, szO_eq, toList_beq, bz_sz (l := trimZ (exZ (bz s)) [65, 88, 57])]
 rotate_left
 ·intro c hc
  refine x1 c ?_
  unfold trimZ at hc
  have := List.dropWhile_sublist _ |>.subset hc
  have : c ∈ (exZ (bz s)).reverse.dropWhile (hasZ [65, 88, 57]) := by simpa using this
  simpa using List.dropWhile_sublist _ |>.subset this
 have hk := allK_spec (ex_kL (bz s))
 have k3 : bz ⟨#[]⟩ = [] := rfl
 rw [k3]
 have eC : (decide (trimZ (exZ (bz s)) [65, 88, 57] = []) && anyZ (exZ (bz s)) [65, 88]) = charZ (exZ (bz s)) := by
  rw [charZ, Bool.eq_iff_iff]
  simp only [Bool.and_eq_true, decide_eq_true_eq, trim_nil, List.all_eq_true, anyZ, List.any_eq_true, Bool.or_eq_true, hasZ_iff]
  refine and_congr Iff.rfl ⟨?_, ?_⟩
  ·rintro ⟨c, h1, h2⟩
   simp at h2
   rcases h2 with rfl | rfl
   ·exact .inl h1
   ·exact .inr h1
  ·rintro (h1 | h1)
   ·exact ⟨65, h1, by simp⟩
   ·exact ⟨88, h1, by simp⟩
 rw [eC]
 refine c_t ?_ (cond_intro (fun hc => ?_) (fun hc => c_t ?_ (cond_intro (fun hn k cap d r1 r2 => ?_) (fun hn => ?_))))
 ·have a1 : decide ((exZ (bz s)).length ≤ 1000) = true := decide_eq_true (by omega)
  rw [a1, hk.1]
  cases decide (trimZ (exZ (bz s)) [65, 88, 57] = []) <;> rfl
 ·have hv : vOK (bz s) = true := by rw [vOK, h, hc]; rfl
  have hp : pN (bz s) = false := by rw [pN, h, numV, hc]; rfl
  refine .inr (.inl ⟨rfl, hv, hp, 23, rfl, ?_⟩)
  have e1 : pS (bz s) = exZ (bz s) := by rw [pS, if_pos hv]
  have e2 : pW (bz s) = (exZ (bz s)).length := by rw [pW, if_pos hv, if_pos hc]
  rw [chrP, e1, e2]
 ·rw [decide_eq_true (show (exZ (bz s)).length ≤ 32 by omega), ex_kL]
  rfl
 ·have hp : pN (bz s) = true := by rw [pN, h, hn]; rfl
  have e1 : pS (bz s) = exZ (bz s) := by rw [pS, if_pos (pN_vOK hp)]
  refine .inl ⟨hp, 20, 21, k, cap, d, rfl, rowIOK_iff.1 r1, by rw [e1]; exact r2, ?_⟩
  rw [← frm_P hp]
  rfl
 ·exact hN (by rw [pN, h, hn]; rfl) (by rw [vOK, h, hc, hn]; rfl)
theorem h70_ok : GenOK Tryz.prog 145 h70 := by
 refine gen_newR ok_G26 hmix fn70 lokf_none fun args m n K h => ?_
 unfold h70 at h
 split at h
 case h_2 => exact h.elim
 rename_i s
 split at h
 case h_2 => exact h.elim
 rename_i hc
 have hc : s.size ≤ 9223372036854775807 := of_decide_eq_true hc
 refine ⟨[.string s], fun _ => none, 0, id, Rfm true s, sub_none _ _ _, fun ι => by simp [ren], Nat.le_of_ble_eq_true (by kernel_rfl), fun v hv j hj => ?_, w70 s hc, fun v' m' hR => ?_⟩
 ·simp at hv; subst hv; simp [ids] at hj
 ·refine rfm_new hR (fun hp => ?_) (fun _ hv hp => ?_) (fun hp hv => ?_)
  ·rw [pN_vOK hp, hp] at h; exact h
  ·rw [hv, hp] at h; exact h
  ·rw [hv rfl] at h; exact h
def G27 : Env := Env.nil.addG 145 h70
theorem ok_G27 : EnvOK Tryz.prog G27 := env_addG env_nil h70_ok
theorem v62 (s : ByteArray) (R : Value → List (Option Blk) → Prop) : (bodyQ Tryz.prog G27 noL Tryz.f136 [S s] (fun _ => none) 0 (fun v m _ => R v (look m v))) = ( bif decide (ByteArray.size s ≤ 9223372036854775807) then bif vOK (bz s) then bif pN (bz s) then ∀ (k cap : Nat) (d : List Value), rowIOK d k cap = true → zc d k = rolF (pS (bz s)) → R (.tuple (.mk [.pointer (some (.mk 4 0 (some 0))), B true])) [some (.mk [S (sz (pS (bz s))), B true, I (pW (bz s)), I (pD (bz s)), I (pQ (bz s)), B (pG (bz s)), .slice (some (.mk 5 0 (some 1))) k cap, .int .u8 (drZ (bodyZ (pS (bz s)))), I (Prod.snd (Prod.snd (nD (bodyZ (pS (bz s)))))), B (crZ (pS (bz s))), .int .u8 (fdFl (pS (bz s))), I (↑(cntZ (mkGo (drZ (bodyZ (pS (bz s)))) false (bodyZ (pS (bz s)))) 100) : Int)] 156 true), some (.mk d 251 true)] else R (.tuple (.mk [.pointer none, B false])) [] else R (.tuple (.mk [.pointer none, B false])) [] else False) := by kernel_rfl
theorem fn62 : Fn1 Tryz.prog 136 Tryz.f136 := ⟨Tryz.func136, by kernel_rfl, by kernel_rfl, by kernel_rfl⟩
theorem w62 (s : ByteArray) (hs : s.size ≤ 9223372036854775807) : DoesM Tryz.prog G27 noL Tryz.f136 [.string s] (fun _ => none) 0 (fun v m _ => Rfm false s v (look m v)) := by
 rw [DoesM, v62]
 refine c_t (decide_eq_true hs) (cond_intro (fun h => cond_intro (fun hn k cap d r1 r2 => ?_) (fun hn => ?_)) (fun h => ?_))
 ·exact .inl ⟨hn, 4, 5, k, cap, d, rfl, rowIOK_iff.1 r1, r2, rfl⟩
 ·exact .inr (.inr ⟨hn, fun q => (by cases q), rfl⟩)
 ·refine .inr (.inr ⟨?_, fun q => (by cases q), rfl⟩)
  cases hp : pN (bz s) with
  | false => rfl
  | true => rw [pN_vOK hp] at h; cases h
theorem h62_ok : GenOK Tryz.prog 136 h62 := by
 refine gen_newR ok_G27 hmix fn62 lokf_none fun args m n K h => ?_
 unfold h62 at h
 split at h
 case h_2 => exact h.elim
 rename_i s
 split at h
 case h_2 => exact h.elim
 rename_i hc
 have hc : s.size ≤ 9223372036854775807 := of_decide_eq_true hc
 refine ⟨[.string s], fun _ => none, 0, id, Rfm false s, sub_none _ _ _, fun ι => by simp [ren], Nat.le_of_ble_eq_true (by kernel_rfl), fun v hv j hj => ?_, w62 s hc, fun v' m' hR => ?_⟩
 ·simp at hv; subst hv; simp [ids] at hj
 ·refine rfm_new hR (fun hp => ?_) (fun q _ _ => by cases q) (fun hp _ => ?_)
  ·rw [hp] at h; exact h
  ·rw [hp] at h; exact h
def G28 : Env := Env.nil.addG 145 h70
theorem ok_G28 : EnvOK Tryz.prog G28 := env_addG env_nil h70_ok
end Go.Px
end
noncomputable section
namespace Go.Px
open Go Go.Ab Go.Proofs Go.Shelf
def s35 (s : ByteArray) : Bool × Value := (decide (s.size ≤ 9223372036854775807), .tuple ⟨[picV (bz s), .int .i64 (pE (bz s))]⟩)
theorem fn35 : Fn1 Tryz.prog 113 Tryz.f113 := ⟨Tryz.func113, by kernel_rfl, by kernel_rfl, by kernel_rfl⟩
theorem v35 (s : ByteArray) (R : Value → Prop) : bodyQ Tryz.prog G28 noL Tryz.f113 [Enc.enc s] (fun _ => none) 0 (fun v _ _ => R v) = ( bif decide (ByteArray.size s ≤ 9223372036854775807) then bif vOK (bz s) then bif pN (bz s) then ∀ (k cap : Nat) (d : List Value), rowIOK d k cap = true → zc d k = rolF (pS (bz s)) → R (.tuple (.mk [.agg (.mk [S (sz (pS (bz s))), B true, I (pW (bz s)), I (pD (bz s)), I (pQ (bz s)), B (pG (bz s))]), I 0])) else R (.tuple (.mk [.agg (.mk [S (sz (pS (bz s))), B false, I (pW (bz s)), I 0, I 0, B false]), I 0])) else R (.tuple (.mk [.agg (.mk [S (ByteArray.mk #[]), B false, I 0, I 0, I 0, B false]), I 30])) else False) := by kernel_rfl
theorem ok35 : PureOK Tryz.prog 113 (sp1 s35) := by
 refine qure1 ok_G28 hmix fn35 lokf_none (Nat.le_of_ble_eq_true (by kernel_rfl)) fun s hc => ?_
 rw [DoesQ, v35]
 have hc : (s.size ≤ 9223372036854775807) := of_decide_eq_true hc
 try dsimp only [s35]
 refine c_t (decide_eq_true hc) (cond_intro (fun hv => cond_intro (fun hn k cap d _ _ => ?_) (fun hn => ?_)) (fun hv => ?_))
 ·simp [picV, pE, hv, hn]
 ·simp [picV, pE, hv, hn, pD, pQ, pG]
 ·have hn : pN (bz s) = false := by
   cases q : pN (bz s) with
   | false => rfl
   | true => rw [pN_vOK q] at hv; cases hv
  have a1 : pS (bz s) = [] := by rw [pS, if_neg (by rw [hv]; simp)]
  have a2 : pW (bz s) = 0 := by rw [pW, if_neg (by rw [hv]; simp)]
  have a3 : pD (bz s) = 0 := by rw [pD, if_neg (by rw [hn]; simp)]
  have a4 : pQ (bz s) = 0 := by rw [pQ, if_neg (by rw [hn]; simp)]
  have a5 : pG (bz s) = false := by rw [pG, hn]; rfl
  have a6 : pE (bz s) = 30 := by rw [pE, if_neg (by rw [hv]; simp)]
  rw [picV, a1, a2, a3, a4, a5, a6, hn, sz_nil]
def G29 : Env := Env.nil.add 113 (sp1 s35)
theorem ok_G29 : EnvOK Tryz.prog G29 := env_add env_nil ok35
def s33 (s : ByteArray) : Bool × Value := (decide (s.size ≤ 9223372036854775807), .int .i64 (pE (bz s)))
theorem fn33 : Fn1 Tryz.prog 67 Tryz.f67 := ⟨Tryz.func67, by kernel_rfl, by kernel_rfl, by kernel_rfl⟩
theorem v33 (s : ByteArray) (R : Value → Prop) : bodyQ Tryz.prog G29 noL Tryz.f67 [Enc.enc s] (fun _ => none) 0 (fun v _ _ => R v) = ( bif decide (ByteArray.size s ≤ 9223372036854775807) then R (I (pE (bz s))) else False) := by kernel_rfl
theorem ok33 : PureOK Tryz.prog 67 (sp1 s33) := by
 refine qure1 ok_G29 hmix fn33 lokf_none (Nat.le_of_ble_eq_true (by kernel_rfl)) fun s hc => ?_
 rw [DoesQ, v33]
 have hc : (s.size ≤ 9223372036854775807) := of_decide_eq_true hc
 try dsimp only [s33]
 exact c_t (decide_eq_true hc) rfl
theorem rol_marks {l : List Int} (h : pN l = true) : NumL (pS l) ∧ okR (rolF (pS l)) ∧ (rolF (pS l)).map rmk = marksZ (pS l) := by
 have hv := pN_vOK h
 have e : pS l = exZ l := by rw [pS, if_pos hv]
 simp only [pN, Bool.and_eq_true] at h
 rw [e]
 have hL := (num_law (l := exZ l) fun c hm => (allK_spec (ex_kL l)).2 c (body_sub hm)).2 h.2
 have hm : (rolF (exZ l)).map rmk = marksZ (exZ l) := by
  rw [rolF, List.map_append, hL.roles, marksZ]
  congr 1
  cases crZ (exZ l) <;> rfl
 refine ⟨hL, ?_, hm⟩
 intro r hr
 rcases List.mem_append.1 hr with hr | hr
 ·exact hL.ok r hr
 ·cases hc : crZ (exZ l) with
  | false => rw [hc] at hr; cases hr
  | true =>
   rw [hc] at hr
   have : r = 4 ∨ r = 4 := by simpa using hr
   omega
theorem rol_len {l : List Int} (h : pN l = true) : (rolF (pS l)).length = (pS l).length := by
 have := congrArg List.length (rol_marks h).2.2
 rw [List.length_map, marks_len] at this
 exact this
end Go.Px
end
noncomputable section
namespace Go.Px
open Go Go.Ab Go.Proofs Go.Shelf Go.RowKit Go.Sort Go.Lib
theorem laysM284 : LaysM.n284 Tryz.prog Tryz.lays172_ren := { Tryz.lays172 with
 i0 := by kernel_rfl
 i3 := by kernel_rfl
 i4 := by kernel_rfl
 i5 := by kernel_rfl
 i9 := by kernel_rfl
 i46 := by kernel_rfl
 i53 := by kernel_rfl
 i212 := by kernel_rfl
 m17 := by kernel_rfl }
theorem tab_pow {w : World} (h : TabsIn w.heap.size w) : Lib.TabIs Tryz.prog w "internal/strconv.uint64pow10" .u64 Lib.pow10Tab := by
 obtain ⟨_, ty, fr, h2⟩ := h 1 _ rfl
 unfold Lib.TabIs World.var?
 have e : Tryz.prog.globalNamed "internal/strconv.uint64pow10" = some 1 := by kernel_rfl
 rw [e]
 simp only [Option.bind_some, h2]
 rfl
theorem fmt_small (u : Nat) (hu : u < 100) (w : World) : Calls Tryz.prog 155 #[.int .u64 u, .int .i64 10] w fun e w' => e = .returned (.string ⟨(Lib.decDigits u).toArray⟩) ∧ w' = w := by
 have mixed := Tryz.lays172.mixed
 have e142 : ∀ args w, (callFunc 216 args).run Tryz.prog w = .ok (.enter 216 args) w := enters_of Tryz.func216 (by kernel_rfl) rfl
 have hw : IntKind.i64.wrap (u : Int) = (u : Int) := by rw [IntKind.wrap_i64]; omega
 go_enter Tryz.func155, Tryz.ntmps155
 go_wp2_with (go_at_fn 216; refine (Any.internal_strconv_small (ρ := Tryz.lays172_ren) { Tryz.lays172 with } u hu _).mono ?_; rintro e w' ⟨rfl, rfl⟩)
 go_ret
 exact ⟨rfl, rfl⟩
set_option maxHeartbeats 6400000 in
set_option maxRecDepth 100000 in
theorem fmt_big (u : Nat) (hu : 100 ≤ u) (hu64 : u < 18446744073709551616) (w : World) (htab : Lib.TabIs Tryz.prog w "internal/strconv.uint64pow10" .u64 Lib.pow10Tab) :
  Calls Tryz.prog 155 #[.int .u64 u, .int .i64 10] w fun e w' => e = .returned (.string ⟨(Lib.decDigits u).toArray⟩) ∧ ∃ k os, w' = grow (w.drewN k) os := by
 have mixed := Tryz.lays172.mixed
 have e143 : ∀ args w, (callFunc 217 args).run Tryz.prog w = .ok (.enter 217 args) w := enters_of Tryz.func217 (by kernel_rfl) rfl
 have e144 : ∀ args w, (callFunc 218 args).run Tryz.prog w = .ok (.enter 218 args) w := enters_of Tryz.func218 (by kernel_rfl) rfl
 have hu1 : 1 ≤ u := by omega
 have hnd20 : Lib.nDigits u ≤ 20 := by have := Lib.numDigits_eq u hu1 hu64; split at this <;> omega
 have iu : (100 : Int) ≤ (u : Int) := by omega
 have t148 := Tryz.underlying216
 have hal : Tryz.prog.arrayLen 216 = 24 := by simp [Program.arrayLen, Tryz.underlying216]
 have hsl : ∀ W, (Instr.sliceAt 216 (.pointer (some ⟨w.heap.size, 0, none⟩)) none (some (.int .i64 (Lib.nDigits u : Int))) none).run Tryz.prog W = .ok (.slice (some ⟨w.heap.size, 0, none⟩) (Lib.nDigits u) 24) W := fun W => by
  rw [run_sliceAt_array_h W 216 ⟨w.heap.size, 0, none⟩ (by simp [Program.arrayLen, Program.elem, Tryz.underlying216]) .i64 (Lib.nDigits u : Int) (by omega) (by rw [hal]; omega)]
  go_simp
 have hH0 := Lib.holds_zero0 w 216 (Lib.nDigits u) (by omega)
 have hfmt := Any.internal_strconv_formatBase10 (ρ := Tryz.lays172_ren) { Tryz.lays172 with } w.heap.size 0 24 u (Array.replicate (Lib.nDigits u) 0) (w.alloc (.cells Lib.zeros24 216)) hH0 (by rw [Array.size_replicate]; exact Lib.lt_pow_nDigits u) hu64 (by rw [Array.size_replicate]; omega)
 rw [Array.size_replicate] at hfmt
 have HH0 := Lib.hid hH0
 clear hH0 hal
 go_enter Tryz.func155, Tryz.ntmps155
 go_wp2_with (first
  | (go_at_fn 217; refine (Any.internal_strconv_numDigits (ρ := Tryz.lays172_ren) laysM284 u hu1 hu64 _ (Lib.tabIs_alloc htab _)).mono ?_; rintro e w' ⟨rfl, rfl⟩))
 go_at_fn 218
 refine hfmt.mono ?_
 rintro e w' ⟨rfl, k, v', dk, rfl, hF⟩
 have hcv : (convert 96 9 (.slice (some ⟨w.heap.size, 0, none⟩) (Lib.nDigits u) 24)).run Tryz.prog ((putRow (fun (b : UInt8) => Value.int .u8 (b.toNat : Int)) (w.alloc (.cells Lib.zeros24 216)) w.heap.size 0 dk).drewN k) = .ok (.string ⟨(Lib.decDigits u).toArray⟩) ((putRow (fun (b : UInt8) => Value.int .u8 (b.toNat : Int)) (w.alloc (.cells Lib.zeros24 216)) w.heap.size 0 dk).drewN k) := by
  have h := run_convert_bytes_back (P := Tryz.prog) ((putRow (fun (b : UInt8) => Value.int .u8 (b.toNat : Int)) (w.alloc (.cells Lib.zeros24 216)) w.heap.size 0 dk).drewN k) 96 9 5 ⟨w.heap.size, 0, none⟩ 24 (Lib.decDigits u) Tryz.underlying96 Tryz.underlying5 Tryz.underlying9 (fun j hj => by
   rw [Lib.row_is_numeral hF j hj, Lib.add_plain, World.cell?_drewN]
   exact cell?_putRow (fun (b : UInt8) => Value.int .u8 (b.toNat : Int)) _ w.heap.size 0 _ dk HH0.out (by rw [hF.size, Array.size_replicate]) j (by rw [hF.size]; rw [Lib.decDigits_length] at hj; exact hj))
  rw [Lib.decDigits_length] at h
  exact h
 go_wp2
 go_ret
 obtain ⟨os, eo⟩ := Lib.fin_at w (.cells Lib.zeros24 216) dk k 0
 exact ⟨rfl, k, os, eo⟩
def decZ (n : Int) : List Int := zl (Lib.decDigits n.toNat)
theorem c87 : Callable Tryz.prog 81 := cal Tryz.func81 (by kernel_rfl) (by kernel_rfl)
theorem fmt_all (u : Nat) (hu64 : u < 18446744073709551616) (w : World) (ht : TabsIn w.heap.size w) :
  Calls Tryz.prog 155 #[.int .u64 u, .int .i64 10] w fun e w' => e = .returned (.string ⟨(Lib.decDigits u).toArray⟩) ∧ RowKit.Below w.heap.size w w' := by
 by_cases hu : u < 100
 ·exact (fmt_small u hu w).mono fun e w' ⟨h1, h2⟩ => ⟨h1, below_of_eq h2⟩
 ·exact (fmt_big u (by omega) hu64 w (tab_pow ht)).mono fun e w' ⟨h1, k, os, h2⟩ => ⟨h1, by rw [h2]; exact Lib.below_grow _ _ (Nat.le_refl _) _ _⟩
theorem fmt87 (u : Nat) (hu64 : u < 18446744073709551616) (w : World) (ht : TabsIn w.heap.size w) :
  Calls Tryz.prog 81 #[.int .u64 u, .int .i64 10] w fun e w' => e = .returned (.string ⟨(Lib.decDigits u).toArray⟩) ∧ RowKit.Below w.heap.size w w' := by
 have mixed := Tryz.lays172.mixed
 have e115 : ∀ args w, (callFunc 155 args).run Tryz.prog w = .ok (.enter 155 args) w := enters_of Tryz.func155 (by kernel_rfl) rfl
 go_enter Tryz.func81, Tryz.ntmps81
 go_wp2_with (go_at_fn 155; refine (fmt_all u hu64 _ ht).mono ?_; rintro e w' ⟨rfl, hb⟩)
 go_ret
 exact ⟨rfl, hb⟩
def isTen (b : Int) : Bool := b == 10
def s87 (n : U64) (b : Int) : Bool × Value := (decide (0 ≤ n.n ∧ n.n < 18446744073709551616) && isTen b, .string (sz (decZ n.n)))
theorem ok87 : PureOK Tryz.prog 81 (sp2 s87) := shelf2 c87 fun n b hc w ht => by
 simp only [s87, isTen, Bool.and_eq_true, decide_eq_true_eq, beq_iff_eq] at hc
 obtain ⟨⟨h0, h1⟩, rfl⟩ := hc
 have e : Enc.enc n = Value.int .u64 (n.n.toNat : Int) := by
  show Value.int .u64 n.n = _
  rw [Int.toNat_of_nonneg h0]
 rw [e]
 refine (fmt87 n.n.toNat (by omega) w ht).mono fun e w' ⟨h4, h5⟩ => ⟨?_, h5⟩
 rw [h4, sz_zl]
 rfl
end Go.Px
end
section
namespace Go.Px
open Go Go.Ab Go.Proofs
def dval (l : List Int) : Int := numZ l 0
theorem numZ_acc : ∀ (l : List Int) (a : Int), numZ l a = a * tenZ l.length + numZ l 0
 | [], a => by simp [numZ, tenZ]
 | c :: r, a => by
  rw [numZ, numZ_acc r, numZ, numZ_acc r (0 * 10 + (c - 48)), List.length_cons, tenZ_succ, Int.add_mul, Int.add_mul, Int.mul_assoc, Int.mul_comm 10 (tenZ r.length)]
  omega
theorem dval_app (a b : List Int) : dval (a ++ b) = dval a * tenZ b.length + dval b := by
 have : ∀ (l : List Int) (x : Int), numZ (l ++ b) x = numZ b (numZ l x) := by
  intro l
  induction l with
  | nil => exact fun _ => rfl
  | cons c r ih => exact fun x => ih _
 rw [dval, this, numZ_acc b]
 rfl
theorem dval_snoc (l : List Int) (c : Int) : dval (l ++ [c]) = dval l * 10 + (c - 48) := by
 rw [dval_app]
 simp [dval, numZ, tenZ]
theorem dgL_app {a b : List Int} : dgL (a ++ b) = true ↔ dgL a = true ∧ dgL b = true := by simp [dgL]
theorem dgL_cons {c : Int} {l : List Int} : dgL (c :: l) = true ↔ (48 ≤ c ∧ c ≤ 57) ∧ dgL l = true := by simp [dgL]
theorem tenZ_pos (n : Nat) : 0 < tenZ n := by unfold tenZ; exact Int.pow_pos (by decide)
theorem dval_rng : ∀ l : List Int, dgL l = true → 0 ≤ dval l ∧ dval l < tenZ l.length
 | [], _ => by simp [dval, numZ, tenZ]
 | c :: r, h => by
  obtain ⟨h1, h2⟩ := dgL_cons.1 h
  have ih := dval_rng r h2
  have e : dval (c :: r) = (c - 48) * tenZ r.length + dval r := by
   have := dval_app [c] r
   simpa [dval, numZ] using this
  have hp := tenZ_pos r.length
  rw [e, List.length_cons, tenZ_succ]
  have h3 : (c - 48) * tenZ r.length ≤ 9 * tenZ r.length := Int.mul_le_mul_of_nonneg_right (by omega) (by omega)
  have h4 : 0 ≤ (c - 48) * tenZ r.length := Int.mul_nonneg (by omega) (by omega)
  omega
theorem dval_head {c : Int} {r : List Int} (h : dgL (c :: r) = true) (hc : c ≠ 48) : tenZ r.length ≤ dval (c :: r) := by
 obtain ⟨h1, h2⟩ := dgL_cons.1 h
 have ih := dval_rng r h2
 have e : dval (c :: r) = (c - 48) * tenZ r.length + dval r := by
  have := dval_app [c] r
  simpa [dval, numZ] using this
 have hp := tenZ_pos r.length
 have h3 : 1 * tenZ r.length ≤ (c - 48) * tenZ r.length := Int.mul_le_mul_of_nonneg_right (by omega) (by omega)
 rw [e]
 omega
theorem digZ_val' : ∀ (n : Nat) (l : List Int), l.length = n → dgL l = true → digZ (dval l) n = l
 | 0, l, hl, _ => by rw [List.length_eq_zero_iff.1 hl]; rfl
 | n + 1, l, hl, h => by
  rcases List.eq_nil_or_concat l with rfl | ⟨a, c, rfl⟩
  ·cases hl
  ·rw [List.concat_eq_append] at h hl ⊢
   obtain ⟨h1, h2⟩ := dgL_app.1 h
   have h2 := (dgL_cons.1 h2).1
   rw [digZ, dval_snoc]
   have e1 : (dval a * 10 + (c - 48)) / 10 = dval a := by omega
   have e2 : 48 + (dval a * 10 + (c - 48)) % 10 = c := by omega
   rw [e1, e2, digZ_val' n a (by simpa using hl) h1]
theorem digZ_mod : ∀ (d : Nat) (v : Int), 0 ≤ v → digZ (v % tenZ d) d = digZ v d
 | 0, _, _ => rfl
 | d + 1, v, h => by
  obtain ⟨n, rfl⟩ : ∃ n : Nat, v = n := ⟨v.toNat, by omega⟩
  have et : tenZ (d + 1) = ((10 * 10 ^ d : Nat) : Int) := by
   unfold tenZ
   rw [Nat.mul_comm, ← Nat.pow_succ]
   simp
  have ed : tenZ d = ((10 ^ d : Nat) : Int) := by unfold tenZ; simp
  have e1 : ((n : Int) % tenZ (d + 1)) / 10 = ((n : Int) / 10) % tenZ d := by
   rw [et, ed]
   have := Nat.mod_mul_right_div_self n 10 (10 ^ d)
   exact_mod_cast this
  have e2 : ((n : Int) % tenZ (d + 1)) % 10 = (n : Int) % 10 := by
   rw [et]
   have := Nat.mod_mul_right_mod n 10 (10 ^ d)
   exact_mod_cast this
  rw [digZ, digZ, e1, e2, digZ_mod d _ (by omega)]
theorem dval_strip : ∀ l : List Int, dval (l.dropWhile (· == 48)) = dval l
 | [] => rfl
 | c :: r => by
  rw [List.dropWhile_cons]
  cases h : c == 48 with
  | false => simp
  | true =>
   rw [if_pos rfl, dval_strip r]
   have := dval_app [c] r
   rw [eq_of_beq h] at this ⊢
   simp [dval, numZ]
theorem dgL_strip {l : List Int} (h : dgL l = true) : dgL (l.dropWhile (· == 48)) = true := by
 simp only [dgL, List.all_eq_true] at h ⊢
 exact fun c hc => h c ((List.dropWhile_sublist _).subset hc)
theorem strip_head : ∀ l : List Int, l.dropWhile (· == 48) = [] ∨ ∃ c r, l.dropWhile (· == 48) = c :: r ∧ c ≠ 48
 | [] => .inl rfl
 | c :: r => by
  rw [List.dropWhile_cons]
  cases h : c == 48 with
  | true => rw [if_pos rfl]; exact strip_head r
  | false => exact .inr ⟨c, r, by simp, by simpa using h⟩
theorem tenZ_mono {a b : Nat} (h : a ≤ b) : tenZ a ≤ tenZ b := by
 unfold tenZ
 have : (10 : Nat) ^ a ≤ 10 ^ b := Nat.pow_le_pow_right (by decide) h
 exact_mod_cast this
theorem strip_len {l : List Int} (h : dgL l = true) (d : Nat) : (l.dropWhile (· == 48)).length ≤ d ↔ dval l < tenZ d := by
 have hs := dgL_strip h
 have r := dval_rng _ hs
 rw [dval_strip] at r
 constructor
 ·intro hl
  have := tenZ_mono hl
  omega
 ·intro hv
  rcases strip_head l with e | ⟨c, t, e, hc⟩
  ·rw [e]; exact Nat.zero_le _
  ·have := dval_head (e ▸ hs) hc
   rw [← e, dval_strip] at this
   rw [e, List.length_cons]
   have hlt : ¬ d ≤ t.length := fun q => by have := tenZ_mono q; omega
   omega
theorem strip_nil {l : List Int} (h : dgL l = true) : l.dropWhile (· == 48) = [] ↔ dval l = 0 := by
 have r := strip_len h 0
 have hv := (dval_rng l h).1
 have e : tenZ 0 = 1 := rfl
 rw [e, Nat.le_zero, List.length_eq_zero_iff] at r
 rw [r]
 omega
theorem dval_dig : ∀ (d : Nat) (v : Int), 0 ≤ v → dval (digZ v d) = v % tenZ d
 | 0, v, _ => by simp [digZ, dval, numZ, tenZ]
 | d + 1, v, h => by
  have e := digZ_mod (d + 1) v h
  have r := dval_rng (digZ v (d + 1)) (digZ_dg _ _)
  rw [digZ, dval_snoc, dval_dig d _ (by omega)]
  obtain ⟨n, rfl⟩ : ∃ n : Nat, v = n := ⟨v.toNat, by omega⟩
  have et : tenZ (d + 1) = ((10 * 10 ^ d : Nat) : Int) := by
   unfold tenZ
   rw [Nat.mul_comm, ← Nat.pow_succ]
   simp
  have ed : tenZ d = ((10 ^ d : Nat) : Int) := by unfold tenZ; simp
  have e1 : ((n : Int) % tenZ (d + 1)) / 10 = ((n : Int) / 10) % tenZ d := by
   rw [et, ed]
   have := Nat.mod_mul_right_div_self n 10 (10 ^ d)
   exact_mod_cast this
  have e2 : ((n : Int) % tenZ (d + 1)) % 10 = (n : Int) % 10 := by
   rw [et]
   have := Nat.mod_mul_right_mod n 10 (10 ^ d)
   exact_mod_cast this
  omega
end Go.Px
end
noncomputable section
namespace Go.Px
open Go Go.Ab Go.Proofs Go.Shelf
def fmL (s : ByteArray) (nb : Bool) (w d sc : Int) (sg : Bool) (x k cap : Nat) (dr f : Int) (cr : Bool) (fl fm : Int) : List Value :=
 [.string s, .bool nb, .int .i64 w, .int .i64 d, .int .i64 sc, .bool sg, .slice (some ⟨x, 0, some 1⟩) k cap, .int .u8 dr, .int .i64 f, .bool cr, .int .u8 fl, .int .i64 fm]
def vwF2 (c d : List Value) : Lk := fun j => match Nat.beq j 0 with | true => some ⟨c, 156, false⟩ | false => match Nat.beq j 1 with | true => some ⟨d, 251, false⟩ | false => none
def rho2 (a x : Nat) : Nat → Nat := fun j => match j with | 0 => a | _ => x
theorem sub_F2 {m : Lk} {a x k cap : Nat} {s : ByteArray} {nb : Bool} {w d sc : Int} {sg : Bool} {dr f : Int} {cr : Bool} {fl fm : Int} {own own2 : Bool} {r : List Value} (hr : plainL r = true)
  (ha : m a = some ⟨fmL s nb w d sc sg x k cap dr f cr fl fm, 156, own⟩) (hx : m x = some ⟨r, 251, own2⟩) :
  SubM m (rho2 a x) (vwF2 (fmL s nb w d sc sg 1 k cap dr f cr fl fm) r) 2 := by
 have hget : ∀ j b, vwF2 (fmL s nb w d sc sg 1 k cap dr f cr fl fm) r j = some b → (j = 0 ∧ b = ⟨fmL s nb w d sc sg 1 k cap dr f cr fl fm, 156, false⟩) ∨ (j = 1 ∧ b = ⟨r, 251, false⟩) := fun j b h => by
  simp only [vwF2] at h
  split at h
  ·rename_i h0; cases h; exact .inl ⟨Nat.eq_of_beq_eq_true h0, rfl⟩
  ·split at h
   ·rename_i h0; cases h; exact .inr ⟨Nat.eq_of_beq_eq_true h0, rfl⟩
   ·cases h
 refine ⟨fun j b h => ?_, fun j b h => ?_⟩
 ·rcases hget j b h with ⟨rfl, rfl⟩ | ⟨rfl, rfl⟩
  ·refine ⟨by omega, fun i hi => ?_⟩
   have : i = 1 := by simpa [fmL, idsL, ids] using hi
   omega
  ·exact ⟨by omega, fun i hi => by rw [ids_plainL hr] at hi; cases hi⟩
 ·rcases hget j b h with ⟨rfl, rfl⟩ | ⟨rfl, rfl⟩
  ·refine ⟨rfl, ⟨fmL s nb w d sc sg x k cap dr f cr fl fm, 156, own⟩, ?_, fun ι => ?_⟩
   ·show noIt (m a) = _
    rw [ha]
    simp only [noIt]
    have : (own && Nat.beq 156 itTy) = false := by cases own <;> rfl
    rw [this]
   ·simp [fmL, ren, ren1, rho2]
  ·refine ⟨rfl, ⟨r, 251, own2⟩, ?_, fun ι => renMap_congr fun k hk => by rw [ids_plainL hr] at hk; cases hk⟩
   show noIt (m x) = _
   rw [hx]
   simp only [noIt]
   have : (own2 && Nat.beq 251 itTy) = false := by cases own2 <;> rfl
   rw [this]
theorem all48 {l : List Int} (h : dgL l = true) : (∀ c ∈ l, hasZ [48] c = true) ↔ dval l = 0 := by
 rw [← strip_nil h, dropW_nil]
 constructor
 ·intro q c hc
  have := q c hc
  rw [hasZ_iff] at this
  simpa using this
 ·intro q c hc
  rw [hasZ_iff]
  simpa using q c hc
theorem toList_nil (s : ByteArray) : (s.toList == ByteArray.toList (ByteArray.mk #[])) = (bz s).isEmpty := by
 rw [toList_beq]
 have : bz ⟨#[]⟩ = [] := rfl
 rw [this]
 cases bz s <;> rfl
theorem trim_isB {l cs : List Int} (h : IsB l) : IsB (trimZ l cs) := by
 intro c hc
 refine h c ?_
 unfold trimZ at hc
 have := List.dropWhile_sublist _ |>.subset hc
 have : c ∈ l.reverse.dropWhile (hasZ cs) := by simpa using this
 simpa using List.dropWhile_sublist _ |>.subset this
def G32 : Env := Env.nil.add 55 (sp2 s89)
theorem ok_G32 : EnvOK Tryz.prog G32 := env_add env_nil ok89
def enOn : List Int → Bool
 | [] => false
 | r :: rs => bif r == 0 || r == 1 then r == 1 else enOn rs
def enGo (ze : Bool) (fm : Int) : List Int → List Int → Int → Int
 | [], _, _ => -1
 | r :: rs, ds, at_ => bif r == 0 then at_ else bif r == 1 then (bif ds.headD 0 != 48 then at_ else enGo ze fm rs ds.tail (at_ + 1))
  else bif r == 2 then (bif decide (fm > 0) || !ze then at_ else enGo ze fm rs ds at_) else enGo ze fm rs ds (at_ + 1)
def cn1 : List Int → Int
 | [] => 0
 | r :: rs => (bif r == 1 then 1 else 0) + cn1 rs
theorem cn1_nn : ∀ l, 0 ≤ cn1 l
 | [] => by simp [cn1]
 | r :: rs => by have := cn1_nn rs; rw [cn1]; cases r == 1 <;> simp <;> omega
def V90_0 : Int × Int × Int × Bool × Bool × Nat × Nat × Int × Int × ByteArray × Bool × Int × Int × Int × Bool × Nat × Nat × Int × Int × Bool × Int × Int × ByteArray × Bool × Int × Int × Int × List Value → List Value := fun (r2, r3, r4, ze, on, k2, cap2, L, i, s, nb, w, dg, sc, sg, k, cap, dr, f, cr, fl, fm, nu, mi, us, at0, ld, d) => [.pointer (some ⟨0, 0, some 0⟩), I r2, I r3, I r4, B ze, B on, .slice (some ⟨2, 0, some 1⟩) k2 cap2, I L, I i]
def B90_0 : Int × Int × Int × Bool × Bool × Nat × Nat × Int × Int × ByteArray × Bool × Int × Int × Int × Bool × Nat × Nat × Int × Int × Bool × Int × Int × ByteArray × Bool × Int × Int × Int × List Value → List (Option Blk) := fun (r2, r3, r4, ze, on, k2, cap2, L, i, s, nb, w, dg, sc, sg, k, cap, dr, f, cr, fl, fm, nu, mi, us, at0, ld, d) => [some ⟨[.pointer (some ⟨1, 0, some 0⟩), .string nu, .bool mi, .int .i64 us, .int .i64 at0, .int .i64 ld], 255, false⟩, some ⟨[.string s, .bool nb, .int .i64 w, .int .i64 dg, .int .i64 sc, .bool sg, .slice (some ⟨2, 0, some 1⟩) k cap, .int .u8 dr, .int .i64 f, .bool cr, .int .u8 fl, .int .i64 fm], 156, false⟩, some ⟨d, 251, false⟩]
def S90_0 : LSpecA (Int × Int × Int × Bool × Bool × Nat × Nat × Int × Int × ByteArray × Bool × Int × Int × Int × Bool × Nat × Nat × Int × Int × Bool × Int × Int × ByteArray × Bool × Int × Int × Int × List Value) where
 live := [0, 2, 3, 4, 5, 6, 23, 24, 25]
 mid := [0, 1, 2]
 n := 100
 ap := []
 dec vs bs := match vs, bs with | [.pointer (some ⟨0, 0, some 0⟩), .int .i64 r2, .int .i64 r3, .int .i64 r4, .bool ze, .bool on, .slice (some ⟨2, 0, some 1⟩) k2 cap2, .int .i64 L, .int .i64 i], [some ⟨[.pointer (some ⟨1, 0, some 0⟩), .string nu, .bool mi, .int .i64 us, .int .i64 at0, .int .i64 ld], 255, false⟩, some ⟨[.string s, .bool nb, .int .i64 w, .int .i64 dg, .int .i64 sc, .bool sg, .slice (some ⟨2, 0, some 1⟩) k cap, .int .u8 dr, .int .i64 f, .bool cr, .int .u8 fl, .int .i64 fm], 156, false⟩, some ⟨d, 251, false⟩] => some (r2, r3, r4, ze, on, k2, cap2, L, i, s, nb, w, dg, sc, sg, k, cap, dr, f, cr, fl, fm, nu, mi, us, at0, ld, d) | _, _ => none
 pre := fun (r2, r3, r4, ze, on, k2, cap2, L, i, s, nb, w, dg, sc, sg, k, cap, dr, f, cr, fl, fm, nu, mi, us, at0, ld, d) => rowIOK d k2 cap2 && decide (0 ≤ i ∧ i ≤ k2 ∧ k2 ≤ 1000 ∧ L = k2 ∧ on = false)
 fin := fun (r2, r3, r4, ze, on, k2, cap2, L, i, s, nb, w, dg, sc, sg, k, cap, dr, f, cr, fl, fm, nu, mi, us, at0, ld, d) Z => ∀ i', Z (.exit 0) [.pointer (some ⟨0, 0, some 0⟩), I r2, I r3, I r4, B ze, B (enOn ((zc d k2).drop i.toNat)), .slice (some ⟨2, 0, some 1⟩) k2 cap2, I L, I i'] [some ⟨[.pointer (some ⟨1, 0, some 0⟩), .string nu, .bool mi, .int .i64 us, .int .i64 at0, .int .i64 ld], 255, false⟩, some ⟨[.string s, .bool nb, .int .i64 w, .int .i64 dg, .int .i64 sc, .bool sg, .slice (some ⟨2, 0, some 1⟩) k cap, .int .u8 dr, .int .i64 f, .bool cr, .int .u8 fl, .int .i64 fm], 156, false⟩, some ⟨d, 251, false⟩]
theorem r90_0 (r2 : Int) (r3 : Int) (r4 : Int) (ze : Bool) (on : Bool) (k2 : Nat) (cap2 : Nat) (L : Int) (i : Int) (s : ByteArray) (nb : Bool) (w : Int) (dg : Int) (sc : Int) (sg : Bool) (k : Nat) (cap : Nat) (dr : Int) (f : Int) (cr : Bool) (fl : Int) (fm : Int) (nu : ByteArray) (mi : Bool) (us : Int) (at0 : Int) (ld : Int) (d : List Value) (jk : Tmps) (R : Exit → List Value → List (Option Blk) → Prop) : (codeQ Tryz.prog G32 noL Tryz.f251.ntmps (loopOf Tryz.f251 0) (tl S90_0.live (V90_0 (r2, r3, r4, ze, on, k2, cap2, L, i, s, nb, w, dg, sc, sg, k, cap, dr, f, cr, fl, fm, nu, mi, us, at0, ld, d)) jk) (ml S90_0.mid (B90_0 (r2, r3, r4, ze, on, k2, cap2, L, i, s, nb, w, dg, sc, sg, k, cap, dr, f, cr, fl, fm, nu, mi, us, at0, ld, d))) S90_0.n fun e t' m' _ => S90_0.out R e t' m') = ( bif decide (i < L) then bif decide (0 ≤ i ∧ i < (↑k2 : Int)) then bif isIntAt IntKind.i64 d (0 + Int.toNat i * 1) then bif intAt d (0 + Int.toNat i * 1) == 0 || true then bif intAt d (0 + Int.toNat i * 1) == 0 || intAt d (0 + Int.toNat i * 1) == 1 then bif goodL [] d && true && true then R (Exit.exit 0) [.pointer (some (.mk 0 0 (some 0))), I r2, I r3, I r4, B ze, B (intAt d (0 + Int.toNat i * 1) == 1), .slice (some (.mk 2 0 (some 1))) k2 cap2, I L, I i] [some (.mk [.pointer (some (.mk 1 0 (some 0))), S nu, B mi, I us, I at0, I ld] 255 false), some (.mk [S s, B nb, I w, I dg, I sc, B sg, .slice (some (.mk 2 0 (some 1))) k cap, .int .u8 dr, I f, B cr, .int .u8 fl, I fm] 156 false), some (.mk (rlbL [] d) 251 false)] else False else bif goodL [] d && true && true then R Exit.normal [.pointer (some (.mk 0 0 (some 0))), I r2, I r3, I r4, B ze, B on, .slice (some (.mk 2 0 (some 1))) k2 cap2, I L, I (IntKind.wrap .i64 (i + 1))] [some (.mk [.pointer (some (.mk 1 0 (some 0))), S nu, B mi, I us, I at0, I ld] 255 false), some (.mk [S s, B nb, I w, I dg, I sc, B sg, .slice (some (.mk 2 0 (some 1))) k cap, .int .u8 dr, I f, B cr, .int .u8 fl, I fm] 156 false), some (.mk (rlbL [] d) 251 false)] else False else False else False else False else bif goodL [] d && true && true then R (Exit.exit 0) [.pointer (some (.mk 0 0 (some 0))), I r2, I r3, I r4, B ze, B on, .slice (some (.mk 2 0 (some 1))) k2 cap2, I L, I i] [some (.mk [.pointer (some (.mk 1 0 (some 0))), S nu, B mi, I us, I at0, I ld] 255 false), some (.mk [S s, B nb, I w, I dg, I sc, B sg, .slice (some (.mk 2 0 (some 1))) k cap, .int .u8 dr, I f, B cr, .int .u8 fl, I fm] 156 false), some (.mk (rlbL [] d) 251 false)] else False) := by kernel_rfl
theorem l90_0 : ∀ t m n K, S90_0.hA t m n K → Ab.Sem Tryz.prog Tryz.f251.ntmps (.loop (loopOf Tryz.f251 0)) t m n K := by
 refine loop_specA ok_G32 hmix (by kernel_rfl) (lok_none _) S90_0 V90_0 B90_0 (fun (r2, r3, r4, ze, on, k2, cap2, L, i, s, nb, w, dg, sc, sg, k, cap, dr, f, cr, fl, fm, nu, mi, us, at0, ld, d) => (k2 - i).toNat) ?_ ?_ ?_
 ·intro vs bs s h
  simp only [S90_0] at h
  split at h
  all_goals first | (cases h; exact ⟨rfl, rfl⟩) | cases h | (split at h <;> first | (rename_i hq; cases h; have hq := Nat.eq_of_beq_eq_true hq; subst hq; exact ⟨rfl, rfl⟩) | cases h)
 ·exact fun ⟨r2, r3, r4, ze, on, k2, cap2, L, i, s, nb, w, dg, sc, sg, k, cap, dr, f, cr, fl, fm, nu, mi, us, at0, ld, d⟩ hp => by
   simp only [S90_0, Bool.and_eq_true] at hp
   have hr := rowIOK_iff.1 hp.1
   simp [V90_0, B90_0, S90_0, idsLt, idsLtB, idsL, ids, ids_plainL hr.plain]
 ·intro ⟨r2, r3, r4, ze, on, k2, cap2, L, i, s, nb, w, dg, sc, sg, k, cap, dr, f, cr, fl, fm, nu, mi, us, at0, ld, d⟩ jk Z hp hf
  rw [r90_0]
  simp only [S90_0] at hp hf
  simp only [Bool.and_eq_true, decide_eq_true_eq] at hp
  obtain ⟨hR, hp⟩ := hp
  have hr := rowIOK_iff.1 hR
  have hzl := zi_length hr
  have e0 : 0 + i.toNat * 1 = i.toNat := by omega
  rw [e0]
  simp only [hr.rlb]
  have hg : (goodL [] d && true && true) = true := by rw [hr.good]; rfl
  refine cond_intro (fun h => ?_) (fun h => ?_)
  ·have h := of_decide_eq_true h
   obtain ⟨a1, a3⟩ := hr.at hp.1 (by omega)
   rw [a3, enOn] at hf
   rw [a1, w64 (n := i + 1) (by omega)]
   generalize intAt d i.toNat = c at *
   refine c_t (decide_eq_true (by omega)) (c_t rfl (c_t (by simp) (cond_intro (fun z => c_t hg ?_) (fun z => c_t hg ?_))))
   ·rw [z, cond_true] at hf
    exact hf i
   ·rw [z, cond_false] at hf
    exact ⟨(r2, r3, r4, ze, on, k2, cap2, L, i + 1, s, nb, w, dg, sc, sg, k, cap, dr, f, cr, fl, fm, nu, mi, us, at0, ld, d), rfl, rfl, by simp only [S90_0, Bool.and_eq_true, decide_eq_true_eq]; exact ⟨hR, by omega, by omega, by omega, by omega, hp.2.2.2.2⟩, by simp only; omega, hf⟩
  ·have h := of_decide_eq_false h
   rw [hr.end (by omega), enOn] at hf
   rw [hp.2.2.2.2]
   exact c_t hg (hf i)
def V90_2 : Int × Int × Int × Bool × Nat × Nat × Int × Int × ByteArray × Bool × Int × Int × Int × Bool × Nat × Nat × Int × Int × Bool × Int × Int × ByteArray × Bool × Int × Int × Int × List Value → List Value := fun (r2, aa, kk, ze, k2, cap2, L, i, s, nb, w, dg, sc, sg, k, cap, dr, f, cr, fl, fm, nu, mi, us, at0, ld, d) => [.pointer (some ⟨0, 0, some 0⟩), I r2, I aa, I kk, B ze, .slice (some ⟨2, 0, some 1⟩) k2 cap2, I L, I i]
def B90_2 : Int × Int × Int × Bool × Nat × Nat × Int × Int × ByteArray × Bool × Int × Int × Int × Bool × Nat × Nat × Int × Int × Bool × Int × Int × ByteArray × Bool × Int × Int × Int × List Value → List (Option Blk) := fun (r2, aa, kk, ze, k2, cap2, L, i, s, nb, w, dg, sc, sg, k, cap, dr, f, cr, fl, fm, nu, mi, us, at0, ld, d) => [some ⟨[.pointer (some ⟨1, 0, some 0⟩), .string nu, .bool mi, .int .i64 us, .int .i64 at0, .int .i64 ld], 255, false⟩, some ⟨[.string s, .bool nb, .int .i64 w, .int .i64 dg, .int .i64 sc, .bool sg, .slice (some ⟨2, 0, some 1⟩) k cap, .int .u8 dr, .int .i64 f, .bool cr, .int .u8 fl, .int .i64 fm], 156, false⟩, some ⟨d, 251, false⟩]
def S90_2 : LSpecA (Int × Int × Int × Bool × Nat × Nat × Int × Int × ByteArray × Bool × Int × Int × Int × Bool × Nat × Nat × Int × Int × Bool × Int × Int × ByteArray × Bool × Int × Int × Int × List Value) where
 live := [0, 2, 3, 4, 5, 46, 47, 48]
 mid := [0, 1, 2]
 n := 140
 ap := []
 dec vs bs := match vs, bs with | [.pointer (some ⟨0, 0, some 0⟩), .int .i64 r2, .int .i64 aa, .int .i64 kk, .bool ze, .slice (some ⟨2, 0, some 1⟩) k2 cap2, .int .i64 L, .int .i64 i], [some ⟨[.pointer (some ⟨1, 0, some 0⟩), .string nu, .bool mi, .int .i64 us, .int .i64 at0, .int .i64 ld], 255, false⟩, some ⟨[.string s, .bool nb, .int .i64 w, .int .i64 dg, .int .i64 sc, .bool sg, .slice (some ⟨2, 0, some 1⟩) k cap, .int .u8 dr, .int .i64 f, .bool cr, .int .u8 fl, .int .i64 fm], 156, false⟩, some ⟨d, 251, false⟩] => some (r2, aa, kk, ze, k2, cap2, L, i, s, nb, w, dg, sc, sg, k, cap, dr, f, cr, fl, fm, nu, mi, us, at0, ld, d) | _, _ => none
 pre := fun (r2, aa, kk, ze, k2, cap2, L, i, s, nb, w, dg, sc, sg, k, cap, dr, f, cr, fl, fm, nu, mi, us, at0, ld, d) => rowIOK d k2 cap2 && decide (0 ≤ i ∧ i ≤ k2 ∧ k2 ≤ 1000 ∧ L = k2 ∧ 0 ≤ kk ∧ kk ≤ i ∧ 0 ≤ aa ∧ aa ≤ i ∧ kk + cn1 ((zc d k2).drop i.toNat) ≤ nu.size)
 fin := fun (r2, aa, kk, ze, k2, cap2, L, i, s, nb, w, dg, sc, sg, k, cap, dr, f, cr, fl, fm, nu, mi, us, at0, ld, d) Z => (∀ a' k' i', enGo ze fm ((zc d k2).drop i.toNat) ((bz nu).drop kk.toNat) aa = a' → 0 ≤ a' → Z .ret [.pointer (some ⟨0, 0, some 0⟩), I a', I a', I k', B ze, .slice (some ⟨2, 0, some 1⟩) k2 cap2, I L, I i'] [some ⟨[.pointer (some ⟨1, 0, some 0⟩), .string nu, .bool mi, .int .i64 us, .int .i64 at0, .int .i64 ld], 255, false⟩, some ⟨[.string s, .bool nb, .int .i64 w, .int .i64 dg, .int .i64 sc, .bool sg, .slice (some ⟨2, 0, some 1⟩) k cap, .int .u8 dr, .int .i64 f, .bool cr, .int .u8 fl, .int .i64 fm], 156, false⟩, some ⟨d, 251, false⟩]) ∧ (enGo ze fm ((zc d k2).drop i.toNat) ((bz nu).drop kk.toNat) aa = -1 → ∀ a' k' i', Z (.exit 2) [.pointer (some ⟨0, 0, some 0⟩), I r2, I a', I k', B ze, .slice (some ⟨2, 0, some 1⟩) k2 cap2, I L, I i'] [some ⟨[.pointer (some ⟨1, 0, some 0⟩), .string nu, .bool mi, .int .i64 us, .int .i64 at0, .int .i64 ld], 255, false⟩, some ⟨[.string s, .bool nb, .int .i64 w, .int .i64 dg, .int .i64 sc, .bool sg, .slice (some ⟨2, 0, some 1⟩) k cap, .int .u8 dr, .int .i64 f, .bool cr, .int .u8 fl, .int .i64 fm], 156, false⟩, some ⟨d, 251, false⟩])
theorem r90_2 (r2 : Int) (aa : Int) (kk : Int) (ze : Bool) (k2 : Nat) (cap2 : Nat) (L : Int) (i : Int) (s : ByteArray) (nb : Bool) (w : Int) (dg : Int) (sc : Int) (sg : Bool) (k : Nat) (cap : Nat) (dr : Int) (f : Int) (cr : Bool) (fl : Int) (fm : Int) (nu : ByteArray) (mi : Bool) (us : Int) (at0 : Int) (ld : Int) (d : List Value) (jk : Tmps) (R : Exit → List Value → List (Option Blk) → Prop) : (codeQ Tryz.prog G32 noL Tryz.f251.ntmps (loopOf Tryz.f251 2) (tl S90_2.live (V90_2 (r2, aa, kk, ze, k2, cap2, L, i, s, nb, w, dg, sc, sg, k, cap, dr, f, cr, fl, fm, nu, mi, us, at0, ld, d)) jk) (ml S90_2.mid (B90_2 (r2, aa, kk, ze, k2, cap2, L, i, s, nb, w, dg, sc, sg, k, cap, dr, f, cr, fl, fm, nu, mi, us, at0, ld, d))) S90_2.n fun e t' m' _ => S90_2.out R e t' m') = ( bif decide (i < L) then bif decide (0 ≤ i ∧ i < (↑k2 : Int)) then bif isIntAt IntKind.i64 d (0 + Int.toNat i * 1) then bif intAt d (0 + Int.toNat i * 1) == 0 then bif goodL [] d && true && true then R Exit.ret [.pointer (some (.mk 0 0 (some 0))), I aa, I aa, I kk, B ze, .slice (some (.mk 2 0 (some 1))) k2 cap2, I L, I i] [some (.mk [.pointer (some (.mk 1 0 (some 0))), S nu, B mi, I us, I at0, I ld] 255 false), some (.mk [S s, B nb, I w, I dg, I sc, B sg, .slice (some (.mk 2 0 (some 1))) k cap, .int .u8 dr, I f, B cr, .int .u8 fl, I fm] 156 false), some (.mk (rlbL [] d) 251 false)] else False else bif intAt d (0 + Int.toNat i * 1) == 1 then bif decide (0 ≤ kk ∧ kk < (↑(ByteArray.size nu) : Int)) then bif byteAt nu (Int.toNat kk) != 48 then bif goodL [] d && true && true then R Exit.ret [.pointer (some (.mk 0 0 (some 0))), I aa, I aa, I kk, B ze, .slice (some (.mk 2 0 (some 1))) k2 cap2, I L, I i] [some (.mk [.pointer (some (.mk 1 0 (some 0))), S nu, B mi, I us, I at0, I ld] 255 false), some (.mk [S s, B nb, I w, I dg, I sc, B sg, .slice (some (.mk 2 0 (some 1))) k cap, .int .u8 dr, I f, B cr, .int .u8 fl, I fm] 156 false), some (.mk (rlbL [] d) 251 false)] else False else bif goodL [] d && true && true then R Exit.normal [.pointer (some (.mk 0 0 (some 0))), I r2, I (IntKind.wrap .i64 (aa + 1)), I (IntKind.wrap .i64 (kk + 1)), B ze, .slice (some (.mk 2 0 (some 1))) k2 cap2, I L, I (IntKind.wrap .i64 (i + 1))] [some (.mk [.pointer (some (.mk 1 0 (some 0))), S nu, B mi, I us, I at0, I ld] 255 false), some (.mk [S s, B nb, I w, I dg, I sc, B sg, .slice (some (.mk 2 0 (some 1))) k cap, .int .u8 dr, I f, B cr, .int .u8 fl, I fm] 156 false), some (.mk (rlbL [] d) 251 false)] else False else False else bif intAt d (0 + Int.toNat i * 1) == 2 then bif decide (fm > 0) || true then bif decide (fm > 0) || !ze then bif goodL [] d && true && true then R Exit.ret [.pointer (some (.mk 0 0 (some 0))), I aa, I aa, I kk, B ze, .slice (some (.mk 2 0 (some 1))) k2 cap2, I L, I i] [some (.mk [.pointer (some (.mk 1 0 (some 0))), S nu, B mi, I us, I at0, I ld] 255 false), some (.mk [S s, B nb, I w, I dg, I sc, B sg, .slice (some (.mk 2 0 (some 1))) k cap, .int .u8 dr, I f, B cr, .int .u8 fl, I fm] 156 false), some (.mk (rlbL [] d) 251 false)] else False else bif goodL [] d && true && true then R Exit.normal [.pointer (some (.mk 0 0 (some 0))), I r2, I aa, I kk, B ze, .slice (some (.mk 2 0 (some 1))) k2 cap2, I L, I (IntKind.wrap .i64 (i + 1))] [some (.mk [.pointer (some (.mk 1 0 (some 0))), S nu, B mi, I us, I at0, I ld] 255 false), some (.mk [S s, B nb, I w, I dg, I sc, B sg, .slice (some (.mk 2 0 (some 1))) k cap, .int .u8 dr, I f, B cr, .int .u8 fl, I fm] 156 false), some (.mk (rlbL [] d) 251 false)] else False else False else bif goodL [] d && true && true then R Exit.normal [.pointer (some (.mk 0 0 (some 0))), I r2, I (IntKind.wrap .i64 (aa + 1)), I kk, B ze, .slice (some (.mk 2 0 (some 1))) k2 cap2, I L, I (IntKind.wrap .i64 (i + 1))] [some (.mk [.pointer (some (.mk 1 0 (some 0))), S nu, B mi, I us, I at0, I ld] 255 false), some (.mk [S s, B nb, I w, I dg, I sc, B sg, .slice (some (.mk 2 0 (some 1))) k cap, .int .u8 dr, I f, B cr, .int .u8 fl, I fm] 156 false), some (.mk (rlbL [] d) 251 false)] else False else False else False else bif goodL [] d && true && true then R (Exit.exit 2) [.pointer (some (.mk 0 0 (some 0))), I r2, I aa, I kk, B ze, .slice (some (.mk 2 0 (some 1))) k2 cap2, I L, I i] [some (.mk [.pointer (some (.mk 1 0 (some 0))), S nu, B mi, I us, I at0, I ld] 255 false), some (.mk [S s, B nb, I w, I dg, I sc, B sg, .slice (some (.mk 2 0 (some 1))) k cap, .int .u8 dr, I f, B cr, .int .u8 fl, I fm] 156 false), some (.mk (rlbL [] d) 251 false)] else False) := by kernel_rfl
theorem l90_2 : ∀ t m n K, S90_2.hA t m n K → Ab.Sem Tryz.prog Tryz.f251.ntmps (.loop (loopOf Tryz.f251 2)) t m n K := by
 refine loop_specA ok_G32 hmix (by kernel_rfl) (lok_none _) S90_2 V90_2 B90_2 (fun (r2, aa, kk, ze, k2, cap2, L, i, s, nb, w, dg, sc, sg, k, cap, dr, f, cr, fl, fm, nu, mi, us, at0, ld, d) => (k2 - i).toNat) ?_ ?_ ?_
 ·intro vs bs s h
  simp only [S90_2] at h
  split at h
  all_goals first | (cases h; exact ⟨rfl, rfl⟩) | cases h | (split at h <;> first | (rename_i hq; cases h; have hq := Nat.eq_of_beq_eq_true hq; subst hq; exact ⟨rfl, rfl⟩) | cases h)
 ·exact fun ⟨r2, aa, kk, ze, k2, cap2, L, i, s, nb, w, dg, sc, sg, k, cap, dr, f, cr, fl, fm, nu, mi, us, at0, ld, d⟩ hp => by
   simp only [S90_2, Bool.and_eq_true] at hp
   have hr := rowIOK_iff.1 hp.1
   simp [V90_2, B90_2, S90_2, idsLt, idsLtB, idsL, ids, ids_plainL hr.plain]
 ·intro ⟨r2, aa, kk, ze, k2, cap2, L, i, s, nb, w, dg, sc, sg, k, cap, dr, f, cr, fl, fm, nu, mi, us, at0, ld, d⟩ jk Z hp hf
  rw [r90_2]
  simp only [S90_2] at hp hf
  simp only [Bool.and_eq_true, decide_eq_true_eq] at hp
  obtain ⟨hR, hp⟩ := hp
  have hr := rowIOK_iff.1 hR
  have hzl := zi_length hr
  have e0 : 0 + i.toNat * 1 = i.toNat := by omega
  rw [e0]
  simp only [hr.rlb]
  have hg : (goodL [] d && true && true) = true := by rw [hr.good]; rfl
  refine cond_intro (fun h => ?_) (fun h => ?_)
  ·have h := of_decide_eq_true h
   obtain ⟨a1, a3⟩ := hr.at hp.1 (by omega)
   rw [a3] at hp hf
   rw [enGo] at hf
   rw [cn1] at hp
   rw [a1, w64 (n := i + 1) (by omega)]
   have hc := cn1_nn ((zc d k2).drop (i + 1).toNat)
   generalize intAt d i.toNat = c at *
   refine c_t (decide_eq_true (by omega)) (c_t rfl (cond_intro (fun z => c_t hg ?_) (fun z => ?_)))
   ·rw [z, cond_true] at hf
    exact hf.1 aa kk i rfl (by omega)
   ·rw [z, cond_false] at hf
    refine cond_intro (fun z => ?_) (fun z => ?_)
    ·rw [z, cond_true] at hf hp
     obtain ⟨hp1, hp2, hp3, hp4, hp5, hp6, hp7, hp8⟩ := hp
     rw [bz_at hp5 (by omega), List.headD_cons, List.tail_cons] at hf
     refine c_t (decide_eq_true (by omega)) (cond_intro (fun z => c_t hg ?_) (fun z => c_t hg ?_))
     ·rw [z, cond_true] at hf
      exact hf.1 aa kk i rfl (by omega)
     ·rw [z, cond_false] at hf
      rw [w64 (n := aa + 1) (by omega), w64 (n := kk + 1) (by omega)]
      exact ⟨(r2, aa + 1, kk + 1, ze, k2, cap2, L, i + 1, s, nb, w, dg, sc, sg, k, cap, dr, f, cr, fl, fm, nu, mi, us, at0, ld, d), rfl, rfl, by simp only [S90_2, Bool.and_eq_true, decide_eq_true_eq]; exact ⟨hR, by omega⟩, by simp only; omega, hf⟩
    ·rw [z, cond_false] at hf hp
     refine cond_intro (fun z => c_t (by simp) (cond_intro (fun z2 => c_t hg ?_) (fun z2 => c_t hg ?_))) (fun z => c_t hg ?_)
     ·rw [z, cond_true, z2, cond_true] at hf
      exact hf.1 aa kk i rfl (by omega)
     ·rw [z, cond_true, z2, cond_false] at hf
      exact ⟨(r2, aa, kk, ze, k2, cap2, L, i + 1, s, nb, w, dg, sc, sg, k, cap, dr, f, cr, fl, fm, nu, mi, us, at0, ld, d), rfl, rfl, by simp only [S90_2, Bool.and_eq_true, decide_eq_true_eq]; exact ⟨hR, by omega⟩, by simp only; omega, hf⟩
     ·rw [z, cond_false] at hf
      rw [w64 (n := aa + 1) (by omega)]
      exact ⟨(r2, aa + 1, kk, ze, k2, cap2, L, i + 1, s, nb, w, dg, sc, sg, k, cap, dr, f, cr, fl, fm, nu, mi, us, at0, ld, d), rfl, rfl, by simp only [S90_2, Bool.and_eq_true, decide_eq_true_eq]; exact ⟨hR, by omega⟩, by simp only; omega, hf⟩
  ·have h := of_decide_eq_false h
   rw [hr.end (by omega), enGo] at hf
   exact c_t hg (hf.2 rfl aa kk i)
def pnL (x : Nat) (nu : ByteArray) (mi : Bool) (us at0 ld : Int) : List Value := [.pointer (some ⟨x, 0, some 0⟩), .string nu, .bool mi, .int .i64 us, .int .i64 at0, .int .i64 ld]
def vwF3 (p c d : List Value) : Lk := fun j => match Nat.beq j 0 with | true => some ⟨p, 255, false⟩ | false => match Nat.beq j 1 with | true => some ⟨c, 156, false⟩ | false => match Nat.beq j 2 with | true => some ⟨d, 251, false⟩ | false => none
def rho3 (a x y : Nat) : Nat → Nat := fun j => match j with | 0 => a | 1 => x | _ => y
theorem sub_F3 {m : Lk} {a x y k cap : Nat} {nu : ByteArray} {mi : Bool} {us at0 ld : Int} {s : ByteArray} {nb : Bool} {w d sc : Int} {sg : Bool} {dr f : Int} {cr : Bool} {fl fm : Int} {own own2 own3 : Bool} {r : List Value} (hr : plainL r = true)
  (hp : m a = some ⟨pnL x nu mi us at0 ld, 255, own⟩) (ha : m x = some ⟨fmL s nb w d sc sg y k cap dr f cr fl fm, 156, own2⟩) (hx : m y = some ⟨r, 251, own3⟩) :
  SubM m (rho3 a x y) (vwF3 (pnL 1 nu mi us at0 ld) (fmL s nb w d sc sg 2 k cap dr f cr fl fm) r) 3 := by
 have hget : ∀ j b, vwF3 (pnL 1 nu mi us at0 ld) (fmL s nb w d sc sg 2 k cap dr f cr fl fm) r j = some b → (j = 0 ∧ b = ⟨pnL 1 nu mi us at0 ld, 255, false⟩) ∨ (j = 1 ∧ b = ⟨fmL s nb w d sc sg 2 k cap dr f cr fl fm, 156, false⟩) ∨ (j = 2 ∧ b = ⟨r, 251, false⟩) := fun j b h => by
  simp only [vwF3] at h
  split at h
  ·rename_i h0; cases h; exact .inl ⟨Nat.eq_of_beq_eq_true h0, rfl⟩
  ·split at h
   ·rename_i h0; cases h; exact .inr (.inl ⟨Nat.eq_of_beq_eq_true h0, rfl⟩)
   ·split at h
    ·rename_i h0; cases h; exact .inr (.inr ⟨Nat.eq_of_beq_eq_true h0, rfl⟩)
    ·cases h
 refine ⟨fun j b h => ?_, fun j b h => ?_⟩
 ·rcases hget j b h with ⟨rfl, rfl⟩ | ⟨rfl, rfl⟩ | ⟨rfl, rfl⟩
  ·refine ⟨by omega, fun i hi => ?_⟩
   have : i = 1 := by simpa [pnL, idsL, ids] using hi
   omega
  ·refine ⟨by omega, fun i hi => ?_⟩
   have : i = 2 := by simpa [fmL, idsL, ids] using hi
   omega
  ·exact ⟨by omega, fun i hi => by rw [ids_plainL hr] at hi; cases hi⟩
 ·rcases hget j b h with ⟨rfl, rfl⟩ | ⟨rfl, rfl⟩ | ⟨rfl, rfl⟩
  ·refine ⟨rfl, ⟨pnL x nu mi us at0 ld, 255, own⟩, ?_, fun ι => ?_⟩
   ·show noIt (m a) = _
    rw [hp]
    simp only [noIt]
    have : (own && Nat.beq 255 itTy) = false := by cases own <;> rfl
    rw [this]
   ·simp [pnL, ren, ren1, rho3]
  ·refine ⟨rfl, ⟨fmL s nb w d sc sg y k cap dr f cr fl fm, 156, own2⟩, ?_, fun ι => ?_⟩
   ·show noIt (m x) = _
    rw [ha]
    simp only [noIt]
    have : (own2 && Nat.beq 156 itTy) = false := by cases own2 <;> rfl
    rw [this]
   ·simp [fmL, ren, ren1, rho3]
  ·refine ⟨rfl, ⟨r, 251, own3⟩, ?_, fun ι => renMap_congr fun k hk => by rw [ids_plainL hr] at hk; cases hk⟩
   show noIt (m y) = _
   rw [hx]
   simp only [noIt]
   have : (own3 && Nat.beq 251 itTy) = false := by cases own3 <;> rfl
   rw [this]
theorem fn90 : Fn1 Tryz.prog 251 Tryz.f251 := ⟨Tryz.func251, by kernel_rfl, by kernel_rfl, by kernel_rfl⟩
theorem lok90 : LOKf Tryz.prog (twoL 0 S90_0.hA 2 S90_2.hA) Tryz.f251 := lokf_two (by kernel_rfl) (by kernel_rfl) l90_0 l90_2
def enV (nu : List Int) (fm : Int) (ro : List Int) : Int := bif enOn ro then enGo (trimZ nu [48]).isEmpty fm ro nu 0 else 0
theorem v90 (s : ByteArray) (nb : Bool) (w : Int) (dg : Int) (sc : Int) (sg : Bool) (k : Nat) (cap : Nat) (dr : Int) (f : Int) (cr : Bool) (fl : Int) (fm : Int) (nu : ByteArray) (mi : Bool) (us : Int) (at0 : Int) (ld : Int) (d : List Value) (R : Value → Prop) : (bodyQ Tryz.prog G32 (twoL 0 S90_0.hA 2 S90_2.hA) Tryz.f251 [.pointer (some ⟨0, 0, some 0⟩)] (vwF3 (pnL 1 nu mi us at0 ld) (fmL s nb w dg sc sg 2 k cap dr f cr fl fm) d) 3 (fun v _ _ => R v)) = ( bif decide (ByteArray.size nu ≤ 1000) && (decide (ByteArray.size (ByteArray.mk #[48]) ≤ 1000) && asc (bz (ByteArray.mk #[48]))) then bif goodL [] d && true && true && (idsLt 100 (rlbL [] d) && true) then bif LSpec.pre (LSpecA.toLSpec S90_0) (0, 0, 0, ByteArray.toList (szO (trimZ (bz nu) (bz (ByteArray.mk #[48])))) == ByteArray.toList (ByteArray.mk #[]), false, k, cap, natO k, 0, s, nb, w, dg, sc, sg, k, cap, dr, f, cr, fl, fm, nu, mi, us, at0, ld, rlbL [] d) then ∀ (i' : Int), bif idsLt 100 (rlbL [] d) && true then ∀ (x : Tmps), bif !enOn (List.drop (Int.toNat 0) (zc (rlbL [] d) k)) then R (I 0) else bif goodL [] (rlbL [] d) && true && true && (idsLt 140 (rlbL [] (rlbL [] d)) && true) then bif LSpec.pre (LSpecA.toLSpec S90_2) (0, 0, 0, ByteArray.toList (szO (trimZ (bz nu) (bz (ByteArray.mk #[48])))) == ByteArray.toList (ByteArray.mk #[]), k, cap, natO k, 0, s, nb, w, dg, sc, sg, k, cap, dr, f, cr, fl, fm, nu, mi, us, at0, ld, rlbL [] (rlbL [] d)) then (∀ (a' k' i' : Int), enGo (ByteArray.toList (szO (trimZ (bz nu) (bz (ByteArray.mk #[48])))) == ByteArray.toList (ByteArray.mk #[])) fm (List.drop (Int.toNat 0) (zc (rlbL [] (rlbL [] d)) k)) (List.drop (Int.toNat 0) (bz nu)) 0 = a' → 0 ≤ a' → bif idsLt 140 (rlbL [] (rlbL [] d)) && true then ∀ (x : Tmps), R (I a') else False) ∧ (enGo (ByteArray.toList (szO (trimZ (bz nu) (bz (ByteArray.mk #[48])))) == ByteArray.toList (ByteArray.mk #[])) fm (List.drop (Int.toNat 0) (zc (rlbL [] (rlbL [] d)) k)) (List.drop (Int.toNat 0) (bz nu)) 0 = -1 → ∀ (a' k' i' : Int), bif idsLt 140 (rlbL [] (rlbL [] d)) && true then ∀ (x : Tmps), R (I (-1)) else False) else False else False else False else False else False else False) := by kernel_rfl
theorem w90 (s : ByteArray) (nb : Bool) (w : Int) (dg : Int) (sc : Int) (sg : Bool) (k : Nat) (cap : Nat) (dr : Int) (f : Int) (cr : Bool) (fl : Int) (fm : Int) (nu : ByteArray) (mi : Bool) (us : Int) (at0 : Int) (ld : Int) (d : List Value) (hR : rowIOK d k cap = true) (hk : k ≤ 1000) (hn : nu.size ≤ 1000) (hc : cn1 (zc d k) ≤ nu.size) {R : Value → Prop} (hr : R (.int .i64 (enV (bz nu) fm (zc d k)))) :
  DoesM Tryz.prog G32 (twoL 0 S90_0.hA 2 S90_2.hA) Tryz.f251 [.pointer (some ⟨0, 0, some 0⟩)] (vwF3 (pnL 1 nu mi us at0 ld) (fmL s nb w dg sc sg 2 k cap dr f cr fl fm) d) 3 (fun v _ _ => R v) := by
 rw [DoesM, v90]
 have h := rowIOK_iff.1 hR
 have k1 : bz ⟨#[48]⟩ = [48] := rfl
 have e1 : (ByteArray.toList (szO (trimZ (bz nu) (bz (ByteArray.mk #[48])))) == ByteArray.toList (ByteArray.mk #[])) = (trimZ (bz nu) [48]).isEmpty := by
  rw [szO_eq, toList_nil, bz_sz (trim_isB (bz_isB nu)), k1]
 have z0 : Int.toNat 0 = 0 := rfl
 simp only [h.rlb, e1, z0, List.drop_zero]
 have hg : ∀ n, (goodL [] d && true && true && (idsLt n d && true)) = true := fun n => by rw [h.good]; simp [idsLt, idsL, ids_plainL h.plain]
 have hi : ∀ n, (idsLt n d && true) = true := fun n => by simp [idsLt, idsL, ids_plainL h.plain]
 have c1 : (decide (ByteArray.size (ByteArray.mk #[48]) ≤ 1000) && asc (bz (ByteArray.mk #[48]))) = true := by kernel_rfl
 have c2 : (decide (nu.size ≤ 1000) && (decide (ByteArray.size (ByteArray.mk #[48]) ≤ 1000) && asc (bz (ByteArray.mk #[48])))) = true := by rw [c1, decide_eq_true hn]; rfl
 refine c_t c2 (c_t (hg _) (c_t ?_ fun i' => c_t (hi _) fun _ => cond_intro (fun ho => ?_) (fun ho => c_t (hg _) (c_t ?_ ⟨fun a' k' i' ha h0 => c_t (hi _) fun _ => ?_, fun ha a' k' i' => c_t (hi _) fun _ => ?_⟩))))
 ·simp only [S90_0, Bool.and_eq_true, decide_eq_true_eq, natO_eq]
  exact ⟨hR, by omega, by omega, by omega, trivial, trivial⟩
 ·rw [Bool.not_eq_true'] at ho
  rw [enV, ho] at hr
  exact hr
 ·simp only [S90_2, Bool.and_eq_true, decide_eq_true_eq, natO_eq, z0, List.drop_zero]
  exact ⟨hR, by omega, by omega, by omega, trivial, by omega, by omega, by omega, by omega, by omega⟩
 ·rw [Bool.not_eq_false'] at ho
  rw [enV, ho, cond_true, ha] at hr
  exact hr
 ·rw [Bool.not_eq_false'] at ho
  rw [enV, ho, cond_true, ha] at hr
  exact hr
def h90 : List Value → Lk → Nat → (Value → Lk → Nat → Prop) → Prop := fun args m n K => match args with
 | [.pointer (some ⟨a, 0, some 0⟩)] => match m a with
  | some ⟨[.pointer (some ⟨x, 0, some 0⟩), .string nu, .bool mi, .int .i64 us, .int .i64 at0, .int .i64 ld], 255, own⟩ => match m x with
   | some ⟨[.string s, .bool nb, .int .i64 w, .int .i64 dg, .int .i64 sc, .bool sg, .slice (some ⟨y, 0, some 1⟩) k cap, .int .u8 dr, .int .i64 f, .bool cr, .int .u8 fl, .int .i64 fm], 156, own2⟩ => match m y with
    | some ⟨d, 251, own3⟩ =>
     match cnd (rowIOK d k cap && decide (k ≤ 1000 ∧ nu.size ≤ 1000 ∧ cn1 (zc d k) ≤ nu.size)) with
     | true => K (.int .i64 (enV (bz nu) fm (zc d k))) m n
     | false => False
    | _ => False
   | _ => False
  | _ => False
 | _ => False
theorem h90_ok : GenOK Tryz.prog 251 h90 := by
 refine gen_sub ok_G32 hmix fn90 lok90 fun args m n K h => ?_
 unfold h90 at h
 split at h
 case h_2 => exact h.elim
 rename_i a
 split at h
 case h_2 => exact h.elim
 rename_i x nu mi us at0 ld own hm
 split at h
 case h_2 => exact h.elim
 rename_i s nb w dg sc sg y k cap dr f cr fl fm own2 hx
 split at h
 case h_2 => exact h.elim
 rename_i d own3 hy
 split at h
 case h_2 => exact h.elim
 rename_i hc
 simp only [cnd, Bool.and_eq_true, decide_eq_true_eq] at hc
 obtain ⟨h1, h2, h3, h4⟩ := hc
 refine ⟨[.pointer (some ⟨0, 0, some 0⟩)], _, 3, rho3 a x y, .int .i64 (enV (bz nu) fm (zc d k)), sub_F3 (rowIOK_iff.1 h1).plain hm hx hy, fun ι => by simp [ren, ren1, rho3], Nat.le_of_ble_eq_true (by kernel_rfl), fun v hv j hj => ?_, rfl, w90 s nb w dg sc sg k cap dr f cr fl fm nu mi us at0 ld d h1 h2 h3 h4 (R := fun v => v = .int .i64 (enV (bz nu) fm (zc d k))) rfl, h⟩
 simp at hv
 subst hv
 have : j = 0 := by simpa [ids] using hj
 omega
end Go.Px
end
noncomputable section
set_option maxHeartbeats 3200000
namespace Go.Px
open Go Go.Ab Go.Proofs Go.Shelf
def G33 : Env := Env.nil
def G34 : Env := (Env.nil.add 288 (sp2 s26)).addG 287 (inlQ Tryz.prog G33 noL Tryz.f287)
def G35 : Env := ((((((Env.nil.add 30 (sp2 s78)).addG 251 h90).addG 252 (inlQ Tryz.prog G34 noL Tryz.f252)).addG 253 (inlQ Tryz.prog G34 noL Tryz.f253)).addG 254 (inlQ Tryz.prog G34 noL Tryz.f254)).addG 255 (inlQ Tryz.prog G34 noL Tryz.f255)).addG 256 (inlQ Tryz.prog G34 noL Tryz.f256)
theorem fn123 : Fn1 Tryz.prog 287 Tryz.f287 := ⟨Tryz.func287, by kernel_rfl, by kernel_rfl, by kernel_rfl⟩
theorem fn91 : Fn1 Tryz.prog 252 Tryz.f252 := ⟨Tryz.func252, by kernel_rfl, by kernel_rfl, by kernel_rfl⟩
theorem fn92 : Fn1 Tryz.prog 253 Tryz.f253 := ⟨Tryz.func253, by kernel_rfl, by kernel_rfl, by kernel_rfl⟩
theorem fn93 : Fn1 Tryz.prog 254 Tryz.f254 := ⟨Tryz.func254, by kernel_rfl, by kernel_rfl, by kernel_rfl⟩
theorem fn94 : Fn1 Tryz.prog 255 Tryz.f255 := ⟨Tryz.func255, by kernel_rfl, by kernel_rfl, by kernel_rfl⟩
theorem fn95 : Fn1 Tryz.prog 256 Tryz.f256 := ⟨Tryz.func256, by kernel_rfl, by kernel_rfl, by kernel_rfl⟩
theorem fn64 : Fn1 Tryz.prog 207 Tryz.f207 := ⟨Tryz.func207, by kernel_rfl, by kernel_rfl, by kernel_rfl⟩
theorem ok_G33 : EnvOK Tryz.prog G33 := env_nil
theorem ok_G34 : EnvOK Tryz.prog G34 := env_addG (env_add env_nil ok26) (gen_inlQ ok_G33 hmix fn123 lokf_none)
theorem ok_G35 : EnvOK Tryz.prog G35 := env_addG (env_addG (env_addG (env_addG (env_addG (env_addG (env_add env_nil ok78) h90_ok) (gen_inlQ ok_G34 hmix fn91 lokf_none)) (gen_inlQ ok_G34 hmix fn92 lokf_none)) (gen_inlQ ok_G34 hmix fn93 lokf_none)) (gen_inlQ ok_G34 hmix fn94 lokf_none)) (gen_inlQ ok_G34 hmix fn95 lokf_none)
def wrC (f : Int) (cr : Bool) (n : Int) (mi : Bool) (ld fl : Int) (r c d i a : Int) : Int :=
 bif i == f then fl else bif cr && decide (i ≥ n - 2) then (bif !mi then 32 else c)
 else bif decide (r = 0) then fmZ c d mi else bif decide (r = 1) then (bif decide (a < ld) then fl else d)
 else bif decide (r = 3) then (bif c == 66 then 32 else bif decide (a < ld) then fl else c)
 else bif decide (r = 4) then (bif c == 83 && mi then 45 else bif c == 83 then 43 else bif (c == 43) == mi then 32 else c) else c
def wrT (f : Int) (cr : Bool) (n : Int) (r i : Int) : Bool := !(i == f) && (!(cr && decide (i ≥ n - 2)) && (decide (r = 0) || decide (r = 1)))
def wrGo (f : Int) (cr : Bool) (n : Int) (mi : Bool) (ld fl : Int) : List Int → List Int → List Int → Int → Int → List Int
 | [], _, _, _, _ => []
 | r :: rs, cs, ds, i, a => bif r == 2 then wrGo f cr n mi ld fl rs cs.tail ds (i + 1) a
  else wrC f cr n mi ld fl r (cs.headD 0) (ds.headD 0) i a :: wrGo f cr n mi ld fl rs cs.tail (bif wrT f cr n r i then ds.tail else ds) (i + 1) (a + 1)
def cdg : List Int → Int
 | [] => 0
 | r :: rs => (bif decide (r = 0) || decide (r = 1) then 1 else 0) + cdg rs
def roOK (l : List Int) : Bool := l.all fun r => decide (0 ≤ r ∧ r < 6)
def isHow : List Value → Bool
 | [.func (.func a) ⟨[]⟩ ⟨[]⟩, .func (.func b) ⟨[]⟩ ⟨[]⟩, .nilFunc, .func (.func c) ⟨[]⟩ ⟨[]⟩, .func (.func d) ⟨[]⟩ ⟨[]⟩, .func (.func e) ⟨[]⟩ ⟨[]⟩] => Nat.beq a 252 && (Nat.beq b 253 && (Nat.beq c 254 && (Nat.beq d 255 && Nat.beq e 256)))
 | _ => false
def how : List Value := [.func (.func 252) ⟨[]⟩ ⟨[]⟩, .func (.func 253) ⟨[]⟩ ⟨[]⟩, .nilFunc, .func (.func 254) ⟨[]⟩ ⟨[]⟩, .func (.func 255) ⟨[]⟩ ⟨[]⟩, .func (.func 256) ⟨[]⟩ ⟨[]⟩]
theorem isHow_eq {l : List Value} (h : isHow l = true) : l = how := by
 unfold isHow at h
 split at h
 ·simp only [Bool.and_eq_true, Nat.beq_eq] at h
  obtain ⟨rfl, rfl, rfl, rfl, rfl⟩ := h
  rfl
 ·cases h
theorem cdg_nn : ∀ l, 0 ≤ cdg l
 | [] => by simp [cdg]
 | r :: rs => by have := cdg_nn rs; rw [cdg]; cases decide (r = 0) || decide (r = 1) <;> simp <;> omega
theorem cdg_c {r : Int} {rs : List Int} : cdg rs ≤ cdg (r :: rs) := by rw [cdg]; cases decide (r = 0) || decide (r = 1) <;> simp <;> omega
theorem cdg_1 {r : Int} {rs : List Int} (h : r = 0 ∨ r = 1) : cdg (r :: rs) = 1 + cdg rs := by rw [cdg]; rcases h with rfl | rfl <;> rfl
theorem roOK_at {l : List Int} (h : roOK l = true) {j : Nat} {r : Int} {rs : List Int} (hj : l.drop j = r :: rs) : 0 ≤ r ∧ r < 6 := by
 simp only [roOK, List.all_eq_true, decide_eq_true_eq] at h
 exact h r (List.drop_subset j l (by rw [hj]; exact List.mem_cons_self))
theorem dgb_at {s : ByteArray} (h : dgL (bz s) = true) {j : Int} (h0 : 0 ≤ j) (hj : j < s.size) : 48 ≤ byteAt s j.toNat ∧ byteAt s j.toNat ≤ 57 := by
 simp only [dgL, List.all_eq_true, decide_eq_true_eq] at h
 exact h _ (List.drop_subset j.toNat (bz s) (by rw [bz_at h0 hj]; exact List.mem_cons_self))
theorem fm_a {c d : Int} {m : Bool} (h : (c == 89 && d == 48) = true) : fmZ c d m = 32 := by
 have : c = 89 ∧ d = 48 := by simpa using h
 rw [fmZ, if_pos this]
theorem fm_b {c d : Int} {m : Bool} (h : (c == 89 && d == 48) = false) (q : (c == 84 || bif c == 73 then !m || c == 82 && m else c == 82 && m) = true) : fmZ c d m = puZ (d - 48) m := by
 have h1 : ¬ (c = 89 ∧ d = 48) := fun e => by rw [e.1, e.2] at h; cases h
 rw [fmZ, if_neg h1, if_pos]
 cases m <;> by_cases a : c = 84 <;> by_cases b : c = 73 <;> by_cases e : c = 82 <;> simp_all
theorem fm_c {c d : Int} {m : Bool} (h : (c == 89 && d == 48) = false) (q : (c == 84 || bif c == 73 then !m || c == 82 && m else c == 82 && m) = false) : fmZ c d m = d := by
 have h1 : ¬ (c = 89 ∧ d = 48) := fun e => by rw [e.1, e.2] at h; cases h
 rw [fmZ, if_neg h1, if_neg]
 cases m <;> by_cases a : c = 84 <;> by_cases b : c = 73 <;> by_cases e : c = 82 <;> simp_all
def V64_0 : Bool × ByteArray × Int × Rw × Nat × Nat × Int × Int × ByteArray × Bool × Int × Int × Int × Bool × Nat × Nat × Int × Int × Bool × Int × Int × ByteArray × Bool × Int × Int × Int × List Value → List Value := fun (m2, r6, r7, o, k2, cap2, L, i, s, nb, w, dg, sc, sg, k, cap, dr, f, cr, fl, fm, nu, mi, us, at0, ld, d) => [.pointer (some ⟨0, 0, some 0⟩), .bool m2, .string r6, .int .i64 r7, .pointer (some ⟨8, 0, some 0⟩), .pointer (some ⟨22, 0, some 0⟩), o.v 200, .slice (some ⟨1, 0, some 1⟩) k2 cap2, .int .i64 L, .int .i64 i]
def B64_0 : Bool × ByteArray × Int × Rw × Nat × Nat × Int × Int × ByteArray × Bool × Int × Int × Int × Bool × Nat × Nat × Int × Int × Bool × Int × Int × ByteArray × Bool × Int × Int × Int × List Value → List (Option Blk) := fun (m2, r6, r7, o, k2, cap2, L, i, s, nb, w, dg, sc, sg, k, cap, dr, f, cr, fl, fm, nu, mi, us, at0, ld, d) => [some ⟨[.string s, .bool nb, .int .i64 w, .int .i64 dg, .int .i64 sc, .bool sg, .slice (some ⟨1, 0, some 1⟩) k cap, .int .u8 dr, .int .i64 f, .bool cr, .int .u8 fl, .int .i64 fm], 156, false⟩, some ⟨d, 251, false⟩, some ⟨[.pointer (some ⟨0, 0, some 0⟩), .string nu, .bool mi, .int .i64 us, .int .i64 at0, .int .i64 ld], 255, true⟩, some ⟨how, 257, true⟩, o.b]
def S64_0 : LSpecA (Bool × ByteArray × Int × Rw × Nat × Nat × Int × Int × ByteArray × Bool × Int × Int × Int × Bool × Nat × Nat × Int × Int × Bool × Int × Int × ByteArray × Bool × Int × Int × Int × List Value) where
 live := [0, 2, 6, 7, 8, 9, 10, 49, 50, 51]
 mid := [0, 1, 8, 22, 200]
 n := 210
 ap := [(.tmp 10, 200)]
 dec vs bs := match vs, bs with | [.pointer (some ⟨0, 0, some 0⟩), .bool m2, .string r6, .int .i64 r7, .pointer (some ⟨8, 0, some 0⟩), .pointer (some ⟨22, 0, some 0⟩), .slice none 0 0, .slice (some ⟨1, 0, some 1⟩) k2 cap2, .int .i64 L, .int .i64 i], [some ⟨[.string s, .bool nb, .int .i64 w, .int .i64 dg, .int .i64 sc, .bool sg, .slice (some ⟨1, 0, some 1⟩) k cap, .int .u8 dr, .int .i64 f, .bool cr, .int .u8 fl, .int .i64 fm], 156, false⟩, some ⟨d, 251, false⟩, some ⟨[.pointer (some ⟨0, 0, some 0⟩), .string nu, .bool mi, .int .i64 us, .int .i64 at0, .int .i64 ld], 255, true⟩, some ⟨hw, 257, true⟩, none] => (match isHow hw with | true => some (m2, r6, r7, .nil, k2, cap2, L, i, s, nb, w, dg, sc, sg, k, cap, dr, f, cr, fl, fm, nu, mi, us, at0, ld, d) | false => none) | [.pointer (some ⟨0, 0, some 0⟩), .bool m2, .string r6, .int .i64 r7, .pointer (some ⟨8, 0, some 0⟩), .pointer (some ⟨22, 0, some 0⟩), .slice (some ⟨200, 0, some 1⟩) om oc, .slice (some ⟨1, 0, some 1⟩) k2 cap2, .int .i64 L, .int .i64 i], [some ⟨[.string s, .bool nb, .int .i64 w, .int .i64 dg, .int .i64 sc, .bool sg, .slice (some ⟨1, 0, some 1⟩) k cap, .int .u8 dr, .int .i64 f, .bool cr, .int .u8 fl, .int .i64 fm], 156, false⟩, some ⟨d, 251, false⟩, some ⟨[.pointer (some ⟨0, 0, some 0⟩), .string nu, .bool mi, .int .i64 us, .int .i64 at0, .int .i64 ld], 255, true⟩, some ⟨hw, 257, true⟩, some ⟨od, 5, true⟩] => (match isHow hw with | true => some (m2, r6, r7, .own od om oc, k2, cap2, L, i, s, nb, w, dg, sc, sg, k, cap, dr, f, cr, fl, fm, nu, mi, us, at0, ld, d) | false => none) | _, _ => none
 pre := fun (m2, r6, r7, o, k2, cap2, L, i, s, nb, w, dg, sc, sg, k, cap, dr, f, cr, fl, fm, nu, mi, us, at0, ld, d) => o.ok && (rowIOK d k2 cap2 && (roOK (zc d k2) && (dgL (bz nu) && decide (m2 = mi ∧ 0 ≤ i ∧ i ≤ k2 ∧ k2 ≤ 1000 ∧ L = k2 ∧ k2 ≤ s.size ∧ s.size ≤ 1000 ∧ 0 ≤ us ∧ us ≤ i ∧ 0 ≤ at0 ∧ at0 ≤ i ∧ us + cdg ((zc d k2).drop i.toNat) ≤ nu.size ∧ o.z.length ≤ i))))
 fin := fun (m2, r6, r7, o, k2, cap2, L, i, s, nb, w, dg, sc, sg, k, cap, dr, f, cr, fl, fm, nu, mi, us, at0, ld, d) Z => (o.is = false → wrGo f cr s.size mi ld fl ((zc d k2).drop i.toNat) ((bz s).drop i.toNat) ((bz nu).drop us.toNat) i at0 = [] → ∀ us' at' i', Z (.exit 0) [.pointer (some ⟨0, 0, some 0⟩), .bool m2, .string r6, .int .i64 r7, .pointer (some ⟨8, 0, some 0⟩), .pointer (some ⟨22, 0, some 0⟩), .slice none 0 0, .slice (some ⟨1, 0, some 1⟩) k2 cap2, .int .i64 L, .int .i64 i'] [some ⟨[.string s, .bool nb, .int .i64 w, .int .i64 dg, .int .i64 sc, .bool sg, .slice (some ⟨1, 0, some 1⟩) k cap, .int .u8 dr, .int .i64 f, .bool cr, .int .u8 fl, .int .i64 fm], 156, false⟩, some ⟨d, 251, false⟩, some ⟨[.pointer (some ⟨0, 0, some 0⟩), .string nu, .bool mi, .int .i64 us', .int .i64 at', .int .i64 ld], 255, true⟩, some ⟨how, 257, true⟩, none]) ∧ (∀ us' at' i' od' om' oc', rowOK od' om' oc' = true → zc od' om' = o.z ++ wrGo f cr s.size mi ld fl ((zc d k2).drop i.toNat) ((bz s).drop i.toNat) ((bz nu).drop us.toNat) i at0 → Z (.exit 0) [.pointer (some ⟨0, 0, some 0⟩), .bool m2, .string r6, .int .i64 r7, .pointer (some ⟨8, 0, some 0⟩), .pointer (some ⟨22, 0, some 0⟩), .slice (some ⟨200, 0, some 1⟩) om' oc', .slice (some ⟨1, 0, some 1⟩) k2 cap2, .int .i64 L, .int .i64 i'] [some ⟨[.string s, .bool nb, .int .i64 w, .int .i64 dg, .int .i64 sc, .bool sg, .slice (some ⟨1, 0, some 1⟩) k cap, .int .u8 dr, .int .i64 f, .bool cr, .int .u8 fl, .int .i64 fm], 156, false⟩, some ⟨d, 251, false⟩, some ⟨[.pointer (some ⟨0, 0, some 0⟩), .string nu, .bool mi, .int .i64 us', .int .i64 at', .int .i64 ld], 255, true⟩, some ⟨how, 257, true⟩, some ⟨od', 5, true⟩])
def e64 (m2 : Bool) (r6 : ByteArray) (r7 : Int) (k2 : Nat) (cap2 : Nat) (L : Int) (i : Int) (s : ByteArray) (nb : Bool) (w : Int) (dg : Int) (sc : Int) (sg : Bool) (k : Nat) (cap : Nat) (dr : Int) (f : Int) (cr : Bool) (fl : Int) (fm : Int) (nu : ByteArray) (mi : Bool) (us : Int) (at0 : Int) (ld : Int) (d : List Value) (pre : List Value) (ln N : Nat) (X U : Int) (R : Exit → List Value → List (Option Blk) → Prop) : Prop := ∀ (cap_1 : Nat) (tail : List Value), tailOK tail cap_1 ln 1 = true → bif goodL [(N, 200)] d && (goodL [(N, 200)] (pre ++ [.int .u8 X] ++ tail) && true) && true then R Exit.normal [.pointer (some (.mk 0 0 (some 0))), B m2, S r6, I r7, .pointer (some (.mk 8 0 (some 0))), .pointer (some (.mk 22 0 (some 0))), .slice (some (.mk 200 0 (some 1))) ln cap_1, .slice (some (.mk 1 0 (some 1))) k2 cap2, I L, I (IntKind.wrap .i64 (i + 1))] [some (.mk [S s, B nb, I w, I dg, I sc, B sg, .slice (some (.mk 1 0 (some 1))) k cap, .int .u8 dr, I f, B cr, .int .u8 fl, I fm] 156 false), some (.mk (rlbL [(N, 200)] d) 251 false), some (.mk [.pointer (some (.mk 0 0 (some 0))), S nu, B mi, I U, I (IntKind.wrap .i64 (at0 + 1)), I ld] 255 true), some (.mk [Value.func (Fn.func 252) ⟨[]⟩ ⟨[]⟩, Value.func (Fn.func 253) ⟨[]⟩ ⟨[]⟩, Value.nilFunc, Value.func (Fn.func 254) ⟨[]⟩ ⟨[]⟩, Value.func (Fn.func 255) ⟨[]⟩ ⟨[]⟩, Value.func (Fn.func 256) ⟨[]⟩ ⟨[]⟩] 257 true), some (.mk (rlbL [(N, 200)] (pre ++ [.int .u8 X] ++ tail)) 5 true)] else False
theorem r64_0n (m2 : Bool) (r6 : ByteArray) (r7 : Int) (k2 : Nat) (cap2 : Nat) (L : Int) (i : Int) (s : ByteArray) (nb : Bool) (w : Int) (dg : Int) (sc : Int) (sg : Bool) (k : Nat) (cap : Nat) (dr : Int) (f : Int) (cr : Bool) (fl : Int) (fm : Int) (nu : ByteArray) (mi : Bool) (us : Int) (at0 : Int) (ld : Int) (d : List Value) (jk : Tmps) (R : Exit → List Value → List (Option Blk) → Prop) : (codeQ Tryz.prog G35 noL Tryz.f207.ntmps (loopOf Tryz.f207 0) (tl S64_0.live (V64_0 (m2, r6, r7, .nil, k2, cap2, L, i, s, nb, w, dg, sc, sg, k, cap, dr, f, cr, fl, fm, nu, mi, us, at0, ld, d)) jk) (ml S64_0.mid (B64_0 (m2, r6, r7, .nil, k2, cap2, L, i, s, nb, w, dg, sc, sg, k, cap, dr, f, cr, fl, fm, nu, mi, us, at0, ld, d))) S64_0.n fun e t' m' _ => S64_0.out R e t' m') = ( bif decide (i < L) then bif decide (0 ≤ i ∧ i < (↑k2 : Int)) then bif isIntAt IntKind.i64 d (0 + Int.toNat i * 1) then bif decide (0 ≤ i ∧ i < (↑(ByteArray.size s) : Int)) then bif intAt d (0 + Int.toNat i * 1) == 2 then bif goodL [] d && true && true then R Exit.normal [.pointer (some (.mk 0 0 (some 0))), B m2, S r6, I r7, .pointer (some (.mk 8 0 (some 0))), .pointer (some (.mk 22 0 (some 0))), .slice none 0 0, .slice (some (.mk 1 0 (some 1))) k2 cap2, I L, I (IntKind.wrap .i64 (i + 1))] [some (.mk [S s, B nb, I w, I dg, I sc, B sg, .slice (some (.mk 1 0 (some 1))) k cap, .int .u8 dr, I f, B cr, .int .u8 fl, I fm] 156 false), some (.mk (rlbL [] d) 251 false), some (.mk [.pointer (some (.mk 0 0 (some 0))), S nu, B mi, I us, I at0, I ld] 255 true), some (.mk [Value.func (Fn.func 252) (.mk []) (.mk []), Value.func (Fn.func 253) (.mk []) (.mk []), Value.nilFunc, Value.func (Fn.func 254) (.mk []) (.mk []), Value.func (Fn.func 255) (.mk []) (.mk []), Value.func (Fn.func 256) (.mk []) (.mk [])] 257 true), none] else False else bif i == f then e64 m2 r6 r7 k2 cap2 L i s nb w dg sc sg k cap dr f cr fl fm nu mi us at0 ld d [] 1 240 fl us R else bif cr || true then bif cr && decide (i ≥ IntKind.wrap .i64 ((↑(ByteArray.size s) : Int) - 2)) then bif !m2 then e64 m2 r6 r7 k2 cap2 L i s nb w dg sc sg k cap dr f cr fl fm nu mi us at0 ld d [] 1 256 32 us R else e64 m2 r6 r7 k2 cap2 L i s nb w dg sc sg k cap dr f cr fl fm nu mi us at0 ld d [] 1 255 (byteAt s (Int.toNat i)) us R else bif decide (0 ≤ intAt d (0 + Int.toNat i * 1) ∧ intAt d (0 + Int.toNat i * 1) < 6) then bif decide ((↑(0 + Int.toNat (intAt d (0 + Int.toNat i * 1)) * 1) : Int) = 0) then bif decide (0 ≤ IntKind.wrap .i64 (IntKind.wrap .i64 (us + 1) - 1) ∧ IntKind.wrap .i64 (IntKind.wrap .i64 (us + 1) - 1) < (↑(ByteArray.size nu) : Int)) then bif byteAt s (Int.toNat i) == 89 || true then bif byteAt s (Int.toNat i) == 89 && byteAt nu (Int.toNat (IntKind.wrap .i64 (IntKind.wrap .i64 (us + 1) - 1))) == 48 then e64 m2 r6 r7 k2 cap2 L i s nb w dg sc sg k cap dr f cr fl fm nu mi us at0 ld d [] 1 303 32 (IntKind.wrap .i64 (us + 1)) R else bif byteAt s (Int.toNat i) == 84 || bif byteAt s (Int.toNat i) == 73 then !mi || (byteAt s (Int.toNat i) == 82 || true) else byteAt s (Int.toNat i) == 82 || true then bif byteAt s (Int.toNat i) == 84 || bif byteAt s (Int.toNat i) == 73 then !mi || byteAt s (Int.toNat i) == 82 && mi else byteAt s (Int.toNat i) == 82 && mi then e64 m2 r6 r7 k2 cap2 L i s nb w dg sc sg k cap dr f cr fl fm nu mi us at0 ld d [] 1 328 (puZ (IntKind.wrap .i64 (IntKind.wrap .u8 (byteAt nu (Int.toNat (IntKind.wrap .i64 (IntKind.wrap .i64 (us + 1) - 1))) - 48))) mi) (IntKind.wrap .i64 (us + 1)) R else e64 m2 r6 r7 k2 cap2 L i s nb w dg sc sg k cap dr f cr fl fm nu mi us at0 ld d [] 1 328 (byteAt nu (Int.toNat (IntKind.wrap .i64 (IntKind.wrap .i64 (us + 1) - 1)))) (IntKind.wrap .i64 (us + 1)) R else False else False else False else bif decide ((↑(0 + Int.toNat (intAt d (0 + Int.toNat i * 1)) * 1) : Int) = 1) then bif decide (0 ≤ IntKind.wrap .i64 (IntKind.wrap .i64 (us + 1) - 1) ∧ IntKind.wrap .i64 (IntKind.wrap .i64 (us + 1) - 1) < (↑(ByteArray.size nu) : Int)) then bif decide (at0 < ld) then e64 m2 r6 r7 k2 cap2 L i s nb w dg sc sg k cap dr f cr fl fm nu mi us at0 ld d [] 1 299 fl (IntKind.wrap .i64 (us + 1)) R else e64 m2 r6 r7 k2 cap2 L i s nb w dg sc sg k cap dr f cr fl fm nu mi us at0 ld d [] 1 293 (byteAt nu (Int.toNat (IntKind.wrap .i64 (IntKind.wrap .i64 (us + 1) - 1)))) (IntKind.wrap .i64 (us + 1)) R else False else bif decide ((↑(0 + Int.toNat (intAt d (0 + Int.toNat i * 1)) * 1) : Int) = 2) then False else bif decide ((↑(0 + Int.toNat (intAt d (0 + Int.toNat i * 1)) * 1) : Int) = 3) then bif byteAt s (Int.toNat i) == 66 then e64 m2 r6 r7 k2 cap2 L i s nb w dg sc sg k cap dr f cr fl fm nu mi us at0 ld d [] 1 263 32 us R else bif decide (at0 < ld) then e64 m2 r6 r7 k2 cap2 L i s nb w dg sc sg k cap dr f cr fl fm nu mi us at0 ld d [] 1 280 fl us R else e64 m2 r6 r7 k2 cap2 L i s nb w dg sc sg k cap dr f cr fl fm nu mi us at0 ld d [] 1 274 (byteAt s (Int.toNat i)) us R else bif decide ((↑(0 + Int.toNat (intAt d (0 + Int.toNat i * 1)) * 1) : Int) = 4) then bif byteAt s (Int.toNat i) == 83 || true then bif byteAt s (Int.toNat i) == 83 && mi then e64 m2 r6 r7 k2 cap2 L i s nb w dg sc sg k cap dr f cr fl fm nu mi us at0 ld d [] 1 269 45 us R else bif byteAt s (Int.toNat i) == 83 then e64 m2 r6 r7 k2 cap2 L i s nb w dg sc sg k cap dr f cr fl fm nu mi us at0 ld d [] 1 272 43 us R else bif (byteAt s (Int.toNat i) == 43) == mi then e64 m2 r6 r7 k2 cap2 L i s nb w dg sc sg k cap dr f cr fl fm nu mi us at0 ld d [] 1 280 32 us R else e64 m2 r6 r7 k2 cap2 L i s nb w dg sc sg k cap dr f cr fl fm nu mi us at0 ld d [] 1 281 (byteAt s (Int.toNat i)) us R else False else bif decide ((↑(0 + Int.toNat (intAt d (0 + Int.toNat i * 1)) * 1) : Int) = 5) then e64 m2 r6 r7 k2 cap2 L i s nb w dg sc sg k cap dr f cr fl fm nu mi us at0 ld d [] 1 261 (byteAt s (Int.toNat i)) us R else False else False else False else False else False else False else bif goodL [] d && true && true then R (Exit.exit 0) [.pointer (some (.mk 0 0 (some 0))), B m2, S r6, I r7, .pointer (some (.mk 8 0 (some 0))), .pointer (some (.mk 22 0 (some 0))), .slice none 0 0, .slice (some (.mk 1 0 (some 1))) k2 cap2, I L, I i] [some (.mk [S s, B nb, I w, I dg, I sc, B sg, .slice (some (.mk 1 0 (some 1))) k cap, .int .u8 dr, I f, B cr, .int .u8 fl, I fm] 156 false), some (.mk (rlbL [] d) 251 false), some (.mk [.pointer (some (.mk 0 0 (some 0))), S nu, B mi, I us, I at0, I ld] 255 true), some (.mk [Value.func (Fn.func 252) (.mk []) (.mk []), Value.func (Fn.func 253) (.mk []) (.mk []), Value.nilFunc, Value.func (Fn.func 254) (.mk []) (.mk []), Value.func (Fn.func 255) (.mk []) (.mk []), Value.func (Fn.func 256) (.mk []) (.mk [])] 257 true), none] else False) := by kernel_rfl
theorem r64_0o (m2 : Bool) (r6 : ByteArray) (r7 : Int) (od : List Value) (om : Nat) (oc : Nat) (k2 : Nat) (cap2 : Nat) (L : Int) (i : Int) (s : ByteArray) (nb : Bool) (w : Int) (dg : Int) (sc : Int) (sg : Bool) (k : Nat) (cap : Nat) (dr : Int) (f : Int) (cr : Bool) (fl : Int) (fm : Int) (nu : ByteArray) (mi : Bool) (us : Int) (at0 : Int) (ld : Int) (d : List Value) (jk : Tmps) (R : Exit → List Value → List (Option Blk) → Prop) : (codeQ Tryz.prog G35 noL Tryz.f207.ntmps (loopOf Tryz.f207 0) (tl S64_0.live (V64_0 (m2, r6, r7, (.own od om oc), k2, cap2, L, i, s, nb, w, dg, sc, sg, k, cap, dr, f, cr, fl, fm, nu, mi, us, at0, ld, d)) jk) (ml S64_0.mid (B64_0 (m2, r6, r7, (.own od om oc), k2, cap2, L, i, s, nb, w, dg, sc, sg, k, cap, dr, f, cr, fl, fm, nu, mi, us, at0, ld, d))) S64_0.n fun e t' m' _ => S64_0.out R e t' m') = ( bif decide (i < L) then bif decide (0 ≤ i ∧ i < (↑k2 : Int)) then bif isIntAt IntKind.i64 d (0 + Int.toNat i * 1) then bif decide (0 ≤ i ∧ i < (↑(ByteArray.size s) : Int)) then bif intAt d (0 + Int.toNat i * 1) == 2 then bif goodL [(200, 200)] d && (goodL [(200, 200)] od && true) && true then R Exit.normal [.pointer (some (.mk 0 0 (some 0))), B m2, S r6, I r7, .pointer (some (.mk 8 0 (some 0))), .pointer (some (.mk 22 0 (some 0))), .slice (some (.mk 200 0 (some 1))) om oc, .slice (some (.mk 1 0 (some 1))) k2 cap2, I L, I (IntKind.wrap .i64 (i + 1))] [some (.mk [S s, B nb, I w, I dg, I sc, B sg, .slice (some (.mk 1 0 (some 1))) k cap, .int .u8 dr, I f, B cr, .int .u8 fl, I fm] 156 false), some (.mk (rlbL [(200, 200)] d) 251 false), some (.mk [.pointer (some (.mk 0 0 (some 0))), S nu, B mi, I us, I at0, I ld] 255 true), some (.mk [Value.func (Fn.func 252) (.mk []) (.mk []), Value.func (Fn.func 253) (.mk []) (.mk []), Value.nilFunc, Value.func (Fn.func 254) (.mk []) (.mk []), Value.func (Fn.func 255) (.mk []) (.mk []), Value.func (Fn.func 256) (.mk []) (.mk [])] 257 true), some (.mk (rlbL [(200, 200)] od) 5 true)] else False else bif i == f then bif Nat.beq (List.length od) (oc * 1) && Nat.ble om oc && Nat.ble oc 9223372036854775807 && true && fitsA (om + 1) 1 then e64 m2 r6 r7 k2 cap2 L i s nb w dg sc sg k cap dr f cr fl fm nu mi us at0 ld d (List.take (om * 1) od) (om + 1) 240 fl us R else False else bif cr || true then bif cr && decide (i ≥ IntKind.wrap .i64 ((↑(ByteArray.size s) : Int) - 2)) then bif !m2 then bif Nat.beq (List.length od) (oc * 1) && Nat.ble om oc && Nat.ble oc 9223372036854775807 && true && fitsA (om + 1) 1 then e64 m2 r6 r7 k2 cap2 L i s nb w dg sc sg k cap dr f cr fl fm nu mi us at0 ld d (List.take (om * 1) od) (om + 1) 256 32 us R else False else bif Nat.beq (List.length od) (oc * 1) && Nat.ble om oc && Nat.ble oc 9223372036854775807 && true && fitsA (om + 1) 1 then e64 m2 r6 r7 k2 cap2 L i s nb w dg sc sg k cap dr f cr fl fm nu mi us at0 ld d (List.take (om * 1) od) (om + 1) 255 (byteAt s (Int.toNat i)) us R else False else bif decide (0 ≤ intAt d (0 + Int.toNat i * 1) ∧ intAt d (0 + Int.toNat i * 1) < 6) then bif decide ((↑(0 + Int.toNat (intAt d (0 + Int.toNat i * 1)) * 1) : Int) = 0) then bif decide (0 ≤ IntKind.wrap .i64 (IntKind.wrap .i64 (us + 1) - 1) ∧ IntKind.wrap .i64 (IntKind.wrap .i64 (us + 1) - 1) < (↑(ByteArray.size nu) : Int)) then bif byteAt s (Int.toNat i) == 89 || true then bif byteAt s (Int.toNat i) == 89 && byteAt nu (Int.toNat (IntKind.wrap .i64 (IntKind.wrap .i64 (us + 1) - 1))) == 48 then bif Nat.beq (List.length od) (oc * 1) && Nat.ble om oc && Nat.ble oc 9223372036854775807 && true && fitsA (om + 1) 1 then e64 m2 r6 r7 k2 cap2 L i s nb w dg sc sg k cap dr f cr fl fm nu mi us at0 ld d (List.take (om * 1) od) (om + 1) 303 32 (IntKind.wrap .i64 (us + 1)) R else False else bif byteAt s (Int.toNat i) == 84 || bif byteAt s (Int.toNat i) == 73 then !mi || (byteAt s (Int.toNat i) == 82 || true) else byteAt s (Int.toNat i) == 82 || true then bif byteAt s (Int.toNat i) == 84 || bif byteAt s (Int.toNat i) == 73 then !mi || byteAt s (Int.toNat i) == 82 && mi else byteAt s (Int.toNat i) == 82 && mi then bif Nat.beq (List.length od) (oc * 1) && Nat.ble om oc && Nat.ble oc 9223372036854775807 && true && fitsA (om + 1) 1 then e64 m2 r6 r7 k2 cap2 L i s nb w dg sc sg k cap dr f cr fl fm nu mi us at0 ld d (List.take (om * 1) od) (om + 1) 328 (puZ (IntKind.wrap .i64 (IntKind.wrap .u8 (byteAt nu (Int.toNat (IntKind.wrap .i64 (IntKind.wrap .i64 (us + 1) - 1))) - 48))) mi) (IntKind.wrap .i64 (us + 1)) R else False else bif Nat.beq (List.length od) (oc * 1) && Nat.ble om oc && Nat.ble oc 9223372036854775807 && true && fitsA (om + 1) 1 then e64 m2 r6 r7 k2 cap2 L i s nb w dg sc sg k cap dr f cr fl fm nu mi us at0 ld d (List.take (om * 1) od) (om + 1) 328 (byteAt nu (Int.toNat (IntKind.wrap .i64 (IntKind.wrap .i64 (us + 1) - 1)))) (IntKind.wrap .i64 (us + 1)) R else False else False else False else False else bif decide ((↑(0 + Int.toNat (intAt d (0 + Int.toNat i * 1)) * 1) : Int) = 1) then bif decide (0 ≤ IntKind.wrap .i64 (IntKind.wrap .i64 (us + 1) - 1) ∧ IntKind.wrap .i64 (IntKind.wrap .i64 (us + 1) - 1) < (↑(ByteArray.size nu) : Int)) then bif decide (at0 < ld) then bif Nat.beq (List.length od) (oc * 1) && Nat.ble om oc && Nat.ble oc 9223372036854775807 && true && fitsA (om + 1) 1 then e64 m2 r6 r7 k2 cap2 L i s nb w dg sc sg k cap dr f cr fl fm nu mi us at0 ld d (List.take (om * 1) od) (om + 1) 299 fl (IntKind.wrap .i64 (us + 1)) R else False else bif Nat.beq (List.length od) (oc * 1) && Nat.ble om oc && Nat.ble oc 9223372036854775807 && true && fitsA (om + 1) 1 then e64 m2 r6 r7 k2 cap2 L i s nb w dg sc sg k cap dr f cr fl fm nu mi us at0 ld d (List.take (om * 1) od) (om + 1) 293 (byteAt nu (Int.toNat (IntKind.wrap .i64 (IntKind.wrap .i64 (us + 1) - 1)))) (IntKind.wrap .i64 (us + 1)) R else False else False else bif decide ((↑(0 + Int.toNat (intAt d (0 + Int.toNat i * 1)) * 1) : Int) = 2) then False else bif decide ((↑(0 + Int.toNat (intAt d (0 + Int.toNat i * 1)) * 1) : Int) = 3) then bif byteAt s (Int.toNat i) == 66 then bif Nat.beq (List.length od) (oc * 1) && Nat.ble om oc && Nat.ble oc 9223372036854775807 && true && fitsA (om + 1) 1 then e64 m2 r6 r7 k2 cap2 L i s nb w dg sc sg k cap dr f cr fl fm nu mi us at0 ld d (List.take (om * 1) od) (om + 1) 263 32 us R else False else bif decide (at0 < ld) then bif Nat.beq (List.length od) (oc * 1) && Nat.ble om oc && Nat.ble oc 9223372036854775807 && true && fitsA (om + 1) 1 then e64 m2 r6 r7 k2 cap2 L i s nb w dg sc sg k cap dr f cr fl fm nu mi us at0 ld d (List.take (om * 1) od) (om + 1) 280 fl us R else False else bif Nat.beq (List.length od) (oc * 1) && Nat.ble om oc && Nat.ble oc 9223372036854775807 && true && fitsA (om + 1) 1 then e64 m2 r6 r7 k2 cap2 L i s nb w dg sc sg k cap dr f cr fl fm nu mi us at0 ld d (List.take (om * 1) od) (om + 1) 274 (byteAt s (Int.toNat i)) us R else False else bif decide ((↑(0 + Int.toNat (intAt d (0 + Int.toNat i * 1)) * 1) : Int) = 4) then bif byteAt s (Int.toNat i) == 83 || true then bif byteAt s (Int.toNat i) == 83 && mi then bif Nat.beq (List.length od) (oc * 1) && Nat.ble om oc && Nat.ble oc 9223372036854775807 && true && fitsA (om + 1) 1 then e64 m2 r6 r7 k2 cap2 L i s nb w dg sc sg k cap dr f cr fl fm nu mi us at0 ld d (List.take (om * 1) od) (om + 1) 269 45 us R else False else bif byteAt s (Int.toNat i) == 83 then bif Nat.beq (List.length od) (oc * 1) && Nat.ble om oc && Nat.ble oc 9223372036854775807 && true && fitsA (om + 1) 1 then e64 m2 r6 r7 k2 cap2 L i s nb w dg sc sg k cap dr f cr fl fm nu mi us at0 ld d (List.take (om * 1) od) (om + 1) 272 43 us R else False else bif (byteAt s (Int.toNat i) == 43) == mi then bif Nat.beq (List.length od) (oc * 1) && Nat.ble om oc && Nat.ble oc 9223372036854775807 && true && fitsA (om + 1) 1 then e64 m2 r6 r7 k2 cap2 L i s nb w dg sc sg k cap dr f cr fl fm nu mi us at0 ld d (List.take (om * 1) od) (om + 1) 280 32 us R else False else bif Nat.beq (List.length od) (oc * 1) && Nat.ble om oc && Nat.ble oc 9223372036854775807 && true && fitsA (om + 1) 1 then e64 m2 r6 r7 k2 cap2 L i s nb w dg sc sg k cap dr f cr fl fm nu mi us at0 ld d (List.take (om * 1) od) (om + 1) 281 (byteAt s (Int.toNat i)) us R else False else False else bif decide ((↑(0 + Int.toNat (intAt d (0 + Int.toNat i * 1)) * 1) : Int) = 5) then bif Nat.beq (List.length od) (oc * 1) && Nat.ble om oc && Nat.ble oc 9223372036854775807 && true && fitsA (om + 1) 1 then e64 m2 r6 r7 k2 cap2 L i s nb w dg sc sg k cap dr f cr fl fm nu mi us at0 ld d (List.take (om * 1) od) (om + 1) 261 (byteAt s (Int.toNat i)) us R else False else False else False else False else False else False else False else bif goodL [(200, 200)] d && (goodL [(200, 200)] od && true) && true then R (Exit.exit 0) [.pointer (some (.mk 0 0 (some 0))), B m2, S r6, I r7, .pointer (some (.mk 8 0 (some 0))), .pointer (some (.mk 22 0 (some 0))), .slice (some (.mk 200 0 (some 1))) om oc, .slice (some (.mk 1 0 (some 1))) k2 cap2, I L, I i] [some (.mk [S s, B nb, I w, I dg, I sc, B sg, .slice (some (.mk 1 0 (some 1))) k cap, .int .u8 dr, I f, B cr, .int .u8 fl, I fm] 156 false), some (.mk (rlbL [(200, 200)] d) 251 false), some (.mk [.pointer (some (.mk 0 0 (some 0))), S nu, B mi, I us, I at0, I ld] 255 true), some (.mk [Value.func (Fn.func 252) (.mk []) (.mk []), Value.func (Fn.func 253) (.mk []) (.mk []), Value.nilFunc, Value.func (Fn.func 254) (.mk []) (.mk []), Value.func (Fn.func 255) (.mk []) (.mk []), Value.func (Fn.func 256) (.mk []) (.mk [])] 257 true), some (.mk (rlbL [(200, 200)] od) 5 true)] else False) := by kernel_rfl
theorem l64_0 : LOKf Tryz.prog (oneL 0 S64_0.hA) Tryz.f207 := by
 refine lokf_one (h := S64_0.hA) (by kernel_rfl) (loop_specA ok_G35 hmix (by kernel_rfl) (lok_none _) S64_0 V64_0 B64_0 (fun (m2, r6, r7, o, k2, cap2, L, i, s, nb, w, dg, sc, sg, k, cap, dr, f, cr, fl, fm, nu, mi, us, at0, ld, d) => (k2 - i).toNat) ?_ ?_ ?_)
 ·intro vs bs s h
  simp only [S64_0] at h
  split at h
  all_goals first | (cases h; exact ⟨rfl, rfl⟩) | cases h | (split at h <;> first | (rename_i hq; cases h; have hq := isHow_eq hq; subst hq; exact ⟨rfl, rfl⟩) | cases h)
 ·exact fun ⟨m2, r6, r7, o, k2, cap2, L, i, s, nb, w, dg, sc, sg, k, cap, dr, f, cr, fl, fm, nu, mi, us, at0, ld, d⟩ hp => by
   simp only [S64_0, Bool.and_eq_true] at hp
   have hr := rowIOK_iff.1 hp.2.1
   cases o with
   | nil => simp [how, V64_0, B64_0, S64_0, idsLt, idsLtB, idsL, ids, Rw.v, Rw.b, ids_plainL hr.plain]
   | own od om oc => simp [how, V64_0, B64_0, S64_0, idsLt, idsLtB, idsL, ids, Rw.v, Rw.b, ids_plainL hr.plain, ids_plainL (rowOK_iff.1 hp.1).plain]
 ·intro ⟨m2, r6, r7, o, k2, cap2, L, i, s, nb, w, dg, sc, sg, k, cap, dr, f, cr, fl, fm, nu, mi, us, at0, ld, d⟩ jk Z hp hf
  simp only [S64_0] at hp hf
  cases o with
  | nil =>
   rw [r64_0n]
   simp only [Bool.and_eq_true, decide_eq_true_eq] at hp
   obtain ⟨-, hR, hO, hD, rfl, hp⟩ := hp
   have hr := rowIOK_iff.1 hR
   simp only [Rw.z, List.length_nil] at hp hf
   have e0 : 0 + i.toNat * 1 = i.toNat := by omega
   rw [e0]
   refine cond_intro (fun h => ?_) (fun h => ?_)
   ·have h := of_decide_eq_true h
    obtain ⟨a1, a3⟩ := hr.at hp.1 (by omega)
    have hro := roOK_at hO a3
    rw [a3, wrGo, bz_at hp.1 (by omega), List.headD_cons, List.tail_cons] at hf
    rw [a3] at hp
    have hc1 := @cdg_c (intAt d i.toNat) ((zc d k2).drop (i + 1).toNat)
    have hc2 := cdg_nn ((zc d k2).drop (i + 1).toNat)
    rw [a1, w64 (n := i + 1) (by omega), w64 (n := (s.size : Int) - 2) (by omega)]
    have eu : IntKind.wrap .i64 (IntKind.wrap .i64 (us + 1) - 1) = us := by rw [w64 (n := us + 1) (by omega), w64 (by omega)]; omega
    rw [eu]
    generalize intAt d i.toNat = r at *
    generalize byteAt s i.toNat = c at *
    have er : ((0 + r.toNat * 1 : Nat) : Int) = r := by omega
    rw [er]
    refine c_t (decide_eq_true (by omega)) (c_t rfl (c_t (decide_eq_true (by omega)) (cond_intro (fun q => ?_) (fun q => ?_))))
    ·rw [q, cond_true] at hf
     refine c_t (by rw [hr.good]; rfl) ?_
     rw [hr.rlb]
     exact ⟨(m2, r6, r7, .nil, k2, cap2, L, i + 1, s, nb, w, dg, sc, sg, k, cap, dr, f, cr, fl, fm, nu, m2, us, at0, ld, d), rfl, rfl, by simp only [S64_0, Bool.and_eq_true, decide_eq_true_eq]; exact ⟨rfl, hR, hO, hD, trivial, by simp only [Rw.z, List.length_nil]; omega⟩, by simp only; omega, hf⟩
    ·rw [q, cond_false] at hf
     have leaf : ∀ (b : Bool) (N : Nat) (X : Int) {U : Int}, wrC f cr s.size m2 ld fl r c (List.headD (List.drop us.toNat (bz nu)) 0) i at0 = X → wrT f cr s.size r i = b → (bif b then (List.drop us.toNat (bz nu)).tail else List.drop us.toNat (bz nu)) = List.drop U.toNat (bz nu) → (U + cdg ((zc d k2).drop (i + 1).toNat) ≤ nu.size ∧ 0 ≤ U ∧ U ≤ i + 1) → e64 m2 r6 r7 k2 cap2 L i s nb w dg sc sg k cap dr f cr fl fm nu m2 us at0 ld d [] 1 N X U (S64_0.step V64_0 B64_0 (fun (m2, r6, r7, o, k2, cap2, L, i, s, nb, w, dg, sc, sg, k, cap, dr, f, cr, fl, fm, nu, mi, us, at0, ld, d) => (k2 - i).toNat) (m2, r6, r7, .nil, k2, cap2, L, i, s, nb, w, dg, sc, sg, k, cap, dr, f, cr, fl, fm, nu, m2, us, at0, ld, d) Z) := by
      intro b N X U e eT eD hU
      rw [e, eT, eD] at hf
      intro cap1 tail ht
      obtain ⟨h1, h2⟩ : RowP ([] ++ [Value.int IntKind.u8 X] ++ tail) 1 cap1 ∧ zc ([] ++ [Value.int IntKind.u8 X] ++ tail) 1 = [X] := row_new [X] ht
      have hl1 := zc_length h1
      rw [w64 (n := i + 1) (by omega), w64 (n := at0 + 1) (by omega)]
      generalize [] ++ [Value.int IntKind.u8 X] ++ tail = od' at *
      refine c_t (by rw [hr.good, h1.good]; rfl) ?_
      rw [hr.rlb, h1.rlb]
      exact ⟨(m2, r6, r7, .own od' (1) cap1, k2, cap2, L, i + 1, s, nb, w, dg, sc, sg, k, cap, dr, f, cr, fl, fm, nu, m2, U, at0 + 1, ld, d), rfl, rfl, by simp only [S64_0, Bool.and_eq_true, decide_eq_true_eq]; exact ⟨rowOK_iff.2 h1, hR, hO, hD, trivial, by simp only [Rw.z, hl1]; omega⟩, by simp only; omega, ⟨fun q => (by cases q), fun us' at' i' od'' om'' oc'' g1 g2 => hf.2 us' at' i' od'' om'' oc'' g1 (by rw [g2]; simp only [Rw.z, h2, List.append_assoc, List.cons_append, List.nil_append])⟩⟩
     refine cond_intro (fun q0 => ?_) (fun q0 => c_t (by simp) (cond_intro (fun q1 => cond_intro (fun q2 => ?_) (fun q2 => ?_)) (fun q1 => c_t (decide_eq_true hro) ?_)))
     ·exact leaf false _ _ (by simp only [wrC, q0, cond_true, cond_false]) (by simp [wrT, q0]) rfl (by omega)
     ·exact leaf false _ _ (by simp only [wrC, q0, q1, q2, cond_true, cond_false]) (by simp [wrT, q0, q1, q2]) rfl (by omega)
     ·exact leaf false _ _ (by simp only [wrC, q0, q1, q2, cond_true, cond_false]) (by simp [wrT, q0, q1, q2]) rfl (by omega)
     ·refine cond_intro (fun n => ?_) (fun m => cond_intro (fun n => ?_) (fun m1 => cond_intro (fun n => ?_) (fun m2' => cond_intro (fun n => ?_) (fun m3 => cond_intro (fun n => ?_) (fun m4 => ?_)))))
      ·have n0 := of_decide_eq_true n
       have hc3 := @cdg_1 r ((zc d k2).drop (i + 1).toNat) (by omega)
       have hd := dgb_at hD hp.2.2.2.2.2.2.1 (by omega)
       have ed := bz_at hp.2.2.2.2.2.2.1 (s := nu) (by omega)
       have ed' : List.headD (List.drop us.toNat (bz nu)) 0 = byteAt nu us.toNat := by rw [ed]; rfl
       rw [w8 (n := byteAt nu us.toNat - 48) (by omega), w64 (n := byteAt nu us.toNat - 48) (by omega)]
       generalize byteAt nu us.toNat = dd at *
       refine c_t (decide_eq_true (by omega)) (c_t (by simp) (cond_intro (fun q2 => ?_) (fun q2 => c_t (by cases c == 84 <;> cases c == 73 <;> simp) (cond_intro (fun q3 => ?_) (fun q3 => ?_)))))
       ·rw [w64 (n := us + 1) (by omega)]
        exact leaf true _ _ (by simp only [wrC, q0, q1, n, ed', cond_true, cond_false]; exact fm_a q2) (by simp [wrT, q0, q1, n, ed']) (by rw [cond_true, ed, List.tail_cons]) (by omega)
       ·rw [w64 (n := us + 1) (by omega)]
        exact leaf true _ _ (by simp only [wrC, q0, q1, n, ed', cond_true, cond_false]; exact fm_b q2 q3) (by simp [wrT, q0, q1, n, ed']) (by rw [cond_true, ed, List.tail_cons]) (by omega)
       ·rw [w64 (n := us + 1) (by omega)]
        exact leaf true _ _ (by simp only [wrC, q0, q1, n, ed', cond_true, cond_false]; exact fm_c q2 q3) (by simp [wrT, q0, q1, n, ed']) (by rw [cond_true, ed, List.tail_cons]) (by omega)
      ·have n0 := of_decide_eq_true n
       have hc3 := @cdg_1 r ((zc d k2).drop (i + 1).toNat) (by omega)
       have hd := dgb_at hD hp.2.2.2.2.2.2.1 (by omega)
       have ed := bz_at hp.2.2.2.2.2.2.1 (s := nu) (by omega)
       have ed' : List.headD (List.drop us.toNat (bz nu)) 0 = byteAt nu us.toNat := by rw [ed]; rfl
       generalize byteAt nu us.toNat = dd at *
       refine c_t (decide_eq_true (by omega)) (cond_intro (fun q2 => ?_) (fun q2 => ?_))
       ·rw [w64 (n := us + 1) (by omega)]
        exact leaf true _ _ (by simp only [wrC, q0, q1, m, n, q2, ed', cond_true, cond_false]) (by simp [wrT, q0, q1, m, n, q2, ed']) (by rw [cond_true, ed, List.tail_cons]) (by omega)
       ·rw [w64 (n := us + 1) (by omega)]
        exact leaf true _ _ (by simp only [wrC, q0, q1, m, n, q2, ed', cond_true, cond_false]) (by simp [wrT, q0, q1, m, n, q2, ed']) (by rw [cond_true, ed, List.tail_cons]) (by omega)
      ·have n := of_decide_eq_true n
       rw [n] at q
       cases q
      ·refine cond_intro (fun q2 => ?_) (fun q2 => cond_intro (fun q3 => ?_) (fun q3 => ?_))
       ·exact leaf false _ _ (by simp only [wrC, q0, q1, m, m1, n, q2, cond_true, cond_false]) (by simp [wrT, q0, q1, m, m1, n, q2]) rfl (by omega)
       ·exact leaf false _ _ (by simp only [wrC, q0, q1, m, m1, n, q2, q3, cond_true, cond_false]) (by simp [wrT, q0, q1, m, m1, n, q2, q3]) rfl (by omega)
       ·exact leaf false _ _ (by simp only [wrC, q0, q1, m, m1, n, q2, q3, cond_true, cond_false]) (by simp [wrT, q0, q1, m, m1, n, q2, q3]) rfl (by omega)
      ·refine c_t (by simp) (cond_intro (fun q2 => ?_) (fun q2 => cond_intro (fun q3 => ?_) (fun q3 => cond_intro (fun q4 => ?_) (fun q4 => ?_))))
       ·exact leaf false _ _ (by simp only [wrC, q0, q1, m, m1, m3, n, q2, cond_true, cond_false]) (by simp [wrT, q0, q1, m, m1, m3, n, q2]) rfl (by omega)
       ·exact leaf false _ _ (by simp only [wrC, q0, q1, m, m1, m3, n, q2, cond_true, cond_false]; rw [q3]; rfl) (by simp [wrT, q0, q1, m, m1, m3, n, q2]) rfl (by omega)
       ·exact leaf false _ _ (by simp only [wrC, q0, q1, m, m1, m3, n, q2, cond_true, cond_false]; rw [q3, q4]; rfl) (by simp [wrT, q0, q1, m, m1, m3, n, q2]) rfl (by omega)
       ·exact leaf false _ _ (by simp only [wrC, q0, q1, m, m1, m3, n, q2, cond_true, cond_false]; rw [q3, q4]; rfl) (by simp [wrT, q0, q1, m, m1, m3, n, q2]) rfl (by omega)
      ·have k0 := of_decide_eq_false m
       have k1 := of_decide_eq_false m1
       have k3 := of_decide_eq_false m3
       have k4 := of_decide_eq_false m4
       have k2' : r ≠ 2 := fun e => by rw [e] at q; cases q
       refine c_t (decide_eq_true (by omega)) ?_
       exact leaf false _ _ (by simp only [wrC, q0, q1, m, m1, m3, m4, cond_true, cond_false]) (by simp [wrT, q0, q1, m, m1, m3, m4]) rfl (by omega)
   ·have h := of_decide_eq_false h
    rw [hr.end (by omega), wrGo] at hf
    refine c_t (by rw [hr.good]; rfl) ?_
    rw [hr.rlb]
    exact hf.1 rfl rfl us at0 i
  | own od om oc =>
   rw [r64_0o]
   simp only [Bool.and_eq_true, decide_eq_true_eq] at hp
   obtain ⟨ho, hR, hO, hD, rfl, hp⟩ := hp
   have hr := rowIOK_iff.1 hR
   have ho := rowOK_iff.1 ho
   have hzl := zc_length ho
   simp only [Rw.z, hzl] at hp hf
   have e0 : 0 + i.toNat * 1 = i.toNat := by omega
   rw [e0]
   refine cond_intro (fun h => ?_) (fun h => ?_)
   ·have h := of_decide_eq_true h
    obtain ⟨a1, a3⟩ := hr.at hp.1 (by omega)
    have hro := roOK_at hO a3
    rw [a3, wrGo, bz_at hp.1 (by omega), List.headD_cons, List.tail_cons] at hf
    rw [a3] at hp
    have hc1 := @cdg_c (intAt d i.toNat) ((zc d k2).drop (i + 1).toNat)
    have hc2 := cdg_nn ((zc d k2).drop (i + 1).toNat)
    rw [a1, w64 (n := i + 1) (by omega), w64 (n := (s.size : Int) - 2) (by omega)]
    have eu : IntKind.wrap .i64 (IntKind.wrap .i64 (us + 1) - 1) = us := by rw [w64 (n := us + 1) (by omega), w64 (by omega)]; omega
    rw [eu]
    generalize intAt d i.toNat = r at *
    generalize byteAt s i.toNat = c at *
    have er : ((0 + r.toNat * 1 : Nat) : Int) = r := by omega
    rw [er]
    refine c_t (decide_eq_true (by omega)) (c_t rfl (c_t (decide_eq_true (by omega)) (cond_intro (fun q => ?_) (fun q => ?_))))
    ·rw [q, cond_true] at hf
     refine c_t (by rw [hr.good, ho.good]; rfl) ?_
     rw [hr.rlb, ho.rlb]
     exact ⟨(m2, r6, r7, .own od om oc, k2, cap2, L, i + 1, s, nb, w, dg, sc, sg, k, cap, dr, f, cr, fl, fm, nu, m2, us, at0, ld, d), rfl, rfl, by simp only [S64_0, Bool.and_eq_true, decide_eq_true_eq]; exact ⟨rowOK_iff.2 ho, hR, hO, hD, trivial, by simp only [Rw.z, hzl]; omega⟩, by simp only; omega, hf⟩
    ·rw [q, cond_false] at hf
     have leaf : ∀ (b : Bool) (N : Nat) (X : Int) {U : Int}, wrC f cr s.size m2 ld fl r c (List.headD (List.drop us.toNat (bz nu)) 0) i at0 = X → wrT f cr s.size r i = b → (bif b then (List.drop us.toNat (bz nu)).tail else List.drop us.toNat (bz nu)) = List.drop U.toNat (bz nu) → (U + cdg ((zc d k2).drop (i + 1).toNat) ≤ nu.size ∧ 0 ≤ U ∧ U ≤ i + 1) → e64 m2 r6 r7 k2 cap2 L i s nb w dg sc sg k cap dr f cr fl fm nu m2 us at0 ld d (List.take (om * 1) od) (om + 1) N X U (S64_0.step V64_0 B64_0 (fun (m2, r6, r7, o, k2, cap2, L, i, s, nb, w, dg, sc, sg, k, cap, dr, f, cr, fl, fm, nu, mi, us, at0, ld, d) => (k2 - i).toNat) (m2, r6, r7, .own od om oc, k2, cap2, L, i, s, nb, w, dg, sc, sg, k, cap, dr, f, cr, fl, fm, nu, m2, us, at0, ld, d) Z) := by
      intro b N X U e eT eD hU
      rw [e, eT, eD] at hf
      intro cap1 tail ht
      obtain ⟨h1, h2⟩ := ho.app1 X ht
      have hl1 := zc_length h1
      rw [w64 (n := i + 1) (by omega), w64 (n := at0 + 1) (by omega)]
      generalize List.take (om * 1) od ++ [Value.int IntKind.u8 X] ++ tail = od' at *
      refine c_t (by rw [hr.good, h1.good]; rfl) ?_
      rw [hr.rlb, h1.rlb]
      exact ⟨(m2, r6, r7, .own od' (om + 1) cap1, k2, cap2, L, i + 1, s, nb, w, dg, sc, sg, k, cap, dr, f, cr, fl, fm, nu, m2, U, at0 + 1, ld, d), rfl, rfl, by simp only [S64_0, Bool.and_eq_true, decide_eq_true_eq]; exact ⟨rowOK_iff.2 h1, hR, hO, hD, trivial, by simp only [Rw.z, hl1]; omega⟩, by simp only; omega, ⟨fun q => (by cases q), fun us' at' i' od'' om'' oc'' g1 g2 => hf.2 us' at' i' od'' om'' oc'' g1 (by rw [g2]; simp only [Rw.z, h2, List.append_assoc, List.cons_append, List.nil_append])⟩⟩
     refine cond_intro (fun q0 => ?_) (fun q0 => c_t (by simp) (cond_intro (fun q1 => cond_intro (fun q2 => ?_) (fun q2 => ?_)) (fun q1 => c_t (decide_eq_true hro) ?_)))
     ·refine c_t (ho.ask (k := 1) (by omega)) ?_
      exact leaf false _ _ (by simp only [wrC, q0, cond_true, cond_false]) (by simp [wrT, q0]) rfl (by omega)
     ·refine c_t (ho.ask (k := 1) (by omega)) ?_
      exact leaf false _ _ (by simp only [wrC, q0, q1, q2, cond_true, cond_false]) (by simp [wrT, q0, q1, q2]) rfl (by omega)
     ·refine c_t (ho.ask (k := 1) (by omega)) ?_
      exact leaf false _ _ (by simp only [wrC, q0, q1, q2, cond_true, cond_false]) (by simp [wrT, q0, q1, q2]) rfl (by omega)
     ·refine cond_intro (fun n => ?_) (fun m => cond_intro (fun n => ?_) (fun m1 => cond_intro (fun n => ?_) (fun m2' => cond_intro (fun n => ?_) (fun m3 => cond_intro (fun n => ?_) (fun m4 => ?_)))))
      ·have n0 := of_decide_eq_true n
       have hc3 := @cdg_1 r ((zc d k2).drop (i + 1).toNat) (by omega)
       have hd := dgb_at hD hp.2.2.2.2.2.2.1 (by omega)
       have ed := bz_at hp.2.2.2.2.2.2.1 (s := nu) (by omega)
       have ed' : List.headD (List.drop us.toNat (bz nu)) 0 = byteAt nu us.toNat := by rw [ed]; rfl
       rw [w8 (n := byteAt nu us.toNat - 48) (by omega), w64 (n := byteAt nu us.toNat - 48) (by omega)]
       generalize byteAt nu us.toNat = dd at *
       refine c_t (decide_eq_true (by omega)) (c_t (by simp) (cond_intro (fun q2 => ?_) (fun q2 => c_t (by cases c == 84 <;> cases c == 73 <;> simp) (cond_intro (fun q3 => ?_) (fun q3 => ?_)))))
       ·refine c_t (ho.ask (k := 1) (by omega)) ?_
        rw [w64 (n := us + 1) (by omega)]
        exact leaf true _ _ (by simp only [wrC, q0, q1, n, ed', cond_true, cond_false]; exact fm_a q2) (by simp [wrT, q0, q1, n, ed']) (by rw [cond_true, ed, List.tail_cons]) (by omega)
       ·refine c_t (ho.ask (k := 1) (by omega)) ?_
        rw [w64 (n := us + 1) (by omega)]
        exact leaf true _ _ (by simp only [wrC, q0, q1, n, ed', cond_true, cond_false]; exact fm_b q2 q3) (by simp [wrT, q0, q1, n, ed']) (by rw [cond_true, ed, List.tail_cons]) (by omega)
       ·refine c_t (ho.ask (k := 1) (by omega)) ?_
        rw [w64 (n := us + 1) (by omega)]
        exact leaf true _ _ (by simp only [wrC, q0, q1, n, ed', cond_true, cond_false]; exact fm_c q2 q3) (by simp [wrT, q0, q1, n, ed']) (by rw [cond_true, ed, List.tail_cons]) (by omega)
      ·have n0 := of_decide_eq_true n
       have hc3 := @cdg_1 r ((zc d k2).drop (i + 1).toNat) (by omega)
       have hd := dgb_at hD hp.2.2.2.2.2.2.1 (by omega)
       have ed := bz_at hp.2.2.2.2.2.2.1 (s := nu) (by omega)
       have ed' : List.headD (List.drop us.toNat (bz nu)) 0 = byteAt nu us.toNat := by rw [ed]; rfl
       generalize byteAt nu us.toNat = dd at *
       refine c_t (decide_eq_true (by omega)) (cond_intro (fun q2 => ?_) (fun q2 => ?_))
       ·refine c_t (ho.ask (k := 1) (by omega)) ?_
        rw [w64 (n := us + 1) (by omega)]
        exact leaf true _ _ (by simp only [wrC, q0, q1, m, n, q2, ed', cond_true, cond_false]) (by simp [wrT, q0, q1, m, n, q2, ed']) (by rw [cond_true, ed, List.tail_cons]) (by omega)
       ·refine c_t (ho.ask (k := 1) (by omega)) ?_
        rw [w64 (n := us + 1) (by omega)]
        exact leaf true _ _ (by simp only [wrC, q0, q1, m, n, q2, ed', cond_true, cond_false]) (by simp [wrT, q0, q1, m, n, q2, ed']) (by rw [cond_true, ed, List.tail_cons]) (by omega)
      ·have n := of_decide_eq_true n
       rw [n] at q
       cases q
      ·refine cond_intro (fun q2 => ?_) (fun q2 => cond_intro (fun q3 => ?_) (fun q3 => ?_))
       ·refine c_t (ho.ask (k := 1) (by omega)) ?_
        exact leaf false _ _ (by simp only [wrC, q0, q1, m, m1, n, q2, cond_true, cond_false]) (by simp [wrT, q0, q1, m, m1, n, q2]) rfl (by omega)
       ·refine c_t (ho.ask (k := 1) (by omega)) ?_
        exact leaf false _ _ (by simp only [wrC, q0, q1, m, m1, n, q2, q3, cond_true, cond_false]) (by simp [wrT, q0, q1, m, m1, n, q2, q3]) rfl (by omega)
       ·refine c_t (ho.ask (k := 1) (by omega)) ?_
        exact leaf false _ _ (by simp only [wrC, q0, q1, m, m1, n, q2, q3, cond_true, cond_false]) (by simp [wrT, q0, q1, m, m1, n, q2, q3]) rfl (by omega)
      ·refine c_t (by simp) (cond_intro (fun q2 => ?_) (fun q2 => cond_intro (fun q3 => ?_) (fun q3 => cond_intro (fun q4 => ?_) (fun q4 => ?_))))
       ·refine c_t (ho.ask (k := 1) (by omega)) ?_
        exact leaf false _ _ (by simp only [wrC, q0, q1, m, m1, m3, n, q2, cond_true, cond_false]) (by simp [wrT, q0, q1, m, m1, m3, n, q2]) rfl (by omega)
       ·refine c_t (ho.ask (k := 1) (by omega)) ?_
        exact leaf false _ _ (by simp only [wrC, q0, q1, m, m1, m3, n, q2, cond_true, cond_false]; rw [q3]; rfl) (by simp [wrT, q0, q1, m, m1, m3, n, q2]) rfl (by omega)
       ·refine c_t (ho.ask (k := 1) (by omega)) ?_
        exact leaf false _ _ (by simp only [wrC, q0, q1, m, m1, m3, n, q2, cond_true, cond_false]; rw [q3, q4]; rfl) (by simp [wrT, q0, q1, m, m1, m3, n, q2]) rfl (by omega)
       ·refine c_t (ho.ask (k := 1) (by omega)) ?_
        exact leaf false _ _ (by simp only [wrC, q0, q1, m, m1, m3, n, q2, cond_true, cond_false]; rw [q3, q4]; rfl) (by simp [wrT, q0, q1, m, m1, m3, n, q2]) rfl (by omega)
      ·have k0 := of_decide_eq_false m
       have k1 := of_decide_eq_false m1
       have k3 := of_decide_eq_false m3
       have k4 := of_decide_eq_false m4
       have k2' : r ≠ 2 := fun e => by rw [e] at q; cases q
       refine c_t (decide_eq_true (by omega)) ?_
       refine c_t (ho.ask (k := 1) (by omega)) ?_
       exact leaf false _ _ (by simp only [wrC, q0, q1, m, m1, m3, m4, cond_true, cond_false]) (by simp [wrT, q0, q1, m, m1, m3, m4]) rfl (by omega)
   ·have h := of_decide_eq_false h
    rw [hr.end (by omega), wrGo] at hf
    refine c_t (by rw [hr.good, ho.good]; rfl) ?_
    rw [hr.rlb, ho.rlb]
    exact hf.2 us at0 i od om oc (rowOK_iff.2 ho) (by simp)
def vwN (p : List Value) : Lk := fun j => match Nat.beq j 0 with | true => some ⟨p, 255, false⟩ | false => none
theorem sub_N {m : Lk} {a x : Nat} {nu : ByteArray} {mi : Bool} {us at0 ld : Int} {own : Bool} (hp : m a = some ⟨pnL x nu mi us at0 ld, 255, own⟩) : SubM m (rho2 a x) (vwN (pnL 1 nu mi us at0 ld)) 2 := by
 have hget : ∀ j b, vwN (pnL 1 nu mi us at0 ld) j = some b → j = 0 ∧ b = ⟨pnL 1 nu mi us at0 ld, 255, false⟩ := fun j b h => by
  simp only [vwN] at h
  split at h
  ·rename_i h0; cases h; exact ⟨Nat.eq_of_beq_eq_true h0, rfl⟩
  ·cases h
 refine ⟨fun j b h => ?_, fun j b h => ?_⟩
 ·obtain ⟨rfl, rfl⟩ := hget j b h
  refine ⟨by omega, fun i hi => ?_⟩
  have : i = 1 := by simpa [pnL, idsL, ids] using hi
  omega
 ·obtain ⟨rfl, rfl⟩ := hget j b h
  refine ⟨rfl, ⟨pnL x nu mi us at0 ld, 255, own⟩, ?_, fun ι => ?_⟩
  ·show noIt (m a) = _
   rw [hp]
   simp only [noIt]
   have : (own && Nat.beq 255 itTy) = false := by cases own <;> rfl
   rw [this]
  ·simp [pnL, ren, ren1, rho2]
def sgC (c : Int) (m : Bool) : Int := bif c == 83 && m then 45 else bif c == 83 then 43 else bif (c == 43) == m then 32 else c
theorem v94 (nu : ByteArray) (mi : Bool) (us : Int) (at0 : Int) (ld : Int) (c : Int) (R : Value → Prop) : (bodyQ Tryz.prog G33 noL Tryz.f255 [.pointer (some ⟨0, 0, some 0⟩), .int .u8 c] (vwN (pnL 1 nu mi us at0 ld)) 2 (fun v _ _ => R v)) = ( bif c == 83 || true then bif c == 83 && mi then R (.int .u8 45) else bif c == 83 then R (.int .u8 43) else bif (c == 43) == mi then R (.int .u8 32) else R (.int .u8 c) else False) := by kernel_rfl
def h94 : List Value → Lk → Nat → (Value → Lk → Nat → Prop) → Prop := fun args m n K => match args with
 | [.pointer (some ⟨a, 0, some 0⟩), .int .u8 c] => match m a with
  | some ⟨[.pointer (some ⟨x, 0, some 0⟩), .string nu, .bool mi, .int .i64 us, .int .i64 at0, .int .i64 ld], 255, own⟩ => ∀ e, sgC c mi = e → K (.int .u8 e) m n
  | _ => False
 | _ => False
def h90h : List Value → Lk → Nat → (Value → Lk → Nat → Prop) → Prop := fun args m n K => h90 args m n fun v m' n' => match v with
 | .int .i64 x => ∀ e, x = e → K (.int .i64 e) m' n'
 | _ => False
def G36 : Env := ((((((Env.nil.add 30 (sp2 s78)).addG 252 (inlQ Tryz.prog G34 noL Tryz.f252)).addG 253 (inlQ Tryz.prog G34 noL Tryz.f253)).addG 254 (inlQ Tryz.prog G34 noL Tryz.f254)).addG 256 (inlQ Tryz.prog G34 noL Tryz.f256)).addG 251 h90h).addG 255 h94
theorem w94 (nu : ByteArray) (mi : Bool) (us at0 ld c : Int) {R : Value → Prop} (h : R (.int .u8 (sgC c mi))) : DoesM Tryz.prog G33 noL Tryz.f255 [.pointer (some ⟨0, 0, some 0⟩), .int .u8 c] (vwN (pnL 1 nu mi us at0 ld)) 2 (fun v _ _ => R v) := by
 rw [DoesM, v94]
 rw [sgC] at h
 refine c_t (by simp) (cond_intro (fun q => ?_) (fun q => cond_intro (fun q2 => ?_) (fun q2 => cond_intro (fun q3 => ?_) (fun q3 => ?_))))
 ·rw [q] at h; exact h
 ·rw [q, q2] at h; exact h
 ·rw [q, q2, q3] at h; exact h
 ·rw [q, q2, q3] at h; exact h
theorem h94_ok : GenOK Tryz.prog 255 h94 := by
 refine gen_sub ok_G33 hmix fn94 lokf_none fun args m n K h => ?_
 unfold h94 at h
 split at h
 case h_2 => exact h.elim
 rename_i a c
 split at h
 case h_2 => exact h.elim
 rename_i x nu mi us at0 ld own hm
 refine ⟨[.pointer (some ⟨0, 0, some 0⟩), .int .u8 c], _, 2, rho2 a x, .int .u8 (sgC c mi), sub_N hm, fun ι => by simp [ren, ren1, rho2], Nat.le_of_ble_eq_true (by kernel_rfl), fun v hv j hj => ?_, rfl, w94 nu mi us at0 ld c (R := fun v => v = .int .u8 (sgC c mi)) rfl, h _ rfl⟩
 simp at hv
 rcases hv with rfl | rfl
 ·have : j = 0 := by simpa [ids] using hj
  omega
 ·simp [ids] at hj
theorem gen_imp {P : Program} {f : FuncId} {h h' : List Value → Lk → Nat → (Value → Lk → Nat → Prop) → Prop} (hh : ∀ args m n K, h' args m n K → h args m n K) (hg : GenOK P f h) : GenOK P f h' :=
 ⟨hg.1, fun args m n K hk => hg.2 args m n K (hh args m n K hk)⟩
theorem h90h_ok : GenOK Tryz.prog 251 h90h := by
 refine gen_imp (fun args m n K h => ?_) h90_ok
 unfold h90h h90 at h
 unfold h90
 split at h
 case h_2 => exact h.elim
 split at h
 case h_2 => exact h.elim
 split at h
 case h_2 => exact h.elim
 split at h
 case h_2 => exact h.elim
 split at h
 case h_2 => exact h.elim
 rename_i hm _ _ _ _ _ _ _ _ _ _ _ _ _ _ _ _ _ hx _ _ hy hc
 simp only [*]
theorem ok_G36 : EnvOK Tryz.prog G36 := env_addG (env_addG (env_addG (env_addG (env_addG (env_addG (env_add env_nil ok78) (gen_inlQ ok_G34 hmix fn91 lokf_none)) (gen_inlQ ok_G34 hmix fn92 lokf_none)) (gen_inlQ ok_G34 hmix fn93 lokf_none)) (gen_inlQ ok_G34 hmix fn95 lokf_none)) h90h_ok) h94_ok
theorem lok64 : LOKf Tryz.prog (oneL 0 S64_0.hA) Tryz.f207 := l64_0
theorem v64 (s : ByteArray) (nb : Bool) (w : Int) (dg : Int) (sc : Int) (sg : Bool) (k : Nat) (cap : Nat) (dr : Int) (f : Int) (cr : Bool) (fl : Int) (fm : Int) (nu : ByteArray) (mi : Bool) (d : List Value) (R : Value → Prop) : (bodyQ Tryz.prog G36 (oneL 0 S64_0.hA) Tryz.f207 [.pointer (some ⟨0, 0, some 0⟩), S nu, B mi] (vwF2 (fmL s nb w dg sc sg 1 k cap dr f cr fl fm) d) 2 (fun v _ _ => R v)) = ( bif rowIOK d k cap && decide (k ≤ 1000 ∧ ByteArray.size nu ≤ 1000 ∧ cn1 (zc d k) ≤ (↑(ByteArray.size nu) : Int)) then ∀ (e : Int), enV (bz nu) fm (zc d k) = e → bif decide (e < 0) then bif decide (0 ≤ w ∧ w ≤ 1000 ∧ ByteArray.size (Utf8.encode fl) ≤ 1000) then R (.tuple (.mk [S (sz (repZ (bz (Utf8.encode fl)) (Int.toNat w))), I w])) else False else bif goodL [] d && true && true && (idsLt 210 (rlbL [] d) && true) then bif LSpec.pre (LSpecA.toLSpec S64_0) (mi, ByteArray.mk #[], 0, Rw.nil, k, cap, natO k, 0, s, nb, w, dg, sc, sg, k, cap, dr, f, cr, fl, fm, nu, mi, 0, 0, e, rlbL [] d) then (Rw.is Rw.nil = false → wrGo f cr (↑(ByteArray.size s) : Int) mi e fl (List.drop (Int.toNat 0) (zc (rlbL [] d) k)) (List.drop (Int.toNat 0) (bz s)) (List.drop (Int.toNat 0) (bz nu)) 0 0 = [] → ∀ (us' at' i' : Int), bif idsLt 210 (rlbL [] d) && true then ∀ (x : Tmps), bif dr == 36 || true then bif dr == 36 && decide (e > 0) then False else bif dr != 0 || true then bif dr != 0 && decide (e > 0) then ((((((∀ (e : Int), sgC dr mi = e → False) ∧ ∀ (e : Int), sgC dr mi = e → False) ∧ ∀ (e : Int), sgC dr mi = e → False) ∧ ∀ (e : Int), sgC dr mi = e → False) ∧ ∀ (e : Int), sgC dr mi = e → False) ∧ ∀ (e : Int), sgC dr mi = e → False) ∧ ((((((∀ (e : Int), sgC dr mi = e → False) ∧ ∀ (e : Int), sgC dr mi = e → False) ∧ ∀ (e : Int), sgC dr mi = e → False) ∧ ∀ (e : Int), sgC dr mi = e → False) ∧ ∀ (e : Int), sgC dr mi = e → False) ∧ (((((∀ (e : Int), sgC dr mi = e → False) ∧ ∀ (e : Int), sgC dr mi = e → False) ∧ ∀ (e : Int), sgC dr mi = e → False) ∧ ∀ (e : Int), sgC dr mi = e → False) ∧ ((((∀ (e : Int), sgC dr mi = e → False) ∧ ∀ (e : Int), sgC dr mi = e → False) ∧ ∀ (e : Int), sgC dr mi = e → False) ∧ (((∀ (e : Int), sgC dr mi = e → False) ∧ ∀ (e : Int), sgC dr mi = e → False) ∧ ((∀ (e : Int), sgC dr mi = e → False) ∧ ∀ (e : Int), sgC dr mi = e → False) ∧ ∀ (e : Int), sgC dr mi = e → False) ∧ ∀ (e : Int), sgC dr mi = e → False) ∧ ∀ (e : Int), sgC dr mi = e → False) ∧ ∀ (e : Int), sgC dr mi = e → False) ∧ ∀ (e : Int), sgC dr mi = e → False else R (.tuple (.mk [S ByteArray.empty, I e])) else False else False else False) ∧ ∀ (us' at' i' : Int) (od' : List Value) (om' oc' : Nat), rowOK od' om' oc' = true → zc od' om' = Rw.z Rw.nil ++ wrGo f cr (↑(ByteArray.size s) : Int) mi e fl (List.drop (Int.toNat 0) (zc (rlbL [] d) k)) (List.drop (Int.toNat 0) (bz s)) (List.drop (Int.toNat 0) (bz nu)) 0 0 → bif idsLt 210 (rlbL [] d) && (idsLt 210 od' && true) then ∀ (x : Tmps), bif dr == 36 || true then bif dr == 36 && decide (e > 0) then bif decide (0 ≤ IntKind.wrap .i64 (e - 1) ∧ IntKind.wrap .i64 (e - 1) < (↑om' : Int)) then bif Nat.ble (0 + Int.toNat (IntKind.wrap .i64 (e - 1)) * 1 + 1) (List.length od') then bif bytesOK (setL od' (0 + Int.toNat (IntKind.wrap .i64 (e - 1)) * 1) [.int .u8 36]) 0 om' then R (.tuple (.mk [S (bytesOf (setL od' (0 + Int.toNat (IntKind.wrap .i64 (e - 1)) * 1) [.int .u8 36]) 0 om'), I e])) else False else False else False else bif dr != 0 || true then bif dr != 0 && decide (e > 0) then ((((((∀ (e_1 : Int), sgC dr mi = e_1 → bif decide (0 ≤ IntKind.wrap .i64 (e - 1) ∧ IntKind.wrap .i64 (e - 1) < (↑om' : Int)) then bif Nat.ble (0 + Int.toNat (IntKind.wrap .i64 (e - 1)) * 1 + 1) (List.length od') then bif bytesOK (setL od' (0 + Int.toNat (IntKind.wrap .i64 (e - 1)) * 1) [.int .u8 e_1]) 0 om' then R (.tuple (.mk [S (bytesOf (setL od' (0 + Int.toNat (IntKind.wrap .i64 (e - 1)) * 1) [.int .u8 e_1]) 0 om'), I e])) else False else False else False) ∧ ∀ (e_1 : Int), sgC dr mi = e_1 → bif decide (0 ≤ IntKind.wrap .i64 (e - 1) ∧ IntKind.wrap .i64 (e - 1) < (↑om' : Int)) then bif Nat.ble (0 + Int.toNat (IntKind.wrap .i64 (e - 1)) * 1 + 1) (List.length od') then bif bytesOK (setL od' (0 + Int.toNat (IntKind.wrap .i64 (e - 1)) * 1) [.int .u8 e_1]) 0 om' then R (.tuple (.mk [S (bytesOf (setL od' (0 + Int.toNat (IntKind.wrap .i64 (e - 1)) * 1) [.int .u8 e_1]) 0 om'), I e])) else False else False else False) ∧ ∀ (e_1 : Int), sgC dr mi = e_1 → bif decide (0 ≤ IntKind.wrap .i64 (e - 1) ∧ IntKind.wrap .i64 (e - 1) < (↑om' : Int)) then bif Nat.ble (0 + Int.toNat (IntKind.wrap .i64 (e - 1)) * 1 + 1) (List.length od') then bif bytesOK (setL od' (0 + Int.toNat (IntKind.wrap .i64 (e - 1)) * 1) [.int .u8 e_1]) 0 om' then R (.tuple (.mk [S (bytesOf (setL od' (0 + Int.toNat (IntKind.wrap .i64 (e - 1)) * 1) [.int .u8 e_1]) 0 om'), I e])) else False else False else False) ∧ ∀ (e_1 : Int), sgC dr mi = e_1 → bif decide (0 ≤ IntKind.wrap .i64 (e - 1) ∧ IntKind.wrap .i64 (e - 1) < (↑om' : Int)) then bif Nat.ble (0 + Int.toNat (IntKind.wrap .i64 (e - 1)) * 1 + 1) (List.length od') then bif bytesOK (setL od' (0 + Int.toNat (IntKind.wrap .i64 (e - 1)) * 1) [.int .u8 e_1]) 0 om' then R (.tuple (.mk [S (bytesOf (setL od' (0 + Int.toNat (IntKind.wrap .i64 (e - 1)) * 1) [.int .u8 e_1]) 0 om'), I e])) else False else False else False) ∧ ∀ (e_1 : Int), sgC dr mi = e_1 → bif decide (0 ≤ IntKind.wrap .i64 (e - 1) ∧ IntKind.wrap .i64 (e - 1) < (↑om' : Int)) then bif Nat.ble (0 + Int.toNat (IntKind.wrap .i64 (e - 1)) * 1 + 1) (List.length od') then bif bytesOK (setL od' (0 + Int.toNat (IntKind.wrap .i64 (e - 1)) * 1) [.int .u8 e_1]) 0 om' then R (.tuple (.mk [S (bytesOf (setL od' (0 + Int.toNat (IntKind.wrap .i64 (e - 1)) * 1) [.int .u8 e_1]) 0 om'), I e])) else False else False else False) ∧ ∀ (e_1 : Int), sgC dr mi = e_1 → bif decide (0 ≤ IntKind.wrap .i64 (e - 1) ∧ IntKind.wrap .i64 (e - 1) < (↑om' : Int)) then bif Nat.ble (0 + Int.toNat (IntKind.wrap .i64 (e - 1)) * 1 + 1) (List.length od') then bif bytesOK (setL od' (0 + Int.toNat (IntKind.wrap .i64 (e - 1)) * 1) [.int .u8 e_1]) 0 om' then R (.tuple (.mk [S (bytesOf (setL od' (0 + Int.toNat (IntKind.wrap .i64 (e - 1)) * 1) [.int .u8 e_1]) 0 om'), I e])) else False else False else False) ∧ ((((((∀ (e_1 : Int), sgC dr mi = e_1 → bif decide (0 ≤ IntKind.wrap .i64 (e - 1) ∧ IntKind.wrap .i64 (e - 1) < (↑om' : Int)) then bif Nat.ble (0 + Int.toNat (IntKind.wrap .i64 (e - 1)) * 1 + 1) (List.length od') then bif bytesOK (setL od' (0 + Int.toNat (IntKind.wrap .i64 (e - 1)) * 1) [.int .u8 e_1]) 0 om' then R (.tuple (.mk [S (bytesOf (setL od' (0 + Int.toNat (IntKind.wrap .i64 (e - 1)) * 1) [.int .u8 e_1]) 0 om'), I e])) else False else False else False) ∧ ∀ (e_1 : Int), sgC dr mi = e_1 → bif decide (0 ≤ IntKind.wrap .i64 (e - 1) ∧ IntKind.wrap .i64 (e - 1) < (↑om' : Int)) then bif Nat.ble (0 + Int.toNat (IntKind.wrap .i64 (e - 1)) * 1 + 1) (List.length od') then bif bytesOK (setL od' (0 + Int.toNat (IntKind.wrap .i64 (e - 1)) * 1) [.int .u8 e_1]) 0 om' then R (.tuple (.mk [S (bytesOf (setL od' (0 + Int.toNat (IntKind.wrap .i64 (e - 1)) * 1) [.int .u8 e_1]) 0 om'), I e])) else False else False else False) ∧ ∀ (e_1 : Int), sgC dr mi = e_1 → bif decide (0 ≤ IntKind.wrap .i64 (e - 1) ∧ IntKind.wrap .i64 (e - 1) < (↑om' : Int)) then bif Nat.ble (0 + Int.toNat (IntKind.wrap .i64 (e - 1)) * 1 + 1) (List.length od') then bif bytesOK (setL od' (0 + Int.toNat (IntKind.wrap .i64 (e - 1)) * 1) [.int .u8 e_1]) 0 om' then R (.tuple (.mk [S (bytesOf (setL od' (0 + Int.toNat (IntKind.wrap .i64 (e - 1)) * 1) [.int .u8 e_1]) 0 om'), I e])) else False else False else False) ∧ ∀ (e_1 : Int), sgC dr mi = e_1 → bif decide (0 ≤ IntKind.wrap .i64 (e - 1) ∧ IntKind.wrap .i64 (e - 1) < (↑om' : Int)) then bif Nat.ble (0 + Int.toNat (IntKind.wrap .i64 (e - 1)) * 1 + 1) (List.length od') then bif bytesOK (setL od' (0 + Int.toNat (IntKind.wrap .i64 (e - 1)) * 1) [.int .u8 e_1]) 0 om' then R (.tuple (.mk [S (bytesOf (setL od' (0 + Int.toNat (IntKind.wrap .i64 (e - 1)) * 1) [.int .u8 e_1]) 0 om'), I e])) else False else False else False) ∧ ∀ (e_1 : Int), sgC dr mi = e_1 → bif decide (0 ≤ IntKind.wrap .i64 (e - 1) ∧ IntKind.wrap .i64 (e - 1) < (↑om' : Int)) then bif Nat.ble (0 + Int.toNat (IntKind.wrap .i64 (e - 1)) * 1 + 1) (List.length od') then bif bytesOK (setL od' (0 + Int.toNat (IntKind.wrap .i64 (e - 1)) * 1) [.int .u8 e_1]) 0 om' then R (.tuple (.mk [S (bytesOf (setL od' (0 + Int.toNat (IntKind.wrap .i64 (e - 1)) * 1) [.int .u8 e_1]) 0 om'), I e])) else False else False else False) ∧ (((((∀ (e_1 : Int), sgC dr mi = e_1 → bif decide (0 ≤ IntKind.wrap .i64 (e - 1) ∧ IntKind.wrap .i64 (e - 1) < (↑om' : Int)) then bif Nat.ble (0 + Int.toNat (IntKind.wrap .i64 (e - 1)) * 1 + 1) (List.length od') then bif bytesOK (setL od' (0 + Int.toNat (IntKind.wrap .i64 (e - 1)) * 1) [.int .u8 e_1]) 0 om' then R (.tuple (.mk [S (bytesOf (setL od' (0 + Int.toNat (IntKind.wrap .i64 (e - 1)) * 1) [.int .u8 e_1]) 0 om'), I e])) else False else False else False) ∧ ∀ (e_1 : Int), sgC dr mi = e_1 → bif decide (0 ≤ IntKind.wrap .i64 (e - 1) ∧ IntKind.wrap .i64 (e - 1) < (↑om' : Int)) then bif Nat.ble (0 + Int.toNat (IntKind.wrap .i64 (e - 1)) * 1 + 1) (List.length od') then bif bytesOK (setL od' (0 + Int.toNat (IntKind.wrap .i64 (e - 1)) * 1) [.int .u8 e_1]) 0 om' then R (.tuple (.mk [S (bytesOf (setL od' (0 + Int.toNat (IntKind.wrap .i64 (e - 1)) * 1) [.int .u8 e_1]) 0 om'), I e])) else False else False else False) ∧ ∀ (e_1 : Int), sgC dr mi = e_1 → bif decide (0 ≤ IntKind.wrap .i64 (e - 1) ∧ IntKind.wrap .i64 (e - 1) < (↑om' : Int)) then bif Nat.ble (0 + Int.toNat (IntKind.wrap .i64 (e - 1)) * 1 + 1) (List.length od') then bif bytesOK (setL od' (0 + Int.toNat (IntKind.wrap .i64 (e - 1)) * 1) [.int .u8 e_1]) 0 om' then R (.tuple (.mk [S (bytesOf (setL od' (0 + Int.toNat (IntKind.wrap .i64 (e - 1)) * 1) [.int .u8 e_1]) 0 om'), I e])) else False else False else False) ∧ ∀ (e_1 : Int), sgC dr mi = e_1 → bif decide (0 ≤ IntKind.wrap .i64 (e - 1) ∧ IntKind.wrap .i64 (e - 1) < (↑om' : Int)) then bif Nat.ble (0 + Int.toNat (IntKind.wrap .i64 (e - 1)) * 1 + 1) (List.length od') then bif bytesOK (setL od' (0 + Int.toNat (IntKind.wrap .i64 (e - 1)) * 1) [.int .u8 e_1]) 0 om' then R (.tuple (.mk [S (bytesOf (setL od' (0 + Int.toNat (IntKind.wrap .i64 (e - 1)) * 1) [.int .u8 e_1]) 0 om'), I e])) else False else False else False) ∧ ((((∀ (e_1 : Int), sgC dr mi = e_1 → bif decide (0 ≤ IntKind.wrap .i64 (e - 1) ∧ IntKind.wrap .i64 (e - 1) < (↑om' : Int)) then bif Nat.ble (0 + Int.toNat (IntKind.wrap .i64 (e - 1)) * 1 + 1) (List.length od') then bif bytesOK (setL od' (0 + Int.toNat (IntKind.wrap .i64 (e - 1)) * 1) [.int .u8 e_1]) 0 om' then R (.tuple (.mk [S (bytesOf (setL od' (0 + Int.toNat (IntKind.wrap .i64 (e - 1)) * 1) [.int .u8 e_1]) 0 om'), I e])) else False else False else False) ∧ ∀ (e_1 : Int), sgC dr mi = e_1 → bif decide (0 ≤ IntKind.wrap .i64 (e - 1) ∧ IntKind.wrap .i64 (e - 1) < (↑om' : Int)) then bif Nat.ble (0 + Int.toNat (IntKind.wrap .i64 (e - 1)) * 1 + 1) (List.length od') then bif bytesOK (setL od' (0 + Int.toNat (IntKind.wrap .i64 (e - 1)) * 1) [.int .u8 e_1]) 0 om' then R (.tuple (.mk [S (bytesOf (setL od' (0 + Int.toNat (IntKind.wrap .i64 (e - 1)) * 1) [.int .u8 e_1]) 0 om'), I e])) else False else False else False) ∧ ∀ (e_1 : Int), sgC dr mi = e_1 → bif decide (0 ≤ IntKind.wrap .i64 (e - 1) ∧ IntKind.wrap .i64 (e - 1) < (↑om' : Int)) then bif Nat.ble (0 + Int.toNat (IntKind.wrap .i64 (e - 1)) * 1 + 1) (List.length od') then bif bytesOK (setL od' (0 + Int.toNat (IntKind.wrap .i64 (e - 1)) * 1) [.int .u8 e_1]) 0 om' then R (.tuple (.mk [S (bytesOf (setL od' (0 + Int.toNat (IntKind.wrap .i64 (e - 1)) * 1) [.int .u8 e_1]) 0 om'), I e])) else False else False else False) ∧ (((∀ (e_1 : Int), sgC dr mi = e_1 → bif decide (0 ≤ IntKind.wrap .i64 (e - 1) ∧ IntKind.wrap .i64 (e - 1) < (↑om' : Int)) then bif Nat.ble (0 + Int.toNat (IntKind.wrap .i64 (e - 1)) * 1 + 1) (List.length od') then bif bytesOK (setL od' (0 + Int.toNat (IntKind.wrap .i64 (e - 1)) * 1) [.int .u8 e_1]) 0 om' then R (.tuple (.mk [S (bytesOf (setL od' (0 + Int.toNat (IntKind.wrap .i64 (e - 1)) * 1) [.int .u8 e_1]) 0 om'), I e])) else False else False else False) ∧ ∀ (e_1 : Int), sgC dr mi = e_1 → bif decide (0 ≤ IntKind.wrap .i64 (e - 1) ∧ IntKind.wrap .i64 (e - 1) < (↑om' : Int)) then bif Nat.ble (0 + Int.toNat (IntKind.wrap .i64 (e - 1)) * 1 + 1) (List.length od') then bif bytesOK (setL od' (0 + Int.toNat (IntKind.wrap .i64 (e - 1)) * 1) [.int .u8 e_1]) 0 om' then R (.tuple (.mk [S (bytesOf (setL od' (0 + Int.toNat (IntKind.wrap .i64 (e - 1)) * 1) [.int .u8 e_1]) 0 om'), I e])) else False else False else False) ∧ ((∀ (e_1 : Int), sgC dr mi = e_1 → bif decide (0 ≤ IntKind.wrap .i64 (e - 1) ∧ IntKind.wrap .i64 (e - 1) < (↑om' : Int)) then bif Nat.ble (0 + Int.toNat (IntKind.wrap .i64 (e - 1)) * 1 + 1) (List.length od') then bif bytesOK (setL od' (0 + Int.toNat (IntKind.wrap .i64 (e - 1)) * 1) [.int .u8 e_1]) 0 om' then R (.tuple (.mk [S (bytesOf (setL od' (0 + Int.toNat (IntKind.wrap .i64 (e - 1)) * 1) [.int .u8 e_1]) 0 om'), I e])) else False else False else False) ∧ ∀ (e_1 : Int), sgC dr mi = e_1 → bif decide (0 ≤ IntKind.wrap .i64 (e - 1) ∧ IntKind.wrap .i64 (e - 1) < (↑om' : Int)) then bif Nat.ble (0 + Int.toNat (IntKind.wrap .i64 (e - 1)) * 1 + 1) (List.length od') then bif bytesOK (setL od' (0 + Int.toNat (IntKind.wrap .i64 (e - 1)) * 1) [.int .u8 e_1]) 0 om' then R (.tuple (.mk [S (bytesOf (setL od' (0 + Int.toNat (IntKind.wrap .i64 (e - 1)) * 1) [.int .u8 e_1]) 0 om'), I e])) else False else False else False) ∧ ∀ (e_1 : Int), sgC dr mi = e_1 → bif decide (0 ≤ IntKind.wrap .i64 (e - 1) ∧ IntKind.wrap .i64 (e - 1) < (↑om' : Int)) then bif Nat.ble (0 + Int.toNat (IntKind.wrap .i64 (e - 1)) * 1 + 1) (List.length od') then bif bytesOK (setL od' (0 + Int.toNat (IntKind.wrap .i64 (e - 1)) * 1) [.int .u8 e_1]) 0 om' then R (.tuple (.mk [S (bytesOf (setL od' (0 + Int.toNat (IntKind.wrap .i64 (e - 1)) * 1) [.int .u8 e_1]) 0 om'), I e])) else False else False else False) ∧ ∀ (e_1 : Int), sgC dr mi = e_1 → bif decide (0 ≤ IntKind.wrap .i64 (e - 1) ∧ IntKind.wrap .i64 (e - 1) < (↑om' : Int)) then bif Nat.ble (0 + Int.toNat (IntKind.wrap .i64 (e - 1)) * 1 + 1) (List.length od') then bif bytesOK (setL od' (0 + Int.toNat (IntKind.wrap .i64 (e - 1)) * 1) [.int .u8 e_1]) 0 om' then R (.tuple (.mk [S (bytesOf (setL od' (0 + Int.toNat (IntKind.wrap .i64 (e - 1)) * 1) [.int .u8 e_1]) 0 om'), I e])) else False else False else False) ∧ ∀ (e_1 : Int), sgC dr mi = e_1 → bif decide (0 ≤ IntKind.wrap .i64 (e - 1) ∧ IntKind.wrap .i64 (e - 1) < (↑om' : Int)) then bif Nat.ble (0 + Int.toNat (IntKind.wrap .i64 (e - 1)) * 1 + 1) (List.length od') then bif bytesOK (setL od' (0 + Int.toNat (IntKind.wrap .i64 (e - 1)) * 1) [.int .u8 e_1]) 0 om' then R (.tuple (.mk [S (bytesOf (setL od' (0 + Int.toNat (IntKind.wrap .i64 (e - 1)) * 1) [.int .u8 e_1]) 0 om'), I e])) else False else False else False) ∧ ∀ (e_1 : Int), sgC dr mi = e_1 → bif decide (0 ≤ IntKind.wrap .i64 (e - 1) ∧ IntKind.wrap .i64 (e - 1) < (↑om' : Int)) then bif Nat.ble (0 + Int.toNat (IntKind.wrap .i64 (e - 1)) * 1 + 1) (List.length od') then bif bytesOK (setL od' (0 + Int.toNat (IntKind.wrap .i64 (e - 1)) * 1) [.int .u8 e_1]) 0 om' then R (.tuple (.mk [S (bytesOf (setL od' (0 + Int.toNat (IntKind.wrap .i64 (e - 1)) * 1) [.int .u8 e_1]) 0 om'), I e])) else False else False else False) ∧ ∀ (e_1 : Int), sgC dr mi = e_1 → bif decide (0 ≤ IntKind.wrap .i64 (e - 1) ∧ IntKind.wrap .i64 (e - 1) < (↑om' : Int)) then bif Nat.ble (0 + Int.toNat (IntKind.wrap .i64 (e - 1)) * 1 + 1) (List.length od') then bif bytesOK (setL od' (0 + Int.toNat (IntKind.wrap .i64 (e - 1)) * 1) [.int .u8 e_1]) 0 om' then R (.tuple (.mk [S (bytesOf (setL od' (0 + Int.toNat (IntKind.wrap .i64 (e - 1)) * 1) [.int .u8 e_1]) 0 om'), I e])) else False else False else False else bif bytesOK od' 0 om' then R (.tuple (.mk [S (bytesOf od' 0 om'), I e])) else False else False else False else False else False else False else False) := by kernel_rfl
def wrV (sp : List Int) (w f : Int) (cr : Bool) (dr fl fm : Int) (ro nu : List Int) (mi : Bool) : List Int × Int :=
 bif decide (enV nu fm ro < 0) then (repZ [fl] w.toNat, w)
 else (bif dr != 0 && decide (enV nu fm ro > 0) then (wrGo f cr sp.length mi (enV nu fm ro) fl ro sp nu 0 0).set (enV nu fm ro - 1).toNat (bif dr == 36 then 36 else sgC dr mi)
  else wrGo f cr sp.length mi (enV nu fm ro) fl ro sp nu 0 0, enV nu fm ro)
def wrR (x : List Int × Int) : Value := .tuple ⟨[.string (sz x.1), .int .i64 x.2]⟩
def cN : List Int → Int
 | [] => 0
 | r :: rs => (bif r == 2 then 0 else 1) + cN rs
theorem cN_nn : ∀ l, 0 ≤ cN l
 | [] => by simp [cN]
 | r :: rs => by have := cN_nn rs; rw [cN]; cases r == 2 <;> simp <;> omega
theorem cn1_cdg : ∀ l, cn1 l ≤ cdg l
 | [] => by simp [cn1, cdg]
 | r :: rs => by
  have := cn1_cdg rs
  rw [cn1, cdg]
  by_cases h1 : r = 1
  ·subst h1
   show 1 + _ ≤ 1 + _
   omega
  ·have e : (r == 1) = false := by simpa using h1
   rw [e]
   cases decide (r = 0) || decide (r = 1) <;> simp <;> omega
theorem wrGo_len {f : Int} {cr : Bool} {n : Int} {mi : Bool} {ld fl : Int} : ∀ (rs cs ds : List Int) (i a : Int), ((wrGo f cr n mi ld fl rs cs ds i a).length : Int) = cN rs
 | [], _, _, _, _ => rfl
 | r :: rs, cs, ds, i, a => by
  rw [wrGo, cN]
  cases r == 2
  ·simp only [cond_false, List.length_cons]
   have := wrGo_len (f := f) (cr := cr) (n := n) (mi := mi) (ld := ld) (fl := fl) rs cs.tail (bif wrT f cr n r i then ds.tail else ds) (i + 1) (a + 1)
   omega
  ·simp only [cond_true]
   rw [wrGo_len]
   omega
theorem enGo_le {ze : Bool} {fm : Int} : ∀ (ro ds : List Int) (a : Int), -1 ≤ a → enGo ze fm ro ds a ≤ a + cN ro
 | [], _, a, h => by rw [enGo, cN]; omega
 | r :: rs, ds, a, h => by
  have h0 := cN_nn rs
  rw [enGo, cN]
  by_cases h2 : r = 2
  ·subst h2
   have e0 : ((2 : Int) == 0) = false := rfl
   have e1 : ((2 : Int) == 1) = false := rfl
   have e2 : ((2 : Int) == 2) = true := rfl
   rw [e0, e1, e2]
   simp only [cond_true, cond_false]
   have := enGo_le (ze := ze) (fm := fm) rs ds a h
   cases decide (fm > 0) || !ze <;> simp <;> omega
  ·have e2 : (r == 2) = false := by simpa using h2
   rw [e2]
   have h1 := enGo_le (ze := ze) (fm := fm) rs ds (a + 1) (by omega)
   have h3 := enGo_le (ze := ze) (fm := fm) rs ds.tail (a + 1) (by omega)
   cases r == 0
   ·cases r == 1
    ·simp only [cond_false]
     omega
    ·simp only [cond_true, cond_false]
     cases ds.headD 0 != 48 <;> simp <;> omega
   ·simp only [cond_true, cond_false]
    omega
theorem enV_le {nu : List Int} {fm : Int} {ro : List Int} : enV nu fm ro ≤ cN ro := by
 rw [enV]
 have := cN_nn ro
 have := enGo_le (ze := (trimZ nu [48]).isEmpty) (fm := fm) ro nu 0 (by omega)
 cases enOn ro <;> simp <;> omega
theorem enc_fl {fl : Int} (h : fl = 32 ∨ fl = 42) : bz (Utf8.encode fl) = [fl] := by
 rcases h with rfl | rfl <;> kernel_rfl
theorem w_64 (s : ByteArray) (nb : Bool) (w : Int) (dg : Int) (sc : Int) (sg : Bool) (k : Nat) (cap : Nat) (dr : Int) (f : Int) (cr : Bool) (fl : Int) (fm : Int) (nu : ByteArray) (mi : Bool) (d : List Value) (hR : rowIOK d k cap = true) (hO : roOK (zc d k) = true) (hD : dgL (bz nu) = true) (hk : k ≤ 1000 ∧ nu.size ≤ 1000 ∧ k ≤ s.size ∧ s.size ≤ 1000 ∧ 0 ≤ w ∧ w ≤ 1000) (hc : cdg (zc d k) ≤ nu.size) (hfl : fl = 32 ∨ fl = 42)
  {R : Value → Prop} (hV : R (wrR (wrV (bz s) w f cr dr fl fm (zc d k) (bz nu) mi))) :
  DoesM Tryz.prog G36 (oneL 0 S64_0.hA) Tryz.f207 [.pointer (some ⟨0, 0, some 0⟩), .string nu, .bool mi] (vwF2 (fmL s nb w dg sc sg 1 k cap dr f cr fl fm) d) 2 (fun v _ _ => R v) := by
 rw [DoesM, v64]
 have h := rowIOK_iff.1 hR
 have h1 := cn1_cdg (zc d k)
 have hl := @enV_le (bz nu) fm (zc d k)
 have z0 : Int.toNat 0 = 0 := rfl
 have hg : (goodL [] d && true && true && (idsLt 210 d && true)) = true := by rw [h.good]; simp [idsLt, idsL, ids_plainL h.plain]
 have hi : (idsLt 210 d && true) = true := by simp [idsLt, idsL, ids_plainL h.plain]
 have sl : ((bz s).length : Int) = s.size := by rw [bz_length]
 rw [wrV, wrR, sl] at hV
 simp only [h.rlb, z0, List.drop_zero]
 refine c_t (by rw [hR]; simp only [Bool.true_and, decide_eq_true_eq]; omega) fun e he => ?_
 rw [he] at hV hl
 have hw := fun a => @wrGo_len f cr s.size mi e fl (zc d k) (bz s) (bz nu) 0 a
 have hw := hw 0
 generalize wrGo f cr s.size mi e fl (zc d k) (bz s) (bz nu) 0 0 = W at *
 refine cond_intro (fun q => ?_) (fun q => ?_)
 ·rw [q, cond_true] at hV
  have eb := enc_fl hfl
  have es : (Utf8.encode fl).size = 1 := by rw [← bz_length, eb]; rfl
  rw [es, eb]
  exact c_t (decide_eq_true (by omega)) hV
 ·rw [q, cond_false] at hV
  refine c_t hg (c_t ?_ ⟨fun _ hn us' at' i' => c_t hi fun _ => c_t (by simp) ?_, fun us' at' i' od om oc g1 g2 => ?_⟩)
  ·show (Rw.nil.ok && (rowIOK d k cap && (roOK (zc d k) && (dgL (bz nu) && decide (mi = mi ∧ (0 : Int) ≤ 0 ∧ (0 : Int) ≤ k ∧ k ≤ 1000 ∧ natO k = k ∧ k ≤ s.size ∧ s.size ≤ 1000 ∧ (0 : Int) ≤ 0 ∧ (0 : Int) ≤ 0 ∧ (0 : Int) ≤ 0 ∧ (0 : Int) ≤ 0 ∧ 0 + cdg ((zc d k).drop (Int.toNat 0)) ≤ nu.size ∧ ((Rw.nil.z.length : Nat) : Int) ≤ 0))))) = true
   rw [hR, hO, hD, natO_eq, z0, List.drop_zero]
   simp only [Bool.true_and, Rw.ok, Rw.z, List.length_nil, decide_eq_true_eq]
   exact ⟨trivial, by omega, by omega, by omega, trivial, by omega, by omega, by omega, by omega, by omega, by omega, by omega, by omega⟩
  ·rw [hn, List.length_nil] at hw
   have e0 : decide (e > 0) = false := decide_eq_false (by omega)
   rw [e0, Bool.and_false, Bool.and_false, cond_false]
   rw [e0, Bool.and_false, cond_false, hn] at hV
   exact c_t (by simp) hV
  ·have ho := rowOK_iff.1 g1
   have hzl := zc_length ho
   rw [g2] at hzl
   have g3 : zc od om = W := by rw [g2]; rfl
   have hzl : W.length = om := hzl
   have hio : (idsLt 210 d && (idsLt 210 od && true)) = true := by simp [idsLt, idsL, ids_plainL h.plain, ids_plainL ho.plain]
   have hset : ∀ x : Int, e > 0 → R (.tuple ⟨[.string (sz (W.set (e - 1).toNat x)), .int .i64 e]⟩) →
     (bif decide (0 ≤ IntKind.wrap IntKind.i64 (e - 1) ∧ IntKind.wrap IntKind.i64 (e - 1) < (↑om : Int)) then
      bif Nat.ble (0 + Int.toNat (IntKind.wrap IntKind.i64 (e - 1)) * 1 + 1) (List.length od) then
       bif bytesOK (setL od (0 + Int.toNat (IntKind.wrap IntKind.i64 (e - 1)) * 1) [Value.int IntKind.u8 x]) 0 om then
        R (Value.tuple (Array.mk [Value.string (bytesOf (setL od (0 + Int.toNat (IntKind.wrap IntKind.i64 (e - 1)) * 1) [Value.int IntKind.u8 x]) 0 om), Value.int IntKind.i64 e]))
       else False
      else False
     else False) := fun x h0 hx => by
    have hb : (W.length : Int) ≤ 1000 := by
     have := hw
     have h2 : cN (zc d k) ≤ k := by
      have : ∀ l : List Int, cN l ≤ l.length := fun l => by
       induction l with
       | nil => simp [cN]
       | cons r rs ih => rw [cN, List.length_cons]; cases r == 2 <;> simp <;> omega
      have := this (zc d k)
      rw [zi_length h] at this
      exact this
     omega
    rw [w64 (n := e - 1) (by omega)]
    obtain ⟨s1, s2, s4⟩ := ho.set x (i := (e - 1).toNat) (by omega)
    have s3 := s1.str
    rw [s2, g3] at s3
    exact c_t (decide_eq_true (by omega)) (c_t s4 (c_t s3.1 (by rw [s3.2]; exact hx)))
   refine c_t hio fun _ => c_t (by simp) (cond_intro (fun p => ?_) (fun p => c_t (by simp) (cond_intro (fun p2 => ?_) (fun p2 => ?_))))
   ·obtain ⟨p1, p3⟩ := Bool.and_eq_true_iff.1 p
    have pe : dr = 36 := by simpa using p1
    have pn : (dr != 0) = true := by rw [pe]; rfl
    rw [pn, p3, p1, Bool.true_and, cond_true, cond_true] at hV
    exact hset 36 (of_decide_eq_true p3) hV
   ·obtain ⟨p1, p3⟩ := Bool.and_eq_true_iff.1 p2
    have pe : (dr == 36) = false := by
     rw [p3, Bool.and_true] at p
     exact p
    rw [p1, p3, pe, Bool.true_and, cond_true, cond_false] at hV
    have hX : ∀ e_1 : Int, sgC dr mi = e_1 → _ := fun e_1 h1 => hset e_1 (of_decide_eq_true p3) (by rw [← h1]; exact hV)
    repeat' (first | exact hX | apply And.intro)
   ·rw [p2, cond_false] at hV
    have s3 := ho.str
    rw [g3] at s3
    exact c_t s3.1 (by rw [s3.2]; exact hV)
def w64C (s nu : ByteArray) (k cap : Nat) (w fl : Int) (d : List Value) : Bool := rowIOK d k cap && (roOK (zc d k) && (dgL (bz nu) && decide ((k ≤ 1000 ∧ nu.size ≤ 1000 ∧ k ≤ s.size ∧ s.size ≤ 1000 ∧ 0 ≤ w ∧ w ≤ 1000) ∧ cdg (zc d k) ≤ nu.size ∧ (fl = 32 ∨ fl = 42))))
def h64 : List Value → Lk → Nat → (Value → Lk → Nat → Prop) → Prop := fun args m n K => match args with
 | [.pointer (some ⟨a, 0, some 0⟩), .string nu, .bool mi] => match m a with
  | some ⟨[.string s, .bool nb, .int .i64 w, .int .i64 dg, .int .i64 sc, .bool sg, .slice (some ⟨y, 0, some 1⟩) k cap, .int .u8 dr, .int .i64 f, .bool cr, .int .u8 fl, .int .i64 fm], 156, own⟩ => match m y with
   | some ⟨d, 251, own2⟩ => match cnd (w64C s nu k cap w fl d) with
    | true => ∀ (t : ByteArray) (l : Int), sz (wrV (bz s) w f cr dr fl fm (zc d k) (bz nu) mi).1 = t → (wrV (bz s) w f cr dr fl fm (zc d k) (bz nu) mi).2 = l → K (.tuple ⟨[.string t, .int .i64 l]⟩) m n
    | false => False
   | _ => False
  | _ => False
 | _ => False
theorem h64_ok : GenOK Tryz.prog 207 h64 := by
 refine gen_sub ok_G36 hmix fn64 lok64 fun args m n K h => ?_
 unfold h64 at h
 split at h
 case h_2 => exact h.elim
 rename_i a nu mi
 split at h
 case h_2 => exact h.elim
 rename_i s nb w dg sc sg y k cap dr f cr fl fm own hm
 split at h
 case h_2 => exact h.elim
 rename_i d own2 hy
 split at h
 case h_2 => exact h.elim
 rename_i hc
 simp only [cnd, w64C, Bool.and_eq_true, decide_eq_true_eq] at hc
 obtain ⟨h1, h2, h3, h4, h5, h6⟩ := hc
 refine ⟨[.pointer (some ⟨0, 0, some 0⟩), .string nu, .bool mi], _, 2, rho2 a y, wrR (wrV (bz s) w f cr dr fl fm (zc d k) (bz nu) mi), sub_F2 (rowIOK_iff.1 h1).plain hm hy, fun ι => by simp [ren, ren1, rho2], Nat.le_of_ble_eq_true (by kernel_rfl), fun v hv j hj => ?_, rfl,
  w_64 s nb w dg sc sg k cap dr f cr fl fm nu mi d h1 h2 h3 h4 h5 h6 (R := fun v => v = wrR (wrV (bz s) w f cr dr fl fm (zc d k) (bz nu) mi)) rfl, h _ _ rfl rfl⟩
 simp at hv
 rcases hv with rfl | rfl | rfl
 ·have : j = 0 := by simpa [ids] using hj
  omega
 ·simp [ids] at hj
 ·simp [ids] at hj
def G37 : Env := Env.nil.add 248 (sp1 s28)
theorem ok_G37 : EnvOK Tryz.prog G37 := env_add env_nil ok28
end Go.Px
end
noncomputable section
namespace Go.Px
open Go Go.Ab Go.Proofs Go.Shelf
theorem en_stop {ze : Bool} {fm : Int} : ∀ (rs : List Int) (ds : List Int) (a : Int), okR rs → 0 ≤ a → (decide (fm > 0) || !ze) = true →
  enGo ze fm rs ds a = endGo (rs.map rmk) ds a ∨ (enGo ze fm rs ds a = -1 ∧ 0 ∉ rs ∧ ∀ c ∈ ds.take (cn1 rs).toNat, c = 48)
 | [], ds, a, _, _, _ => .inr ⟨rfl, by simp, by simp [cn1]⟩
 | r :: rs, ds, a, hok, ha, hz => by
  have hok' : okR rs := fun x hx => hok x (List.mem_cons_of_mem _ hx)
  have h0 := cn1_nn rs
  rw [enGo, List.map_cons, endGo]
  rcases rmk_cases (hok r List.mem_cons_self) with rfl | rfl | rfl | rfl | rfl | rfl
  ·exact .inl rfl
  ·show (bif ds.headD 0 != 48 then a else enGo ze fm rs ds.tail (a + 1)) = (bif ds.headD 0 != 48 then a else endGo (rs.map rmk) ds.tail (a + 1)) ∨ ((bif ds.headD 0 != 48 then a else enGo ze fm rs ds.tail (a + 1)) = -1 ∧ _ ∧ ∀ c ∈ ds.take (1 + cn1 rs).toNat, c = 48)
   cases hd : ds.headD 0 != 48 with
   | true => exact .inl rfl
   | false =>
    simp only [cond_false]
    rcases en_stop rs ds.tail (a + 1) hok' (by omega) hz with h | ⟨h1, h2, h3⟩
    ·exact .inl h
    ·refine .inr ⟨h1, by simpa using h2, fun c hc => ?_⟩
     have e : (1 + cn1 rs).toNat = (cn1 rs).toNat + 1 := by omega
     rw [e] at hc
     cases ds with
     | nil => simp at hc
     | cons x xs =>
      rw [List.take_succ_cons] at hc
      rcases List.mem_cons.1 hc with rfl | hc
      ·simpa using hd
      ·exact h3 c hc
  ·show (bif decide (fm > 0) || !ze then a else enGo ze fm rs ds a) = a ∨ _
   rw [hz]
   exact .inl rfl
  ·rcases en_stop rs ds (a + 1) hok' (by omega) hz with h | ⟨h1, h2, h3⟩
   ·exact .inl h
   ·exact .inr ⟨h1, by simpa using h2, by simpa [cn1] using h3⟩
  ·rcases en_stop rs ds (a + 1) hok' (by omega) hz with h | ⟨h1, h2, h3⟩
   ·exact .inl h
   ·exact .inr ⟨h1, by simpa using h2, by simpa [cn1] using h3⟩
  ·rcases en_stop rs ds (a + 1) hok' (by omega) hz with h | ⟨h1, h2, h3⟩
   ·exact .inl h
   ·exact .inr ⟨h1, by simpa using h2, by simpa [cn1] using h3⟩
theorem en_none {fm : Int} (hf : decide (fm > 0) = false) : ∀ (rs : List Int) (ds : List Int) (a : Int), okR rs → 0 ∉ rs → (∀ c ∈ ds, c = 48) → cn1 rs ≤ ds.length → enGo true fm rs ds a = -1
 | [], _, _, _, _, _, _ => rfl
 | r :: rs, ds, a, hok, hr, hd, hl => by
  have hok' : okR rs := fun x hx => hok x (List.mem_cons_of_mem _ hx)
  have hr' : 0 ∉ rs := fun h => hr (List.mem_cons_of_mem _ h)
  rw [cn1] at hl
  have h0 := cn1_nn rs
  rw [enGo]
  rcases rmk_cases (hok r List.mem_cons_self) with rfl | rfl | rfl | rfl | rfl | rfl
  ·exact absurd List.mem_cons_self hr
  ·have hl : 1 + cn1 rs ≤ ds.length := hl
   cases ds with
   | nil => simp at hl; omega
   | cons x xs =>
    have : x = 48 := hd x List.mem_cons_self
    subst this
    exact en_none hf rs xs (a + 1) hok' hr' (fun c hc => hd c (List.mem_cons_of_mem _ hc)) (by simp at hl; omega)
  ·show (bif decide (fm > 0) || !true then a else enGo true fm rs ds a) = -1
   rw [hf]
   exact en_none hf rs ds a hok' hr' hd (by simpa using hl)
  ·exact en_none hf rs ds (a + 1) hok' hr' hd (by simpa using hl)
  ·exact en_none hf rs ds (a + 1) hok' hr' hd (by simpa using hl)
  ·exact en_none hf rs ds (a + 1) hok' hr' hd (by simpa using hl)
theorem en_on : ∀ (rs : List Int), okR rs → (∀ bh pt dg, (ldGo (rs.map rmk) false bh pt dg).1 = true → enOn rs = hasZ (rs.map rmk) 99)
 | [], _, _, _, _, _ => rfl
 | r :: rs, hok, bh, pt, dg, h => by
  have hok' : okR rs := fun x hx => hok x (List.mem_cons_of_mem _ hx)
  rw [List.map_cons, ldGo] at h
  rw [enOn, List.map_cons, has_cons]
  rcases rmk_cases (hok r List.mem_cons_self) with rfl | rfl | rfl | rfl | rfl | rfl
  ·show false = (false || hasZ (rs.map rmk) 99)
   rw [Bool.false_or]
   cases hq : hasZ (rs.map rmk) 99 with
   | false => rfl
   | true =>
    have h : (ldGo (rs.map rmk) true bh pt (dg + 1)).1 = true := h
    rw [ld_firm _ _ _ _ (hasZ_iff.1 hq)] at h
    cases h
  ·rfl
  ·exact (en_on rs hok' _ _ _ h).trans (Bool.false_or _).symm
  ·exact (en_on rs hok' _ _ _ h).trans (Bool.false_or _).symm
  ·exact (en_on rs hok' _ _ _ h).trans (Bool.false_or _).symm
  ·exact (en_on rs hok' _ _ _ h).trans (Bool.false_or _).symm
theorem cdg_pd : ∀ (rs : List Int), okR rs → cdg rs = pdGo (rs.map rmk)
 | [], _ => rfl
 | r :: rs, hok => by
  have hok' : okR rs := fun x hx => hok x (List.mem_cons_of_mem _ hx)
  rw [cdg, List.map_cons, pdGo, cdg_pd rs hok']
  rcases rmk_cases (hok r List.mem_cons_self) with rfl | rfl | rfl | rfl | rfl | rfl <;> rfl
theorem cn1_cdg_eq : ∀ (rs : List Int), 0 ∉ rs → cn1 rs = cdg rs
 | [], _ => rfl
 | r :: rs, h => by
  have h1 : r ≠ 0 := fun e => h (by rw [e]; exact List.mem_cons_self)
  rw [cn1, cdg, cn1_cdg_eq rs fun q => h (List.mem_cons_of_mem _ q), decide_eq_false h1, Bool.false_or]
  by_cases e : r = 1
  ·subst e; rfl
  ·rw [decide_eq_false e]
   have : (r == 1) = false := by simpa using e
   rw [this]
theorem has_100 : ∀ (rs : List Int), okR rs → hasZ (rs.map rmk) 100 = decide (0 ∈ rs)
 | [], _ => rfl
 | r :: rs, hok => by
  have hok' : okR rs := fun x hx => hok x (List.mem_cons_of_mem _ hx)
  rw [List.map_cons, has_cons, has_100 rs hok']
  rcases rmk_cases (hok r List.mem_cons_self) with rfl | rfl | rfl | rfl | rfl | rfl <;> simp [rmk]
theorem ld_115 : ∀ (a : List Int) (fm bh pt : Bool) (dg : Int), (ldGo (a ++ [115, 115]) fm bh pt dg).1 = (ldGo a fm bh pt dg).1
 | [], _, _, _, _ => rfl
 | m :: r, fm, bh, pt, dg => by
  rw [List.cons_append, ldGo, ldGo]
  cases m == 118
  ·cases m == 100
   ·cases m == 99
    ·exact ld_115 r _ _ _ _
    ·cases fm
     ·exact ld_115 r _ _ _ _
     ·rfl
   ·exact ld_115 r _ _ _ _
  ·exact ld_115 r _ _ _ _
theorem cnt_has {l : List Int} {c : Int} : decide ((cntZ l c : Int) > 0) = hasZ l c := by
 rw [Bool.eq_iff_iff, decide_eq_true_eq, hasZ_iff]
 induction l with
 | nil => simp [cntZ]
 | cons x l ih =>
  rw [cnt_cons]
  by_cases e : x = c
  ·subst e
   simp
   omega
  ·rw [if_neg e, Int.zero_add, ih]
   simp [Ne.symm e]
theorem rep48 : ∀ {l : List Int} {k : Nat}, l.length = k → (l = rep1 48 k ↔ ∀ c ∈ l, c = 48)
 | l, k, h => by
  rw [rep1, List.eq_replicate_iff]
  exact ⟨fun q => q.2, fun q => ⟨h, q⟩⟩
theorem pic_facts {l : List Int} (hl : IsB (pS l) ∧ (pS l).length ≤ 32) (h : pN l = true) : okR (rolF (pS l)) ∧ (rolF (pS l)).map rmk = marksZ (pS l) ∧ cdg (rolF (pS l)) = pD l ∧ enOn (rolF (pS l)) = hasZ (marksZ (pS l)) 99 ∧
  decide ((cntZ (mkGo (drZ (bodyZ (pS l))) false (bodyZ (pS l))) 100 : Int) > 0) = hasZ (marksZ (pS l)) 100 ∧ hasZ (marksZ (pS l)) 100 = decide (0 ∈ rolF (pS l)) ∧ (hasZ (marksZ (pS l)) 99 = true → pW l > 0) := by
 obtain ⟨h1, h2, h3⟩ := rol_marks h
 have hv := pN_vOK h
 have hS : pS l = exZ l := by rw [pS, if_pos hv]
 have hnp := pN_num h
 obtain ⟨_, _, p3, _⟩ := pN_ok hl h 0
 have hW : pW l = (pS l).length - cntZ (pS l) 86 := by rw [pW, if_pos hv, hnp.nch, hS]; rfl
 refine ⟨h2, h3, by rw [cdg_pd _ h2, h3, p3], ?_, ?_, by rw [← h3, has_100 _ h2], fun h9 => ?_⟩
 ·have hld := hnp.ld
  rw [← hS] at hld
  unfold leadsZ at hld
  have hL : (ldGo (mkGo (drZ (bodyZ (pS l))) false (bodyZ (pS l))) false false false 0).1 = true := by
   revert hld
   cases hasZ (bodyZ (pS l)) 90 && hasZ (bodyZ (pS l)) 42
   ·cases (hasZ (bodyZ (pS l)) 90 || hasZ (bodyZ (pS l)) 42) && drZ (bodyZ (pS l)) != 0
    ·intro q
     have q : ((ldGo (mkGo (drZ (bodyZ (pS l))) false (bodyZ (pS l))) false false false 0).1 && _) = true := q
     exact (Bool.and_eq_true_iff.1 q).1
    ·intro q; cases q
   ·intro q; cases q
  have hL2 : (ldGo (marksZ (pS l)) false false false 0).1 = true := by
   unfold marksZ
   split
   ·rw [ld_115]; exact hL
   ·rw [List.append_nil]; exact hL
  rw [← h3] at hL2 ⊢
  exact en_on _ h2 _ _ _ hL2
 ·rw [cnt_has, marksZ]
  have : ∀ a : List Int, hasZ (a ++ (if crZ (pS l) = true then [115, 115] else [])) 100 = hasZ a 100 := fun a => by
   split <;> simp [hasZ]
  rw [this]
 ·have hm := marks_nv (pS l)
  have : 0 < nv (marksZ (pS l)) := by
   have := hasZ_iff.1 h9
   unfold nv
   exact List.length_pos_of_mem (List.mem_filter.2 ⟨this, by decide⟩)
  omega
theorem dig_zero {n : Int} {k : Nat} (hn : (n.natAbs : Int) < tenZ k) : (∀ c ∈ digZ n.natAbs k, c = 48) ↔ n = 0 := by
 have h1 := digZ_dg k n.natAbs
 have h2 := all48 h1
 have h3 := dval_dig k n.natAbs (by omega)
 rw [Int.emod_eq_of_lt (by omega) hn] at h3
 rw [h3] at h2
 have : (∀ c ∈ digZ n.natAbs k, c = 48) ↔ (∀ c ∈ digZ n.natAbs k, hasZ [48] c = true) :=
  ⟨fun q c hc => by rw [q c hc]; rfl, fun q c hc => by have := hasZ_iff.1 (q c hc); simpa using this⟩
 rw [this, h2]
 omega
theorem en_law {l : List Int} (hl : IsB (pS l) ∧ (pS l).length ≤ 32) (h : pN l = true) {n : Int} (hn : (n.natAbs : Int) < tenZ (pD l).toNat) :
  enV (digZ n.natAbs (pD l).toNat) (cntZ (mkGo (drZ (bodyZ (pS l))) false (bodyZ (pS l))) 100) (rolF (pS l)) = (bif fdBl (pS l) (pW l) (pD l).toNat n then -1 else fdLe (pS l) (pW l) (pD l).toNat n) ∧
  (fdBl (pS l) (pW l) (pD l).toNat n = true → fdLe (pS l) (pW l) (pD l).toNat n = pW l) := by
 obtain ⟨f1, f2, f3, f4, f5, f6, f7⟩ := pic_facts hl h
 have hz := dig_zero hn
 have hlen := digZ_len (pD l).toNat n.natAbs
 have hp := pD_rng h
 have hze : (trimZ (digZ n.natAbs (pD l).toNat) [48]).isEmpty = decide (n = 0) := by
  rw [Bool.eq_iff_iff, List.isEmpty_iff, trim_nil, decide_eq_true_eq, ← hz]
  exact ⟨fun q c hc => by have := hasZ_iff.1 (q c hc); simpa using this, fun q c hc => by rw [q c hc]; rfl⟩
 rw [enV, f4, hze, fdBl, fdLe, endZ]
 have hrep : decide (digZ n.natAbs (pD l).toNat = rep1 48 (pD l).toNat) = decide (n = 0) := by
  rw [Bool.eq_iff_iff, decide_eq_true_eq, decide_eq_true_eq, rep48 hlen, hz]
 rw [hrep]
 generalize hds : digZ n.natAbs (pD l).toNat = ds at *
 cases h9 : hasZ (marksZ (pS l)) 99 with
 | false => exact ⟨rfl, fun q => by cases q⟩
 | true =>
  have hW := f7 h9
  have e0 : (n == 0) = decide (n = 0) := by rw [Bool.eq_iff_iff]; simp
  rw [e0]
  simp only [Bool.not_true, cond_false, cond_true]
  cases hq : (!hasZ (marksZ (pS l)) 100 && decide (n = 0)) with
  | true =>
   obtain ⟨q1, q2⟩ := Bool.and_eq_true_iff.1 hq
   rw [q1, q2]
   have q0 : hasZ (marksZ (pS l)) 100 = false := by simpa using q1
   rw [q0] at f5 f6
   have h0 : 0 ∉ rolF (pS l) := of_decide_eq_false f6.symm
   have hcn := cn1_cdg_eq _ h0
   rw [en_none f5 _ _ _ f1 h0 (hz.2 (of_decide_eq_true q2)) (by omega)]
   simp [hW]
  | false =>
   have hst : (decide ((cntZ (mkGo (drZ (bodyZ (pS l))) false (bodyZ (pS l))) 100 : Int) > 0) || !decide (n = 0)) = true := by
    rw [f5]
    cases q1 : hasZ (marksZ (pS l)) 100 with
    | true => rfl
    | false =>
     rw [q1] at hq
     have : decide (n = 0) = false := by simpa using hq
     rw [this]
     rfl
   have hB : (decide ((bif false then pW l else endGo (marksZ (pS l)) ds 0) > 0) && ((bif false then pW l else endGo (marksZ (pS l)) ds 0) == pW l && (decide (n = 0) && !hasZ (marksZ (pS l)) 100))) = false := by
    rw [Bool.and_comm (decide (n = 0)), hq, Bool.and_false, Bool.and_false]
   rw [hB]
   refine ⟨?_, fun q => by cases q⟩
   rcases en_stop (rolF (pS l)) ds 0 f1 (by omega) hst with q | ⟨q1, q2, q3⟩
   ·rw [q, f2]
    rfl
   ·exfalso
    have hcn := cn1_cdg_eq _ q2
    rw [f6, decide_eq_false q2] at f5
    rw [f5, Bool.false_or] at hst
    have hn0 : n ≠ 0 := by simpa using hst
    refine hn0 (hz.1 fun c hc => q3 c ?_)
    rw [hcn, f3, List.take_of_length_le (by omega)]
    exact hc
theorem ro_cases {b pre r : List Int} {c d f : Int} (h : DrP b d f) (hb : b = pre ++ c :: r) :
  ((pre.length : Int) = f ∧ c = d ∧ d ≠ 0 ∧ (roP d f c pre.length = 4 ∨ roP d f c pre.length = 5)) ∨
  ((pre.length : Int) ≠ f ∧ (roP d f c pre.length = 0 ∨ roP d f c pre.length = 1 ∨ roP d f c pre.length = 2 ∨ roP d f c pre.length = 3 ∨
   (c ≠ d ∧ (roP d f c pre.length = 4 ∧ (c = 83 ∨ c = 43 ∨ c = 45) ∨ roP d f c pre.length = 5 ∧ c = 36)))) := by
 have he := h.eq hb
 have hc0 := h.zero c (by rw [hb]; simp)
 by_cases hf : (pre.length : Int) = f
 ·obtain ⟨h1, h2⟩ := he.2.1 hf
  have hd : d ≠ 0 := by rw [← h1]; exact hc0
  refine .inl ⟨hf, h1, hd, ?_⟩
  have hm : d = 36 ∨ d = 83 ∨ d = 43 ∨ d = 45 := by
   rcases h.at_ with ⟨q, _⟩ | ⟨_, _, _, q⟩
   ·exact absurd q hd
   ·simpa using q
  have hne : ((pre.length : Int) != f) = false := by simpa using hf
  unfold roP
  rw [hne, h1]
  rcases hm with rfl | rfl | rfl | rfl <;> simp [hasZ]
 ·refine .inr ⟨hf, ?_⟩
  have hne : ((pre.length : Int) != f) = true := by simpa using hf
  unfold roP
  rw [hne, Bool.and_true]
  cases q1 : hasZ [57, 89, 84, 73, 82] c with
  | true => exact .inl rfl
  | false =>
   cases q2 : (c == 90 || (c == 42 || c == d)) with
   | true => exact .inr (.inl rfl)
   | false =>
    have hcd : c ≠ d := fun e => by rw [e] at q2; simp at q2
    cases q3 : c == 86 with
    | true => exact .inr (.inr (.inl rfl))
    | false =>
     cases q4 : c == 36 with
     | true => exact .inr (.inr (.inr (.inr ⟨hcd, .inr ⟨rfl, by simpa using q4⟩⟩)))
     | false =>
      cases q5 : (c == 83 || (c == 43 || c == 45)) with
      | true => exact .inr (.inr (.inr (.inr ⟨hcd, .inl ⟨rfl, by simpa using q5⟩⟩)))
      | false => exact .inr (.inr (.inr (.inl rfl)))
theorem sg_eq {c : Int} {m : Bool} (h : c = 83 ∨ c = 43 ∨ c = 45) : sgC c m = sgZ c m := by
 rcases h with rfl | rfl | rfl <;> cases m <;> rfl
theorem wr_body {b t : List Int} {d f n ld fl dr' : Int} {cr mi : Bool} (h : DrP b d f) (hdr : d ≠ 0 → dr' = d ∧ fl = 32) (hdr0 : d = 0 → dr' = 0) (hn : n = b.length + (bif cr then 2 else 0)) :
  ∀ (r pre ds : List Int) (a : Int) (X : List Int → List Int → Int → List Int) (rs' ms' : List Int), b = pre ++ r →
   (∀ ds a, wrGo f cr n mi ld fl rs' t ds b.length a = fdGo ld fl dr' mi ms' t ds a) →
   wrGo f cr n mi ld fl (rolesP d f r pre.length ++ rs') (r ++ t) ds pre.length a = fdGo ld fl dr' mi ((rolesP d f r pre.length).map rmk ++ ms') (r ++ t) ds a
 | [], pre, ds, a, X, rs', ms', hb, ht => by
  rw [List.append_nil] at hb
  rw [← hb]
  exact ht ds a
 | c :: r, pre, ds, a, X, rs', ms', hb, ht => by
  have ih := fun ds a => wr_body h hdr hdr0 hn r (pre ++ [c]) ds a X rs' ms' (by rw [hb]; simp) ht
  have e : ((pre ++ [c]).length : Int) = pre.length + 1 := by simp
  rw [e] at ih
  have hcr : (cr && decide ((pre.length : Int) ≥ n - 2)) = false := by
   cases cr with
   | false => rfl
   | true =>
    have : (b.length : Int) = pre.length + (r.length + 1) := by rw [hb]; simp
    rw [Bool.true_and, decide_eq_false_iff_not]
    simp only [cond_true] at hn
    omega
  rw [rolesP, List.cons_append, List.cons_append, List.map_cons, List.cons_append, wrGo, fdGo]
  simp only [List.headD_cons, List.tail_cons]
  rcases ro_cases h hb with ⟨h1, h2, h3, h4⟩ | ⟨h1, h4⟩
  ·obtain ⟨g1, g2⟩ := hdr h3
   have hf : ((pre.length : Int) == f) = true := by simpa using h1
   have e1 : wrC f cr n mi ld fl (roP d f c pre.length) c (ds.headD 0) pre.length a = 32 := by rw [wrC, hf, cond_true, g2]
   have e2 : wrT f cr n (roP d f c pre.length) pre.length = false := by rw [wrT, hf]; rfl
   have e3 : ssZ c dr' mi = 32 := by
    rw [ssZ, g1, h2]
    have : (d != 0 && d == d) = true := by simp [h3]
    rw [this]; rfl
   rw [e1, e2, e3, ih, ih]
   rcases h4 with h4 | h4 <;> rw [h4] <;> rfl
  ·have hf : ((pre.length : Int) == f) = false := by simpa using h1
   rcases h4 with h4 | h4 | h4 | h4 | ⟨h5, h4⟩
   ·rw [h4]
    have e1 : wrC f cr n mi ld fl 0 c (ds.headD 0) pre.length a = fmZ c (ds.headD 0) mi := by rw [wrC, hf, hcr]; rfl
    have e2 : wrT f cr n 0 pre.length = true := by rw [wrT, hf, hcr]; rfl
    rw [e1, e2, ih, ih]
    rfl
   ·rw [h4]
    have e1 : wrC f cr n mi ld fl 1 c (ds.headD 0) pre.length a = bif decide (a < ld) then fl else ds.headD 0 := by rw [wrC, hf, hcr]; rfl
    have e2 : wrT f cr n 1 pre.length = true := by rw [wrT, hf, hcr]; rfl
    rw [e1, e2, ih, ih]
    rfl
   ·rw [h4, ih]
    rfl
   ·rw [h4]
    have e1 : wrC f cr n mi ld fl 3 c (ds.headD 0) pre.length a = bif c == 66 then 32 else bif decide (a < ld) then fl else c := by rw [wrC, hf, hcr]; rfl
    have e2 : wrT f cr n 3 pre.length = false := by rw [wrT, hf, hcr]; rfl
    rw [e1, e2, ih, ih]
    rfl
   ·have hss : ssZ c dr' mi = bif hasZ [67, 82, 68, 66] c then (bif mi then c else 32) else sgZ c mi := by
     have : (dr' != 0 && c == dr') = false := by
      by_cases hd : d = 0
      ·rw [hdr0 hd]; rfl
      ·rw [(hdr hd).1]
       have : (c == d) = false := by simpa using h5
       rw [this, Bool.and_false]
     rw [ssZ, this]
     rfl
    rcases h4 with ⟨h4, h6⟩ | ⟨h4, h6⟩
    ·rw [h4]
     have e1 : wrC f cr n mi ld fl 4 c (ds.headD 0) pre.length a = sgC c mi := by rw [wrC, hf, hcr]; rfl
     have e2 : wrT f cr n 4 pre.length = false := by rw [wrT, hf, hcr]; rfl
     have e3 : ssZ c dr' mi = sgC c mi := by
      rw [hss, sg_eq h6]
      rcases h6 with rfl | rfl | rfl <;> rfl
     rw [e1, e2, ih, ih, ← e3]
     rfl
    ·rw [h4]
     have e1 : wrC f cr n mi ld fl 5 c (ds.headD 0) pre.length a = c := by rw [wrC, hf, hcr]; rfl
     have e2 : wrT f cr n 5 pre.length = false := by rw [wrT, hf, hcr]; rfl
     have e3 : ssZ c dr' mi = c := by rw [hss, h6]; rfl
     rw [e1, e2, ih, ih]
     show c :: _ = (ssZ c dr' mi :: _)
     rw [e3]
     rfl
theorem mk_99a {d : Int} (hd : d ≠ 0) (h4 : d ∈ [36, 83, 43, (45 : Int)]) : ∀ r : List Int, d ∈ r → 99 ∈ mkGo d true r
 | c :: r, h => by
  rw [mkGo]
  have hs : ∀ y : Bool, mkGo d (true || y) r = mkGo d true r := fun y => by rw [Bool.true_or]
  rw [hs]
  rcases List.mem_cons.1 h with e | h
  ·subst e
   have : mk1 d true d = 99 := by
    have : d = 36 ∨ d = 83 ∨ d = 43 ∨ d = 45 := by simpa using h4
    rcases this with rfl | rfl | rfl | rfl <;> rfl
   rw [this]
   exact List.mem_cons_self
  ·exact List.mem_cons_of_mem _ (mk_99a hd h4 r h)
theorem mk_99 {d : Int} (hd : d ≠ 0) (h4 : d ∈ [36, 83, 43, (45 : Int)]) : ∀ (r : List Int) (seen : Bool), ¬ (cntZ r d : Int) < 2 → 99 ∈ mkGo d seen r
 | [], _, h => by simp [cntZ] at h
 | c :: r, seen, h => by
  rw [mkGo]
  rw [cnt_cons] at h
  by_cases e : c = d
  ·subst e
   rw [if_pos rfl] at h
   have hs : (seen || (c != 0 && c == c)) = true := by
    have : (c != 0) = true := by simpa using hd
    rw [this]; simp
   rw [hs]
   refine List.mem_cons_of_mem _ (mk_99a hd h4 r ?_)
   have : (cntZ r c : Int) > 0 := by omega
   exact hasZ_iff.1 (cnt_has.symm.trans (decide_eq_true this))
  ·rw [if_neg e] at h
   exact List.mem_cons_of_mem _ (mk_99 hd h4 r _ (by omega))
theorem wr_2 (f n : Int) (mi : Bool) (ld fl x y : Int) (ds : List Int) (i a : Int) : ∃ D, wrGo f true n mi ld fl [4, 4] [x, y] ds i a = [wrC f true n mi ld fl 4 x (ds.headD 0) i a, wrC f true n mi ld fl 4 y D (i + 1) (a + 1)] := ⟨_, rfl⟩
theorem fd_2 (le fl dr : Int) (mi : Bool) (x y : Int) (ds : List Int) (a : Int) : fdGo le fl dr mi [115, 115] [x, y] ds a = [ssZ x dr mi, ssZ y dr mi] := rfl
theorem rep_one (c : Int) : ∀ k : Nat, repZ [c] k = rep1 c k
 | 0 => rfl
 | k + 1 => by rw [repZ, rep_one c k]; rfl
theorem dr_facts {s : List Int} (h : NumP s) : (drZ (bodyZ s) ≠ 0 → fdDr s = drZ (bodyZ s) ∧ fdFl s = 32) ∧ (drZ (bodyZ s) = 0 → fdDr s = 0) := by
 have e := dr_body s
 constructor
 ·intro hd
  have hld := h.ld
  unfold leadsZ at hld
  have h1 : ((hasZ (bodyZ s) 90 || hasZ (bodyZ s) 42) && drZ (bodyZ s) != 0) = false := by
   revert hld
   cases hasZ (bodyZ s) 90 && hasZ (bodyZ s) 42
   ·cases (hasZ (bodyZ s) 90 || hasZ (bodyZ s) 42) && drZ (bodyZ s) != 0
    ·exact fun _ => rfl
    ·intro q; cases q
   ·intro q; cases q
  have hdn : (drZ (bodyZ s) != 0) = true := by simpa using hd
  rw [hdn, Bool.and_true, Bool.or_eq_false_iff] at h1
  obtain ⟨t, ht, hc⟩ := body_app s
  have ha : ∀ c : Int, (c = 90 ∨ c = 42) → hasZ (bodyZ s) c = false → hasZ s c = false := fun c h0 h1 => by
   have : hasZ s c = hasZ (bodyZ s ++ t) c := congrArg (hasZ · c) ht
   rw [this]
   unfold hasZ at h1 ⊢
   rw [List.any_append, h1, Bool.false_or]
   rcases hc with ⟨rfl, _⟩ | ⟨rfl | rfl, _⟩ <;> rcases h0 with rfl | rfl <;> rfl
  have a1 := ha 90 (.inl rfl) h1.1
  have a2 := ha 42 (.inr rfl) h1.2
  obtain ⟨f1, f2⟩ := (drGo_spec (bodyZ s) (bodyZ s)).resolve_left hd
  obtain ⟨f3, f4⟩ := flg_mem f1
  have h9 : hasZ (marksZ s) 99 = true := hasZ_iff.2 (by
   unfold marksZ
   exact List.mem_append_left _ (mk_99 hd f3 _ _ f4))
  rw [fdDr, fdFl, a1, a2, h9, e]
  exact ⟨rfl, rfl⟩
 ·intro hd
  rw [fdDr, e, hd]
  cases !hasZ s 90 && (!hasZ s 42 && hasZ (marksZ s) 99) <;> rfl
theorem fdLe_nn {sp : List Int} {w : Int} {k : Nat} {n : Int} (hw : 0 ≤ w) : 0 ≤ fdLe sp w k n := by
 rw [fdLe, endZ]
 have := (end_ge (marksZ sp) (digZ n.natAbs k) 0).1
 cases !hasZ (marksZ sp) 99
 ·cases !hasZ (marksZ sp) 100 && decide (digZ n.natAbs k = rep1 48 k)
  ·exact this
  ·exact hw
 ·exact Int.le_refl 0
theorem out_law {l : List Int} (h : pN l = true) (ds : List Int) (ld : Int) (mi : Bool) :
  wrGo (nD (bodyZ (pS l))).2.2 (crZ (pS l)) (pS l).length mi ld (fdFl (pS l)) (rolF (pS l)) (pS l) ds 0 0 = fdGo ld (fdFl (pS l)) (fdDr (pS l)) mi (marksZ (pS l)) (pS l) ds 0 := by
 obtain ⟨h1, h2, h3⟩ := rol_marks h
 have hv := pN_vOK h
 have hS : pS l = exZ l := by rw [pS, if_pos hv]
 have hnp : NumP (pS l) := by rw [hS]; exact pN_num h
 obtain ⟨d1, d2⟩ := dr_facts hnp
 obtain ⟨t, ht, hc⟩ := body_app (pS l)
 have hP := h1.drP
 have hfl : (nD (bodyZ (pS l))).2.2 < (bodyZ (pS l)).length := by
  rcases hP.at_ with ⟨_, q⟩ | ⟨_, q1, q2, _⟩
  ·rw [q]; omega
  ·rw [q2]; exact (idx_lt _ q1).2
 have hdr' : fdDr (pS l) ≠ 67 ∧ fdDr (pS l) ≠ 82 ∧ fdDr (pS l) ≠ 68 ∧ fdDr (pS l) ≠ 66 := by
  by_cases q : drZ (bodyZ (pS l)) = 0
  ·rw [d2 q]; decide
  ·rw [(d1 q).1]
   rcases hP.at_ with ⟨q1, _⟩ | ⟨_, _, _, q4⟩
   ·exact absurd q1 q
   ·have : drZ (bodyZ (pS l)) = 36 ∨ drZ (bodyZ (pS l)) = 83 ∨ drZ (bodyZ (pS l)) = 43 ∨ drZ (bodyZ (pS l)) = 45 := by simpa using q4
    omega
 have hlen : ((pS l).length : Int) = (bodyZ (pS l)).length + (bif crZ (pS l) then 2 else 0) := by
  have := congrArg List.length ht
  rw [List.length_append] at this
  rcases hc with ⟨rfl, hc⟩ | ⟨rfl | rfl, hc⟩ <;> rw [hc] <;> simp at this ⊢ <;> omega
 have hrol : rolF (pS l) = rolesP (drZ (bodyZ (pS l))) (nD (bodyZ (pS l))).2.2 (bodyZ (pS l)) 0 ++ (bif crZ (pS l) then [4, 4] else []) := by
  rw [rolF, nR, h1.d]
 have hmk : marksZ (pS l) = (rolesP (drZ (bodyZ (pS l))) (nD (bodyZ (pS l))).2.2 (bodyZ (pS l)) 0).map rmk ++ (bif crZ (pS l) then [115, 115] else []) := by
  rw [← h3, hrol, List.map_append]
  congr 1
  cases crZ (pS l) <;> rfl
 have key := wr_body (t := t) (n := (pS l).length) (ld := ld) (mi := mi) hP d1 d2 hlen (bodyZ (pS l)) [] ds 0 (fun _ _ _ => []) (bif crZ (pS l) then [4, 4] else []) (bif crZ (pS l) then [115, 115] else []) rfl
 have key := key fun ds a => by
  rcases hc with ⟨rfl, hc⟩ | ⟨ht', hc⟩
  ·rw [hc]; rfl
  ·rw [hc] at hlen
   simp only [cond_true] at hlen
   have f1 : (((bodyZ (pS l)).length : Int) == (nD (bodyZ (pS l))).2.2) = false := by simp; omega
   have f2 : (((bodyZ (pS l)).length : Int) + 1 == (nD (bodyZ (pS l))).2.2) = false := by simp; omega
   have g1 : (true && decide (((bodyZ (pS l)).length : Int) ≥ ((pS l).length : Int) - 2)) = true := by simp; omega
   have g2 : (true && decide (((bodyZ (pS l)).length : Int) + 1 ≥ ((pS l).length : Int) - 2)) = true := by simp; omega
   have ss : ∀ c : Int, c = 67 ∨ c = 82 ∨ c = 68 ∨ c = 66 → ssZ c (fdDr (pS l)) mi = bif !mi then 32 else c := fun c hcc => by
    have : (fdDr (pS l) != 0 && c == fdDr (pS l)) = false := by
     have : (c == fdDr (pS l)) = false := by simp; omega
     rw [this, Bool.and_false]
    rw [ssZ, this]
    have h5 : hasZ [67, 82, 68, 66] c = true := by rcases hcc with rfl | rfl | rfl | rfl <;> rfl
    rw [h5]
    cases mi <;> rfl
   have wc : ∀ (r c d a : Int) (i : Int), (i == (nD (bodyZ (pS l))).2.2) = false → (true && decide (i ≥ ((pS l).length : Int) - 2)) = true → wrC (nD (bodyZ (pS l))).2.2 true (pS l).length mi ld (fdFl (pS l)) r c d i a = bif !mi then 32 else c := fun r c d a i q1 q2 => by
    rw [wrC, q1, q2]; rfl
   rw [hc]
   simp only [cond_true]
   rcases ht' with rfl | rfl
   ·obtain ⟨D, e⟩ := wr_2 (nD (bodyZ (pS l))).2.2 (pS l).length mi ld (fdFl (pS l)) 67 82 ds (bodyZ (pS l)).length a
    rw [e, fd_2, wc _ _ _ _ _ f1 g1, wc _ _ _ _ _ f2 g2, ss 67 (by decide), ss 82 (by decide)]
   ·obtain ⟨D, e⟩ := wr_2 (nD (bodyZ (pS l))).2.2 (pS l).length mi ld (fdFl (pS l)) 68 66 ds (bodyZ (pS l)).length a
    rw [e, fd_2, wc _ _ _ _ _ f1 g1, wc _ _ _ _ _ f2 g2, ss 68 (by decide), ss 66 (by decide)]
 rw [hrol, hmk]
 have e0 : ((([] : List Int).length : Nat) : Int) = 0 := rfl
 rw [e0, ← ht] at key
 exact key
theorem wr_law {l : List Int} (hl : IsB (pS l) ∧ (pS l).length ≤ 32) (h : pN l = true) {n : Int} (hn : (n.natAbs : Int) < tenZ (pD l).toNat) :
  wrV (pS l) (pW l) (nD (bodyZ (pS l))).2.2 (crZ (pS l)) (drZ (bodyZ (pS l))) (fdFl (pS l)) (cntZ (mkGo (drZ (bodyZ (pS l))) false (bodyZ (pS l))) 100) (rolF (pS l)) (digZ n.natAbs (pD l).toNat) (decide (n < 0)) =
   (fieldZ (pS l) (pW l) (pD l).toNat n, fdLe (pS l) (pW l) (pD l).toNat n) := by
 obtain ⟨e1, e2⟩ := en_law hl h hn
 obtain ⟨_, _, _, p4, _, p6⟩ := pN_ok hl h n
 have hv := pN_vOK h
 have hS : pS l = exZ l := by rw [pS, if_pos hv]
 have hnp : NumP (pS l) := by rw [hS]; exact pN_num h
 obtain ⟨d1, d2⟩ := dr_facts hnp
 have hP := (rol_marks h).1.drP
 rw [wrV, e1, fieldZ]
 cases hb : fdBl (pS l) (pW l) (pD l).toNat n with
 | true =>
  rw [e2 hb, ← rep_one]
  rfl
 | false =>
  simp only [cond_false]
  have h0 : decide (fdLe (pS l) (pW l) (pD l).toNat n < 0) = false := decide_eq_false (by have := @fdLe_nn (pS l) (pW l) (pD l).toNat n p4; omega)
  rw [h0, cond_false, out_law h]
  rw [fdOK, hb, Bool.false_or] at p6
  by_cases q : drZ (bodyZ (pS l)) = 0
  ·have q1 := d2 q
   have hO : fdOut (pS l) (pW l) (pD l).toNat n = fdGo (fdLe (pS l) (pW l) (pD l).toNat n) (fdFl (pS l)) 0 (decide (n < 0)) (marksZ (pS l)) (pS l) (digZ n.natAbs (pD l).toNat) 0 := by rw [fdOut, q1]
   rw [q, q1, hO]
   have z : ((0 : Int) != 0) = false := rfl
   rw [z, Bool.false_and]
   rfl
  ·have q1 := (d1 q).1
   rw [q1] at p6 ⊢
   have hq : (drZ (bodyZ (pS l)) != 0) = true := by simpa using q
   have hq2 : (drZ (bodyZ (pS l)) == 0) = false := by simpa using q
   rw [hq2, Bool.false_or, decide_eq_true_eq] at p6
   have h1 : decide (fdLe (pS l) (pW l) (pD l).toNat n > 0) = true := decide_eq_true (by omega)
   rw [hq, h1]
   have hs : (bif drZ (bodyZ (pS l)) == 36 then 36 else sgC (drZ (bodyZ (pS l))) (decide (n < 0))) = sgZ (drZ (bodyZ (pS l))) (decide (n < 0)) := by
    rcases hP.at_ with ⟨z, _⟩ | ⟨_, _, _, q4⟩
    ·exact absurd z q
    ·have : drZ (bodyZ (pS l)) = 36 ∨ drZ (bodyZ (pS l)) = 83 ∨ drZ (bodyZ (pS l)) = 43 ∨ drZ (bodyZ (pS l)) = 45 := by simpa using q4
     rcases this with e | e | e | e <;> rw [e] <;> cases decide (n < 0) <;> rfl
   rw [hs]
   have : fdOut (pS l) (pW l) (pD l).toNat n = fdGo (fdLe (pS l) (pW l) (pD l).toNat n) (fdFl (pS l)) (drZ (bodyZ (pS l))) (decide (n < 0)) (marksZ (pS l)) (pS l) (digZ n.natAbs (pD l).toNat) 0 := by rw [fdOut, q1]
   rw [this]
   rfl
end Go.Px
end
noncomputable section
set_option maxHeartbeats 3200000
namespace Go.Px
open Go Go.Ab Go.Proofs Go.Shelf
theorem wr_use {s : ByteArray} (h : pN (bz s) = true) {k cap : Nat} {d : List Value} (hR : rowIOK d k cap = true) (hz : zc d k = rolF (pS (bz s))) {m : Int} (hm : (m.natAbs : Int) < tenZ (pD (bz s)).toNat) :
  w64C (sz (pS (bz s))) (sz (digZ m.natAbs (pD (bz s)).toNat)) k cap (pW (bz s)) (fdFl (pS (bz s))) d = true ∧
  wrV (bz (sz (pS (bz s)))) (pW (bz s)) (nD (bodyZ (pS (bz s)))).2.2 (crZ (pS (bz s))) (drZ (bodyZ (pS (bz s)))) (fdFl (pS (bz s))) (cntZ (mkGo (drZ (bodyZ (pS (bz s)))) false (bodyZ (pS (bz s)))) 100) (zc d k) (bz (sz (digZ m.natAbs (pD (bz s)).toNat))) (decide (m < 0)) =
   (fieldZ (pS (bz s)) (pW (bz s)) (pD (bz s)).toNat m, fdLe (pS (bz s)) (pW (bz s)) (pD (bz s)).toNat m) := by
 have hl := pS_len s
 have hr := rowIOK_iff.1 hR
 have hk : k = (pS (bz s)).length := by rw [← rol_len h, ← hz, zi_length hr]
 have b1 : bz (sz (pS (bz s))) = pS (bz s) := bz_sz hl.1
 have hdd := digZ_dg (pD (bz s)).toNat m.natAbs
 have b2 : bz (sz (digZ m.natAbs (pD (bz s)).toNat)) = digZ m.natAbs (pD (bz s)).toNat := bz_sz (dg_isB hdd)
 have z1 : (sz (pS (bz s))).size = (pS (bz s)).length := by rw [← bz_length, b1]
 have z2 : (sz (digZ m.natAbs (pD (bz s)).toNat)).size = (pD (bz s)).toNat := by rw [← bz_length, b2, digZ_len]
 obtain ⟨f1, _, f3, _⟩ := pic_facts hl h
 have hp := pD_rng h
 have hw := pN_ok hl h 0
 refine ⟨?_, by rw [b1, b2, hz]; exact wr_law hl h hm⟩
 simp only [w64C, Bool.and_eq_true, decide_eq_true_eq]
 rw [hz, b2, z1, z2, f3]
 refine ⟨hR, ?_, hdd, ⟨by omega, by omega, by omega, by omega, hw.2.2.2.1, by omega⟩, by omega, ?_⟩
 ·simp only [roOK, List.all_eq_true, decide_eq_true_eq]
  exact fun r hr => by have := f1 r hr; omega
 ·unfold fdFl
  split
  ·exact .inr rfl
  ·exact .inl rfl
theorem unK_dig {c : Int} (h1 : c ≥ 48) (h2 : c ≤ 57) : unK c = false := by
 cases h : unK c with
 | false => rfl
 | true =>
  have := hasZ_iff.1 h
  simp only [punchedZ, List.mem_cons, List.not_mem_nil, or_false] at this
  omega
def gsGo : List Int → List Int → List Int
 | [], _ => []
 | r :: rs, cs => bif r == 2 then gsGo rs cs else bif r != 0 && r != 1 then gsGo rs cs.tail else (48 + rdD (cs.headD 0)) :: gsGo rs cs.tail
def V67_0 : ByteArray × ByteArray × Rw × Int × Nat × Nat × Int × Int × List Value → List Value := fun (t, r4, o, aa, k2, cap2, L, i, d) => [.string t, .string r4, o.v 200, .int .i64 aa, .slice (some ⟨1, 0, some 1⟩) k2 cap2, .int .i64 L, .int .i64 i]
def B67_0 : ByteArray × ByteArray × Rw × Int × Nat × Nat × Int × Int × List Value → List (Option Blk) := fun (t, r4, o, aa, k2, cap2, L, i, d) => [some ⟨d, 251, false⟩, o.b]
def S67_0 : LSpecA (ByteArray × ByteArray × Rw × Int × Nat × Nat × Int × Int × List Value) where
 live := [1, 4, 5, 6, 16, 17, 18]
 mid := [1, 200]
 n := 210
 ap := [(.tmp 5, 200)]
 dec vs bs := match vs, bs with | [.string t, .string r4, .slice none 0 0, .int .i64 aa, .slice (some ⟨1, 0, some 1⟩) k2 cap2, .int .i64 L, .int .i64 i], [some ⟨d, 251, false⟩, none] => some (t, r4, .nil, aa, k2, cap2, L, i, d) | [.string t, .string r4, .slice (some ⟨200, 0, some 1⟩) om oc, .int .i64 aa, .slice (some ⟨1, 0, some 1⟩) k2 cap2, .int .i64 L, .int .i64 i], [some ⟨d, 251, false⟩, some ⟨od, 5, true⟩] => some (t, r4, .own od om oc, aa, k2, cap2, L, i, d) | _, _ => none
 pre := fun (t, r4, o, aa, k2, cap2, L, i, d) => o.ok && (rowIOK d k2 cap2 && decide (0 ≤ i ∧ i ≤ k2 ∧ k2 ≤ 1000 ∧ L = k2 ∧ 0 ≤ aa ∧ aa ≤ i ∧ aa + cN ((zc d k2).drop i.toNat) ≤ t.size ∧ o.z.length ≤ i))
 fin := fun (t, r4, o, aa, k2, cap2, L, i, d) Z => (o.is = false → gsGo ((zc d k2).drop i.toNat) ((bz t).drop aa.toNat) = [] → ∀ a' i', Z (.exit 0) [.string t, .string r4, .slice none 0 0, .int .i64 a', .slice (some ⟨1, 0, some 1⟩) k2 cap2, .int .i64 L, .int .i64 i'] [some ⟨d, 251, false⟩, none]) ∧ (∀ a' i' od' om' oc', rowOK od' om' oc' = true → zc od' om' = o.z ++ gsGo ((zc d k2).drop i.toNat) ((bz t).drop aa.toNat) → Z (.exit 0) [.string t, .string r4, .slice (some ⟨200, 0, some 1⟩) om' oc', .int .i64 a', .slice (some ⟨1, 0, some 1⟩) k2 cap2, .int .i64 L, .int .i64 i'] [some ⟨d, 251, false⟩, some ⟨od', 5, true⟩])
theorem r67_0n (t : ByteArray) (r4 : ByteArray) (aa : Int) (k2 : Nat) (cap2 : Nat) (L : Int) (i : Int) (d : List Value) (jk : Tmps) (R : Exit → List Value → List (Option Blk) → Prop) : (codeQ Tryz.prog G37 noL Tryz.f205.ntmps (loopOf Tryz.f205 0) (tl S67_0.live (V67_0 (t, r4, .nil, aa, k2, cap2, L, i, d)) jk) (ml S67_0.mid (B67_0 (t, r4, .nil, aa, k2, cap2, L, i, d))) S67_0.n fun e t' m' _ => S67_0.out R e t' m') = ( bif decide (i < L) then bif decide (0 ≤ i ∧ i < (↑k2 : Int)) then bif isIntAt IntKind.i64 d (0 + Int.toNat i * 1) then bif intAt d (0 + Int.toNat i * 1) == 2 then bif goodL [] d && true && true then R Exit.normal [S t, S r4, .slice none 0 0, I aa, .slice (some (.mk 1 0 (some 1))) k2 cap2, I L, I (IntKind.wrap .i64 (i + 1))] [some (.mk (rlbL [] d) 251 false), none] else False else bif decide (0 ≤ aa ∧ aa < (↑(ByteArray.size t) : Int)) then bif intAt d (0 + Int.toNat i * 1) != 0 || true then bif intAt d (0 + Int.toNat i * 1) != 0 && intAt d (0 + Int.toNat i * 1) != 1 then bif goodL [] d && true && true then R Exit.normal [S t, S r4, .slice none 0 0, I (IntKind.wrap .i64 (aa + 1)), .slice (some (.mk 1 0 (some 1))) k2 cap2, I L, I (IntKind.wrap .i64 (i + 1))] [some (.mk (rlbL [] d) 251 false), none] else False else bif decide (byteAt t (Int.toNat aa) ≥ 48) || true then bif decide (byteAt t (Int.toNat aa) ≥ 48) && decide (byteAt t (Int.toNat aa) ≤ 57) then ∀ (cap : Nat) (tail : List Value), tailOK tail cap 1 1 = true → bif goodL [(248, 200)] d && (goodL [(248, 200)] (.int .u8 (byteAt t (Int.toNat aa)) :: tail) && true) && true then R Exit.normal [S t, S r4, .slice (some (.mk 200 0 (some 1))) 1 cap, I (IntKind.wrap .i64 (aa + 1)), .slice (some (.mk 1 0 (some 1))) k2 cap2, I L, I (IntKind.wrap .i64 (i + 1))] [some (.mk (rlbL [(248, 200)] d) 251 false), some (.mk (rlbL [(248, 200)] (.int .u8 (byteAt t (Int.toNat aa)) :: tail)) 5 true)] else False else bif unK (byteAt t (Int.toNat aa)) then ∀ (cap : Nat) (tail : List Value), tailOK tail cap 1 1 = true → bif goodL [(252, 200)] d && (goodL [(252, 200)] (.int .u8 (IntKind.wrap .u8 (48 + IntKind.wrap .u8 (unD (byteAt t (Int.toNat aa))))) :: tail) && true) && true then R Exit.normal [S t, S r4, .slice (some (.mk 200 0 (some 1))) 1 cap, I (IntKind.wrap .i64 (aa + 1)), .slice (some (.mk 1 0 (some 1))) k2 cap2, I L, I (IntKind.wrap .i64 (i + 1))] [some (.mk (rlbL [(252, 200)] d) 251 false), some (.mk (rlbL [(252, 200)] (.int .u8 (IntKind.wrap .u8 (48 + IntKind.wrap .u8 (unD (byteAt t (Int.toNat aa))))) :: tail)) 5 true)] else False else ∀ (cap : Nat) (tail : List Value), tailOK tail cap 1 1 = true → bif goodL [(249, 200)] d && (goodL [(249, 200)] (.int .u8 48 :: tail) && true) && true then R Exit.normal [S t, S r4, .slice (some (.mk 200 0 (some 1))) 1 cap, I (IntKind.wrap .i64 (aa + 1)), .slice (some (.mk 1 0 (some 1))) k2 cap2, I L, I (IntKind.wrap .i64 (i + 1))] [some (.mk (rlbL [(249, 200)] d) 251 false), some (.mk (rlbL [(249, 200)] (.int .u8 48 :: tail)) 5 true)] else False else False else False else False else False else False else bif goodL [] d && true && true then R (Exit.exit 0) [S t, S r4, .slice none 0 0, I aa, .slice (some (.mk 1 0 (some 1))) k2 cap2, I L, I i] [some (.mk (rlbL [] d) 251 false), none] else False) := by kernel_rfl
theorem r67_0o (t : ByteArray) (r4 : ByteArray) (od : List Value) (om : Nat) (oc : Nat) (aa : Int) (k2 : Nat) (cap2 : Nat) (L : Int) (i : Int) (d : List Value) (jk : Tmps) (R : Exit → List Value → List (Option Blk) → Prop) : (codeQ Tryz.prog G37 noL Tryz.f205.ntmps (loopOf Tryz.f205 0) (tl S67_0.live (V67_0 (t, r4, (.own od om oc), aa, k2, cap2, L, i, d)) jk) (ml S67_0.mid (B67_0 (t, r4, (.own od om oc), aa, k2, cap2, L, i, d))) S67_0.n fun e t' m' _ => S67_0.out R e t' m') = ( bif decide (i < L) then bif decide (0 ≤ i ∧ i < (↑k2 : Int)) then bif isIntAt IntKind.i64 d (0 + Int.toNat i * 1) then bif intAt d (0 + Int.toNat i * 1) == 2 then bif goodL [(200, 200)] d && (goodL [(200, 200)] od && true) && true then R Exit.normal [S t, S r4, .slice (some (.mk 200 0 (some 1))) om oc, I aa, .slice (some (.mk 1 0 (some 1))) k2 cap2, I L, I (IntKind.wrap .i64 (i + 1))] [some (.mk (rlbL [(200, 200)] d) 251 false), some (.mk (rlbL [(200, 200)] od) 5 true)] else False else bif decide (0 ≤ aa ∧ aa < (↑(ByteArray.size t) : Int)) then bif intAt d (0 + Int.toNat i * 1) != 0 || true then bif intAt d (0 + Int.toNat i * 1) != 0 && intAt d (0 + Int.toNat i * 1) != 1 then bif goodL [(200, 200)] d && (goodL [(200, 200)] od && true) && true then R Exit.normal [S t, S r4, .slice (some (.mk 200 0 (some 1))) om oc, I (IntKind.wrap .i64 (aa + 1)), .slice (some (.mk 1 0 (some 1))) k2 cap2, I L, I (IntKind.wrap .i64 (i + 1))] [some (.mk (rlbL [(200, 200)] d) 251 false), some (.mk (rlbL [(200, 200)] od) 5 true)] else False else bif decide (byteAt t (Int.toNat aa) ≥ 48) || true then bif decide (byteAt t (Int.toNat aa) ≥ 48) && decide (byteAt t (Int.toNat aa) ≤ 57) then bif Nat.beq (List.length od) (oc * 1) && Nat.ble om oc && Nat.ble oc 9223372036854775807 && true && fitsA (om + 1) 1 then ∀ (cap : Nat) (tail : List Value), tailOK tail cap (om + 1) 1 = true → bif goodL [(248, 200)] d && (goodL [(248, 200)] (List.take (om * 1) od ++ [.int .u8 (byteAt t (Int.toNat aa))] ++ tail) && true) && true then R Exit.normal [S t, S r4, .slice (some (.mk 200 0 (some 1))) (om + 1) cap, I (IntKind.wrap .i64 (aa + 1)), .slice (some (.mk 1 0 (some 1))) k2 cap2, I L, I (IntKind.wrap .i64 (i + 1))] [some (.mk (rlbL [(248, 200)] d) 251 false), some (.mk (rlbL [(248, 200)] (List.take (om * 1) od ++ [.int .u8 (byteAt t (Int.toNat aa))] ++ tail)) 5 true)] else False else False else bif unK (byteAt t (Int.toNat aa)) then bif Nat.beq (List.length od) (oc * 1) && Nat.ble om oc && Nat.ble oc 9223372036854775807 && true && fitsA (om + 1) 1 then ∀ (cap : Nat) (tail : List Value), tailOK tail cap (om + 1) 1 = true → bif goodL [(252, 200)] d && (goodL [(252, 200)] (List.take (om * 1) od ++ [.int .u8 (IntKind.wrap .u8 (48 + IntKind.wrap .u8 (unD (byteAt t (Int.toNat aa)))))] ++ tail) && true) && true then R Exit.normal [S t, S r4, .slice (some (.mk 200 0 (some 1))) (om + 1) cap, I (IntKind.wrap .i64 (aa + 1)), .slice (some (.mk 1 0 (some 1))) k2 cap2, I L, I (IntKind.wrap .i64 (i + 1))] [some (.mk (rlbL [(252, 200)] d) 251 false), some (.mk (rlbL [(252, 200)] (List.take (om * 1) od ++ [.int .u8 (IntKind.wrap .u8 (48 + IntKind.wrap .u8 (unD (byteAt t (Int.toNat aa)))))] ++ tail)) 5 true)] else False else False else bif Nat.beq (List.length od) (oc * 1) && Nat.ble om oc && Nat.ble oc 9223372036854775807 && true && fitsA (om + 1) 1 then ∀ (cap : Nat) (tail : List Value), tailOK tail cap (om + 1) 1 = true → bif goodL [(249, 200)] d && (goodL [(249, 200)] (List.take (om * 1) od ++ [.int .u8 48] ++ tail) && true) && true then R Exit.normal [S t, S r4, .slice (some (.mk 200 0 (some 1))) (om + 1) cap, I (IntKind.wrap .i64 (aa + 1)), .slice (some (.mk 1 0 (some 1))) k2 cap2, I L, I (IntKind.wrap .i64 (i + 1))] [some (.mk (rlbL [(249, 200)] d) 251 false), some (.mk (rlbL [(249, 200)] (List.take (om * 1) od ++ [.int .u8 48] ++ tail)) 5 true)] else False else False else False else False else False else False else False else bif goodL [(200, 200)] d && (goodL [(200, 200)] od && true) && true then R (Exit.exit 0) [S t, S r4, .slice (some (.mk 200 0 (some 1))) om oc, I aa, .slice (some (.mk 1 0 (some 1))) k2 cap2, I L, I i] [some (.mk (rlbL [(200, 200)] d) 251 false), some (.mk (rlbL [(200, 200)] od) 5 true)] else False) := by kernel_rfl
theorem l67_0 : LOKf Tryz.prog (oneL 0 S67_0.hA) Tryz.f205 := by
 refine lokf_one (h := S67_0.hA) (by kernel_rfl) (loop_specA ok_G37 hmix (by kernel_rfl) (lok_none _) S67_0 V67_0 B67_0 (fun (t, r4, o, aa, k2, cap2, L, i, d) => (k2 - i).toNat) ?_ ?_ ?_)
 ·intro vs bs s h
  simp only [S67_0] at h
  split at h
  all_goals first | (cases h; exact ⟨rfl, rfl⟩) | cases h | (split at h <;> first | (rename_i hq; cases h; have hq := Nat.eq_of_beq_eq_true hq; subst hq; exact ⟨rfl, rfl⟩) | cases h)
 ·exact fun ⟨t, r4, o, aa, k2, cap2, L, i, d⟩ hp => by
   simp only [S67_0, Bool.and_eq_true] at hp
   have hr := rowIOK_iff.1 hp.2.1
   cases o with
   | nil => simp [V67_0, B67_0, S67_0, idsLt, idsLtB, idsL, ids, Rw.v, Rw.b, ids_plainL hr.plain]
   | own od om oc => simp [V67_0, B67_0, S67_0, idsLt, idsLtB, idsL, ids, Rw.v, Rw.b, ids_plainL hr.plain, ids_plainL (rowOK_iff.1 hp.1).plain]
 ·intro ⟨t, r4, o, aa, k2, cap2, L, i, d⟩ jk Z hp hf
  simp only [S67_0] at hp hf
  cases o with
  | nil =>
   rw [r67_0n]
   simp only [Bool.and_eq_true, decide_eq_true_eq] at hp
   obtain ⟨-, hR, hp⟩ := hp
   have hr := rowIOK_iff.1 hR
   simp only [Rw.z, List.length_nil] at hp hf
   have e0 : 0 + i.toNat * 1 = i.toNat := by omega
   rw [e0]
   refine cond_intro (fun h => ?_) (fun h => ?_)
   ·have h := of_decide_eq_true h
    obtain ⟨a1, a3⟩ := hr.at hp.1 (by omega)
    rw [a3, gsGo] at hf
    rw [a3, cN] at hp
    have hc := cN_nn ((zc d k2).drop (i + 1).toNat)
    rw [a1, w64 (n := i + 1) (by omega), w64 (n := aa + 1) (by omega)]
    generalize intAt d i.toNat = r at *
    refine c_t (decide_eq_true (by omega)) (c_t rfl (cond_intro (fun q => ?_) (fun q => ?_)))
    ·rw [q, cond_true] at hf hp
     refine c_t (by rw [hr.good]; rfl) ?_
     rw [hr.rlb]
     exact ⟨(t, r4, .nil, aa, k2, cap2, L, i + 1, d), rfl, rfl, by simp only [S67_0, Bool.and_eq_true, decide_eq_true_eq]; exact ⟨rfl, hR, by simp only [Rw.z, List.length_nil]; omega⟩, by simp only; omega, hf⟩
    ·rw [q, cond_false] at hf hp
     obtain ⟨p1, p2, p3, p4, p5, p6, p7, p8⟩ := hp
     rw [bz_at p5 (by omega), List.headD_cons, List.tail_cons] at hf
     have hB := byte_rng t aa.toNat
     generalize byteAt t aa.toNat = c at *
     have hu : 0 ≤ unD c ∧ unD c ≤ 9 := by unfold unD; split <;> omega
     rw [w8 (n := unD c) (by omega), w8 (n := 48 + unD c) (by omega)]
     refine c_t (decide_eq_true (by omega)) (c_t (by simp) (cond_intro (fun q2 => ?_) (fun q2 => c_t (by simp) (cond_intro (fun q3 => ?_) (fun q3 => cond_intro (fun q4 => ?_) (fun q4 => ?_))))))
     ·rw [q2, cond_true] at hf
      refine c_t (by rw [hr.good]; rfl) ?_
      rw [hr.rlb]
      exact ⟨(t, r4, .nil, aa + 1, k2, cap2, L, i + 1, d), rfl, rfl, by simp only [S67_0, Bool.and_eq_true, decide_eq_true_eq]; exact ⟨rfl, hR, by simp only [Rw.z, List.length_nil]; omega⟩, by simp only; omega, hf⟩
     ·rw [q2, cond_false] at hf
      intro cap1 tail ht
      obtain ⟨h1, h2⟩ : RowP (Value.int IntKind.u8 (c) :: tail) 1 cap1 ∧ zc (Value.int IntKind.u8 (c) :: tail) 1 = [c] := row_new [c] ht
      have hl1 := zc_length h1
      generalize Value.int IntKind.u8 (c) :: tail = od' at *
      have e : 48 + rdD c = c := by
       have q := q3
       simp only [Bool.and_eq_true, decide_eq_true_eq] at q
       unfold rdD
       rw [unK_dig q.1 q.2, q3]
       simp only [cond_true, cond_false]
       omega
      rw [e] at hf
      refine c_t (by rw [hr.good, h1.good]; rfl) ?_
      rw [hr.rlb, h1.rlb]
      exact ⟨(t, r4, .own od' (1) cap1, aa + 1, k2, cap2, L, i + 1, d), rfl, rfl, by simp only [S67_0, Bool.and_eq_true, decide_eq_true_eq]; exact ⟨rowOK_iff.2 h1, hR, by simp only [Rw.z, hl1]; omega⟩, by simp only; omega, ⟨fun q => (by cases q), fun a' i' od'' om'' oc'' g1 g2 => hf.2 a' i' od'' om'' oc'' g1 (by rw [g2]; simp only [Rw.z, h2, List.append_assoc, List.cons_append, List.nil_append])⟩⟩
     ·rw [q2, cond_false] at hf
      intro cap1 tail ht
      obtain ⟨h1, h2⟩ : RowP (Value.int IntKind.u8 (48 + unD c) :: tail) 1 cap1 ∧ zc (Value.int IntKind.u8 (48 + unD c) :: tail) 1 = [48 + unD c] := row_new [48 + unD c] ht
      have hl1 := zc_length h1
      generalize Value.int IntKind.u8 (48 + unD c) :: tail = od' at *
      have e : 48 + rdD c = 48 + unD c := by
       unfold rdD
       rw [q4]
       rfl
      rw [e] at hf
      refine c_t (by rw [hr.good, h1.good]; rfl) ?_
      rw [hr.rlb, h1.rlb]
      exact ⟨(t, r4, .own od' (1) cap1, aa + 1, k2, cap2, L, i + 1, d), rfl, rfl, by simp only [S67_0, Bool.and_eq_true, decide_eq_true_eq]; exact ⟨rowOK_iff.2 h1, hR, by simp only [Rw.z, hl1]; omega⟩, by simp only; omega, ⟨fun q => (by cases q), fun a' i' od'' om'' oc'' g1 g2 => hf.2 a' i' od'' om'' oc'' g1 (by rw [g2]; simp only [Rw.z, h2, List.append_assoc, List.cons_append, List.nil_append])⟩⟩
     ·rw [q2, cond_false] at hf
      intro cap1 tail ht
      obtain ⟨h1, h2⟩ : RowP (Value.int IntKind.u8 (48) :: tail) 1 cap1 ∧ zc (Value.int IntKind.u8 (48) :: tail) 1 = [48] := row_new [48] ht
      have hl1 := zc_length h1
      generalize Value.int IntKind.u8 (48) :: tail = od' at *
      have e : 48 + rdD c = 48 := by
       unfold rdD
       rw [q4, q3]
       rfl
      rw [e] at hf
      refine c_t (by rw [hr.good, h1.good]; rfl) ?_
      rw [hr.rlb, h1.rlb]
      exact ⟨(t, r4, .own od' (1) cap1, aa + 1, k2, cap2, L, i + 1, d), rfl, rfl, by simp only [S67_0, Bool.and_eq_true, decide_eq_true_eq]; exact ⟨rowOK_iff.2 h1, hR, by simp only [Rw.z, hl1]; omega⟩, by simp only; omega, ⟨fun q => (by cases q), fun a' i' od'' om'' oc'' g1 g2 => hf.2 a' i' od'' om'' oc'' g1 (by rw [g2]; simp only [Rw.z, h2, List.append_assoc, List.cons_append, List.nil_append])⟩⟩
   ·have h := of_decide_eq_false h
    rw [hr.end (by omega), gsGo] at hf
    refine c_t (by rw [hr.good]; rfl) ?_
    rw [hr.rlb]
    exact hf.1 rfl rfl aa i
  | own od om oc =>
   rw [r67_0o]
   simp only [Bool.and_eq_true, decide_eq_true_eq] at hp
   obtain ⟨ho, hR, hp⟩ := hp
   have hr := rowIOK_iff.1 hR
   have ho := rowOK_iff.1 ho
   have hzl := zc_length ho
   simp only [Rw.z, hzl] at hp hf
   have e0 : 0 + i.toNat * 1 = i.toNat := by omega
   rw [e0]
   refine cond_intro (fun h => ?_) (fun h => ?_)
   ·have h := of_decide_eq_true h
    obtain ⟨a1, a3⟩ := hr.at hp.1 (by omega)
    rw [a3, gsGo] at hf
    rw [a3, cN] at hp
    have hc := cN_nn ((zc d k2).drop (i + 1).toNat)
    rw [a1, w64 (n := i + 1) (by omega), w64 (n := aa + 1) (by omega)]
    generalize intAt d i.toNat = r at *
    refine c_t (decide_eq_true (by omega)) (c_t rfl (cond_intro (fun q => ?_) (fun q => ?_)))
    ·rw [q, cond_true] at hf hp
     refine c_t (by rw [hr.good, ho.good]; rfl) ?_
     rw [hr.rlb, ho.rlb]
     exact ⟨(t, r4, .own od om oc, aa, k2, cap2, L, i + 1, d), rfl, rfl, by simp only [S67_0, Bool.and_eq_true, decide_eq_true_eq]; exact ⟨rowOK_iff.2 ho, hR, by simp only [Rw.z, hzl]; omega⟩, by simp only; omega, hf⟩
    ·rw [q, cond_false] at hf hp
     obtain ⟨p1, p2, p3, p4, p5, p6, p7, p8⟩ := hp
     rw [bz_at p5 (by omega), List.headD_cons, List.tail_cons] at hf
     have hB := byte_rng t aa.toNat
     generalize byteAt t aa.toNat = c at *
     have hu : 0 ≤ unD c ∧ unD c ≤ 9 := by unfold unD; split <;> omega
     rw [w8 (n := unD c) (by omega), w8 (n := 48 + unD c) (by omega)]
     refine c_t (decide_eq_true (by omega)) (c_t (by simp) (cond_intro (fun q2 => ?_) (fun q2 => c_t (by simp) (cond_intro (fun q3 => ?_) (fun q3 => cond_intro (fun q4 => ?_) (fun q4 => ?_))))))
     ·rw [q2, cond_true] at hf
      refine c_t (by rw [hr.good, ho.good]; rfl) ?_
      rw [hr.rlb, ho.rlb]
      exact ⟨(t, r4, .own od om oc, aa + 1, k2, cap2, L, i + 1, d), rfl, rfl, by simp only [S67_0, Bool.and_eq_true, decide_eq_true_eq]; exact ⟨rowOK_iff.2 ho, hR, by simp only [Rw.z, hzl]; omega⟩, by simp only; omega, hf⟩
     ·rw [q2, cond_false] at hf
      refine c_t (ho.ask (k := 1) (by omega)) (fun cap1 tail ht => ?_)
      obtain ⟨h1, h2⟩ := ho.app1 (c) ht
      have hl1 := zc_length h1
      generalize List.take (om * 1) od ++ [Value.int IntKind.u8 (c)] ++ tail = od' at *
      have e : 48 + rdD c = c := by
       have q := q3
       simp only [Bool.and_eq_true, decide_eq_true_eq] at q
       unfold rdD
       rw [unK_dig q.1 q.2, q3]
       simp only [cond_true, cond_false]
       omega
      rw [e] at hf
      refine c_t (by rw [hr.good, h1.good]; rfl) ?_
      rw [hr.rlb, h1.rlb]
      exact ⟨(t, r4, .own od' (om + 1) cap1, aa + 1, k2, cap2, L, i + 1, d), rfl, rfl, by simp only [S67_0, Bool.and_eq_true, decide_eq_true_eq]; exact ⟨rowOK_iff.2 h1, hR, by simp only [Rw.z, hl1]; omega⟩, by simp only; omega, ⟨fun q => (by cases q), fun a' i' od'' om'' oc'' g1 g2 => hf.2 a' i' od'' om'' oc'' g1 (by rw [g2]; simp only [Rw.z, h2, List.append_assoc, List.cons_append, List.nil_append])⟩⟩
     ·rw [q2, cond_false] at hf
      refine c_t (ho.ask (k := 1) (by omega)) (fun cap1 tail ht => ?_)
      obtain ⟨h1, h2⟩ := ho.app1 (48 + unD c) ht
      have hl1 := zc_length h1
      generalize List.take (om * 1) od ++ [Value.int IntKind.u8 (48 + unD c)] ++ tail = od' at *
      have e : 48 + rdD c = 48 + unD c := by
       unfold rdD
       rw [q4]
       rfl
      rw [e] at hf
      refine c_t (by rw [hr.good, h1.good]; rfl) ?_
      rw [hr.rlb, h1.rlb]
      exact ⟨(t, r4, .own od' (om + 1) cap1, aa + 1, k2, cap2, L, i + 1, d), rfl, rfl, by simp only [S67_0, Bool.and_eq_true, decide_eq_true_eq]; exact ⟨rowOK_iff.2 h1, hR, by simp only [Rw.z, hl1]; omega⟩, by simp only; omega, ⟨fun q => (by cases q), fun a' i' od'' om'' oc'' g1 g2 => hf.2 a' i' od'' om'' oc'' g1 (by rw [g2]; simp only [Rw.z, h2, List.append_assoc, List.cons_append, List.nil_append])⟩⟩
     ·rw [q2, cond_false] at hf
      refine c_t (ho.ask (k := 1) (by omega)) (fun cap1 tail ht => ?_)
      obtain ⟨h1, h2⟩ := ho.app1 (48) ht
      have hl1 := zc_length h1
      generalize List.take (om * 1) od ++ [Value.int IntKind.u8 (48)] ++ tail = od' at *
      have e : 48 + rdD c = 48 := by
       unfold rdD
       rw [q4, q3]
       rfl
      rw [e] at hf
      refine c_t (by rw [hr.good, h1.good]; rfl) ?_
      rw [hr.rlb, h1.rlb]
      exact ⟨(t, r4, .own od' (om + 1) cap1, aa + 1, k2, cap2, L, i + 1, d), rfl, rfl, by simp only [S67_0, Bool.and_eq_true, decide_eq_true_eq]; exact ⟨rowOK_iff.2 h1, hR, by simp only [Rw.z, hl1]; omega⟩, by simp only; omega, ⟨fun q => (by cases q), fun a' i' od'' om'' oc'' g1 g2 => hf.2 a' i' od'' om'' oc'' g1 (by rw [g2]; simp only [Rw.z, h2, List.append_assoc, List.cons_append, List.nil_append])⟩⟩
   ·have h := of_decide_eq_false h
    rw [hr.end (by omega), gsGo] at hf
    refine c_t (by rw [hr.good, ho.good]; rfl) ?_
    rw [hr.rlb, ho.rlb]
    exact hf.2 aa i od om oc (rowOK_iff.2 ho) (by simp)
theorem v67 (s : ByteArray) (nb : Bool) (w : Int) (dg : Int) (sc : Int) (sg : Bool) (k : Nat) (cap : Nat) (dr : Int) (f : Int) (cr : Bool) (fl : Int) (fm : Int) (t : ByteArray) (d : List Value) (R : Value → Prop) : (bodyQ Tryz.prog G37 (oneL 0 S67_0.hA) Tryz.f205 [.pointer (some ⟨0, 0, some 0⟩), S t] (vwF2 (fmL s nb w dg sc sg 1 k cap dr f cr fl fm) d) 2 (fun v _ _ => R v)) = ( bif goodL [] d && true && true && (idsLt 210 (rlbL [] d) && true) then bif LSpec.pre (LSpecA.toLSpec S67_0) (t, ByteArray.mk #[], Rw.nil, 0, k, cap, natO k, 0, rlbL [] d) then (Rw.is Rw.nil = false → gsGo (List.drop (Int.toNat 0) (zc (rlbL [] d) k)) (List.drop (Int.toNat 0) (bz t)) = [] → ∀ (a' i' : Int), bif idsLt 210 (rlbL [] d) && true then ∀ (x : Tmps), R (S ByteArray.empty) else False) ∧ ∀ (a' i' : Int) (od' : List Value) (om' oc' : Nat), rowOK od' om' oc' = true → zc od' om' = Rw.z Rw.nil ++ gsGo (List.drop (Int.toNat 0) (zc (rlbL [] d) k)) (List.drop (Int.toNat 0) (bz t)) → bif idsLt 210 (rlbL [] d) && (idsLt 210 od' && true) then ∀ (x : Tmps), bif bytesOK od' 0 om' then R (S (bytesOf od' 0 om')) else False else False else False else False) := by kernel_rfl
theorem fn67 : Fn1 Tryz.prog 205 Tryz.f205 := ⟨Tryz.func205, by kernel_rfl, by kernel_rfl, by kernel_rfl⟩
theorem w_67 (s : ByteArray) (nb : Bool) (w : Int) (dg : Int) (sc : Int) (sg : Bool) (k : Nat) (cap : Nat) (dr : Int) (f : Int) (cr : Bool) (fl : Int) (fm : Int) (t : ByteArray) (d : List Value) (hR : rowIOK d k cap = true) (hk : k ≤ 1000) (hc : cN (zc d k) ≤ t.size)
  {R : Value → Prop} (hV : R (.string (sz (gsGo (zc d k) (bz t))))) :
  DoesM Tryz.prog G37 (oneL 0 S67_0.hA) Tryz.f205 [.pointer (some ⟨0, 0, some 0⟩), .string t] (vwF2 (fmL s nb w dg sc sg 1 k cap dr f cr fl fm) d) 2 (fun v _ _ => R v) := by
 rw [DoesM, v67]
 have h := rowIOK_iff.1 hR
 have z0 : Int.toNat 0 = 0 := rfl
 have hg : (goodL [] d && true && true && (idsLt 210 d && true)) = true := by rw [h.good]; simp [idsLt, idsL, ids_plainL h.plain]
 have hg' : (goodL [] d && true && (idsLt 210 d && true)) = true := by rw [h.good]; simp [idsLt, idsL, ids_plainL h.plain]
 have hi : (idsLt 210 d && true) = true := by simp [idsLt, idsL, ids_plainL h.plain]
 simp only [h.rlb, z0, List.drop_zero]
 refine c_t (by first | exact hg | exact hg') (c_t ?_ ⟨fun _ hn a' i' => c_t hi fun _ => ?_, fun a' i' od om oc g1 g2 => ?_⟩)
 ·show (Rw.nil.ok && (rowIOK d k cap && decide ((0 : Int) ≤ 0 ∧ (0 : Int) ≤ k ∧ k ≤ 1000 ∧ natO k = k ∧ (0 : Int) ≤ 0 ∧ (0 : Int) ≤ 0 ∧ 0 + cN ((zc d k).drop (Int.toNat 0)) ≤ t.size ∧ ((Rw.nil.z.length : Nat) : Int) ≤ 0))) = true
  rw [hR, natO_eq, z0, List.drop_zero]
  simp only [Bool.true_and, Rw.ok, Rw.z, List.length_nil, decide_eq_true_eq]
  exact ⟨by omega, by omega, by omega, trivial, by omega, by omega, by omega, by omega⟩
 ·rw [hn] at hV
  exact hV
 ·have ho := rowOK_iff.1 g1
  have hio : (idsLt 210 d && (idsLt 210 od && true)) = true := by simp [idsLt, idsL, ids_plainL h.plain, ids_plainL ho.plain]
  have s3 := ho.str
  have g3 : zc od om = gsGo (zc d k) (bz t) := by rw [g2]; rfl
  rw [g3] at s3
  exact c_t hio fun _ => c_t s3.1 (by rw [s3.2]; exact hV)
def h67 : List Value → Lk → Nat → (Value → Lk → Nat → Prop) → Prop := fun args m n K => match args with
 | [.pointer (some ⟨a, 0, some 0⟩), .string t] => match m a with
  | some ⟨[.string s, .bool nb, .int .i64 w, .int .i64 dg, .int .i64 sc, .bool sg, .slice (some ⟨y, 0, some 1⟩) k cap, .int .u8 dr, .int .i64 f, .bool cr, .int .u8 fl, .int .i64 fm], 156, own⟩ => match m y with
   | some ⟨d, 251, own2⟩ => match cnd (rowIOK d k cap && decide (k ≤ 1000 ∧ cN (zc d k) ≤ t.size)) with
    | true => ∀ e : ByteArray, sz (gsGo (zc d k) (bz t)) = e → K (.string e) m n
    | false => False
   | _ => False
  | _ => False
 | _ => False
theorem h67_ok : GenOK Tryz.prog 205 h67 := by
 refine gen_sub ok_G37 hmix fn67 l67_0 fun args m n K h => ?_
 unfold h67 at h
 split at h
 case h_2 => exact h.elim
 rename_i a t
 split at h
 case h_2 => exact h.elim
 rename_i s nb w dg sc sg y k cap dr f cr fl fm own hm
 split at h
 case h_2 => exact h.elim
 rename_i d own2 hy
 split at h
 case h_2 => exact h.elim
 rename_i hc
 simp only [cnd, Bool.and_eq_true, decide_eq_true_eq] at hc
 obtain ⟨h1, h2, h3⟩ := hc
 refine ⟨[.pointer (some ⟨0, 0, some 0⟩), .string t], _, 2, rho2 a y, .string (sz (gsGo (zc d k) (bz t))), sub_F2 (rowIOK_iff.1 h1).plain hm hy, fun ι => by simp [ren, ren1, rho2], Nat.le_of_ble_eq_true (by kernel_rfl), fun v hv j hj => ?_, rfl,
  w_67 s nb w dg sc sg k cap dr f cr fl fm t d h1 h2 h3 (R := fun v => v = .string (sz (gsGo (zc d k) (bz t)))) rfl, h _ rfl⟩
 simp at hv
 rcases hv with rfl | rfl
 ·have : j = 0 := by simpa [ids] using hj
  omega
 ·simp [ids] at hj
def V71_0 : ByteArray × Bool × List Value × Nat × Nat × Int × Int → List Value := fun (s, r, d, m, cap, L, i) => [S s, B r, .slice (some ⟨300, 0, some 1⟩) m cap, I L, I i]
def B71_0 : ByteArray × Bool × List Value × Nat × Nat × Int × Int → List (Option Blk) := fun (s, r, d, m, cap, L, i) => [some ⟨d, 5, false⟩]
def S71_0 : LSpecA (ByteArray × Bool × List Value × Nat × Nat × Int × Int) where
 live := [0, 4, 15, 16, 17]
 mid := [300]
 n := 310
 ap := [(.tmp 15, 300)]
 dec vs bs := match vs, bs with | [.string s, .bool r, .slice (some ⟨300, 0, some 1⟩) m cap, .int .i64 L, .int .i64 i], [some ⟨d, 5, false⟩] => some (s, r, d, m, cap, L, i) | _, _ => none
 pre := fun (s, r, d, m, cap, L, i) => vwOK d m && ((bz s).all (hasZ [65, 88, 57]) && decide (0 ≤ i ∧ i ≤ m ∧ L = m ∧ s.size = m ∧ m ≤ 1000))
 fin := fun (s, r, d, m, cap, L, i) Z => (bif onGo ((bz s).drop i.toNat) ((zc d m).drop i.toNat) then ∀ i', Z (.exit 0) [S s, B r, .slice (some ⟨300, 0, some 1⟩) m cap, I L, I i'] [some ⟨d, 5, false⟩] else ∀ i', Z .ret [S s, B false, .slice (some ⟨300, 0, some 1⟩) m cap, I L, I i'] [some ⟨d, 5, false⟩])
theorem r71_0 (s : ByteArray) (r : Bool) (d : List Value) (m : Nat) (cap : Nat) (L : Int) (i : Int) (jk : Tmps) (R : Exit → List Value → List (Option Blk) → Prop) : (codeQ Tryz.prog G37 noL Tryz.f147.ntmps (loopOf Tryz.f147 0) (tl S71_0.live (V71_0 (s, r, d, m, cap, L, i)) jk) (ml S71_0.mid (B71_0 (s, r, d, m, cap, L, i))) S71_0.n fun e t' m' _ => S71_0.out R e t' m') = ( bif decide (i < L) then bif decide (0 ≤ i ∧ i < (↑m : Int)) then bif isIntAt IntKind.u8 d (0 + Int.toNat i * 1) then bif decide (intAt d (0 + Int.toNat i * 1) ≥ 48) || true then bif bif decide (intAt d (0 + Int.toNat i * 1) ≥ 65) then decide (intAt d (0 + Int.toNat i * 1) ≤ 90) || (decide (intAt d (0 + Int.toNat i * 1) ≥ 97) || true) else decide (intAt d (0 + Int.toNat i * 1) ≥ 97) || true then bif decide (0 ≤ i ∧ i < (↑(ByteArray.size s) : Int)) && bif byteAt s (Int.toNat i) == 65 then bif !bif decide (intAt d (0 + Int.toNat i * 1) ≥ 65) then decide (intAt d (0 + Int.toNat i * 1) ≤ 90) || decide (intAt d (0 + Int.toNat i * 1) ≥ 97) && decide (intAt d (0 + Int.toNat i * 1) ≤ 122) else decide (intAt d (0 + Int.toNat i * 1) ≥ 97) && decide (intAt d (0 + Int.toNat i * 1) ≤ 122) then intAt d (0 + Int.toNat i * 1) != 32 || decide (0 ≤ i ∧ i < (↑(ByteArray.size s) : Int)) && bif byteAt s (Int.toNat i) == 57 then !(decide (intAt d (0 + Int.toNat i * 1) ≥ 48) && decide (intAt d (0 + Int.toNat i * 1) ≤ 57)) || true else true else decide (0 ≤ i ∧ i < (↑(ByteArray.size s) : Int)) && bif byteAt s (Int.toNat i) == 57 then !(decide (intAt d (0 + Int.toNat i * 1) ≥ 48) && decide (intAt d (0 + Int.toNat i * 1) ≤ 57)) || true else true else decide (0 ≤ i ∧ i < (↑(ByteArray.size s) : Int)) && bif byteAt s (Int.toNat i) == 57 then !(decide (intAt d (0 + Int.toNat i * 1) ≥ 48) && decide (intAt d (0 + Int.toNat i * 1) ≤ 57)) || true else true then bif bif byteAt s (Int.toNat i) == 65 then bif !bif decide (intAt d (0 + Int.toNat i * 1) ≥ 65) then decide (intAt d (0 + Int.toNat i * 1) ≤ 90) || decide (intAt d (0 + Int.toNat i * 1) ≥ 97) && decide (intAt d (0 + Int.toNat i * 1) ≤ 122) else decide (intAt d (0 + Int.toNat i * 1) ≥ 97) && decide (intAt d (0 + Int.toNat i * 1) ≤ 122) then intAt d (0 + Int.toNat i * 1) != 32 || byteAt s (Int.toNat i) == 57 && (!(decide (intAt d (0 + Int.toNat i * 1) ≥ 48) && decide (intAt d (0 + Int.toNat i * 1) ≤ 57)) && intAt d (0 + Int.toNat i * 1) != 32) else byteAt s (Int.toNat i) == 57 && (!(decide (intAt d (0 + Int.toNat i * 1) ≥ 48) && decide (intAt d (0 + Int.toNat i * 1) ≤ 57)) && intAt d (0 + Int.toNat i * 1) != 32) else byteAt s (Int.toNat i) == 57 && (!(decide (intAt d (0 + Int.toNat i * 1) ≥ 48) && decide (intAt d (0 + Int.toNat i * 1) ≤ 57)) && intAt d (0 + Int.toNat i * 1) != 32) then bif goodL [(300, 300)] d && true && true then R Exit.ret [S s, B false, .slice (some (.mk 300 0 (some 1))) m cap, I L, I i] [some (.mk (rlbL [(300, 300)] d) 5 false)] else False else bif goodL [(300, 300)] d && true && true then R Exit.normal [S s, B r, .slice (some (.mk 300 0 (some 1))) m cap, I L, I (IntKind.wrap .i64 (i + 1))] [some (.mk (rlbL [(300, 300)] d) 5 false)] else False else False else False else False else False else False else bif goodL [(300, 300)] d && true && true then R (Exit.exit 0) [S s, B r, .slice (some (.mk 300 0 (some 1))) m cap, I L, I i] [some (.mk (rlbL [(300, 300)] d) 5 false)] else False) := by kernel_rfl
theorem l71_0 : LOKf Tryz.prog (oneL 0 S71_0.hA) Tryz.f147 := by
 refine lokf_one (h := S71_0.hA) (by kernel_rfl) (loop_specA ok_G37 hmix (by kernel_rfl) (lok_none _) S71_0 V71_0 B71_0 (fun (s, r, d, m, cap, L, i) => (m - i).toNat) ?_ ?_ ?_)
 ·intro vs bs s h
  simp only [S71_0] at h
  split at h
  all_goals first | (cases h; exact ⟨rfl, rfl⟩) | cases h | (split at h <;> first | (rename_i hq; cases h; have hq := Nat.eq_of_beq_eq_true hq; subst hq; exact ⟨rfl, rfl⟩) | cases h)
 ·exact fun ⟨s, r, d, m, cap, L, i⟩ hp => by
   simp only [S71_0, Bool.and_eq_true] at hp
   have hv := vwOK_iff.1 hp.1
   simp [V71_0, B71_0, S71_0, idsLt, idsLtB, idsL, ids, ids_plainL hv.plain]
 ·intro ⟨s, r, d, m, cap, L, i⟩ jk Z hp hf
  rw [r71_0]
  simp only [S71_0] at hp hf
  simp only [Bool.and_eq_true, decide_eq_true_eq] at hp
  obtain ⟨hV, hA, hp⟩ := hp
  have hv := vwOK_iff.1 hV
  have e0 : 0 + i.toNat * 1 = i.toNat := by omega
  rw [e0]
  simp only [hv.rlb]
  have hg : ∀ ps, (goodL ps d && true && true) = true := fun ps => by rw [goodL_plain hv.plain]; rfl
  refine cond_intro (fun h => ?_) (fun h => ?_)
  ·have h := of_decide_eq_true h
   obtain ⟨a1, a2, a3⟩ := hv.at hp.1 (by omega)
   have hcb : byteAt s i.toNat = 65 ∨ byteAt s i.toNat = 88 ∨ byteAt s i.toNat = 57 := by
    have hm : byteAt s i.toNat ∈ bz s := List.drop_subset i.toNat (bz s) (by rw [bz_at hp.1 (by omega)]; exact List.mem_cons_self)
    have := List.all_eq_true.1 hA _ hm
    have := hasZ_iff.1 this
    simp only [List.mem_cons, List.not_mem_nil, or_false] at this
    omega
   rw [bz_at hp.1 (by omega), a3, onGo] at hf
   rw [a1, w64 (n := i + 1) (by omega), decide_eq_true (show 0 ≤ i ∧ i < (m : Int) by omega), decide_eq_true (show 0 ≤ i ∧ i < (s.size : Int) by omega)]
   generalize intAt d i.toNat = b at *
   generalize byteAt s i.toNat = c at *
   have el : (bif decide (b ≥ 65) then decide (b ≤ 90) || decide (b ≥ 97) && decide (b ≤ 122) else decide (b ≥ 97) && decide (b ≤ 122)) = letZ b := by
    unfold letZ
    rw [Bool.eq_iff_iff]
    by_cases h1 : b ≥ 65 <;> simp [h1] <;> omega
   have ed : (decide (b ≥ 48) && decide (b ≤ 57)) = isDig b := by
    rw [Bool.eq_iff_iff]
    simp [isDig]
   rw [el, ed]
   have key : (bif c == 65 then bif !letZ b then b != 32 || c == 57 && (!isDig b && b != 32) else c == 57 && (!isDig b && b != 32) else c == 57 && (!isDig b && b != 32)) = !oneZ c b := by
    unfold oneZ
    rcases hcb with rfl | rfl | rfl <;> by_cases h2 : b = 32 <;> simp [h2] <;> cases letZ b <;> cases isDig b <;> simp
   rw [key]
   refine c_t rfl (c_t rfl (c_t (by simp) (c_t (by cases decide (b ≥ 65) <;> simp) (c_t (by cases c == 65 <;> cases !letZ b <;> cases c == 57 <;> simp) (cond_intro (fun q => c_t (hg _) ?_) (fun q => c_t (hg _) ?_))))))
   ·have q : oneZ c b = false := by simpa using q
    rw [q, Bool.false_and, cond_false] at hf
    exact hf i
   ·have q : oneZ c b = true := by simpa using q
    rw [q, Bool.true_and] at hf
    exact ⟨(s, r, d, m, cap, L, i + 1), rfl, rfl, by simp only [S71_0, Bool.and_eq_true, decide_eq_true_eq]; exact ⟨hV, hA, by omega⟩, by simp only; omega, hf⟩
  ·have h := of_decide_eq_false h
   have hz : (bz s).drop i.toNat = [] := List.drop_eq_nil_of_le (by rw [bz_length]; omega)
   rw [hv.end (by omega), hz] at hf
   exact c_t (hg _) (hf i)
def s71 (s : ByteArray) (t : ByteArray) : Bool × Value := ((bz s).all (hasZ [65, 88, 57]) && decide (s.size ≤ 1000 ∧ t.size ≤ 9223372036854775807), .bool (decide ((t.size : Int) = s.size) && onGo (bz s) (bz t)))
theorem fn71 : Fn1 Tryz.prog 147 Tryz.f147 := ⟨Tryz.func147, by kernel_rfl, by kernel_rfl, by kernel_rfl⟩
theorem v71 (s : ByteArray) (t : ByteArray) (R : Value → Prop) : bodyQ Tryz.prog G37 (oneL 0 S71_0.hA) Tryz.f147 [Enc.enc s, Enc.enc t] (fun _ => none) 0 (fun v _ _ => R v) = ( bif (↑(ByteArray.size t) : Int) != (↑(ByteArray.size s) : Int) then R (B false) else ∀ (cap : Nat), Nat.ble (ByteArray.size t) cap = true → bif goodL [(7, 300)] (Lib.strCells t) && true && true && (idsLt 310 (rlbL [(7, 300)] (Lib.strCells t)) && true) then bif LSpec.pre (LSpecA.toLSpec S71_0) (s, false, rlbL [(7, 300)] (Lib.strCells t), ByteArray.size t, cap, natO (ByteArray.size t), 0) then bif onGo (List.drop (Int.toNat 0) (bz s)) (List.drop (Int.toNat 0) (zc (rlbL [(7, 300)] (Lib.strCells t)) (ByteArray.size t))) then ∀ (i' : Int), bif idsLt 310 (rlbL [(7, 300)] (Lib.strCells t)) && true then ∀ (x : Tmps), R (B true) else False else ∀ (i' : Int), bif idsLt 310 (rlbL [(7, 300)] (Lib.strCells t)) && true then ∀ (x : Tmps), R (B false) else False else False else False) := by kernel_rfl
theorem ok71 : PureOK Tryz.prog 147 (sp2 s71) := by
 refine qure2 ok_G37 hmix fn71 l71_0 (Nat.le_of_ble_eq_true (by kernel_rfl)) fun s t hc => ?_
 rw [DoesQ, v71]
 try dsimp only [s71]
 obtain ⟨hA, hc⟩ := Bool.and_eq_true_iff.1 hc
 have hc := of_decide_eq_true hc
 obtain ⟨hv, hz⟩ := vw_str t
 have hV := vwOK_iff.2 hv
 refine cond_intro (fun h => ?_) (fun h => fun cap _ => ?_)
 ·have h : ¬ (t.size : Int) = s.size := by simpa using h
  rw [decide_eq_false h]
  rfl
 ·have h : (t.size : Int) = s.size := by simpa using h
  have hg : (goodL [(7, 300)] (Lib.strCells t) && true && true && (idsLt 310 (Lib.strCells t) && true)) = true := by rw [goodL_plain hv.plain]; simp [idsLt, idsL, ids_plainL hv.plain]
  have hi : (idsLt 310 (Lib.strCells t) && true) = true := by simp [idsLt, idsL, ids_plainL hv.plain]
  have z0 : Int.toNat 0 = 0 := rfl
  simp only [hv.rlb, z0, List.drop_zero, hz]
  refine c_t hg (c_t ?_ ?_)
  ·show (vwOK (Lib.strCells t) t.size && ((bz s).all (hasZ [65, 88, 57]) && decide ((0 : Int) ≤ 0 ∧ (0 : Int) ≤ t.size ∧ natO t.size = t.size ∧ s.size = t.size ∧ t.size ≤ 1000))) = true
   rw [hV, hA, natO_eq]
   simp only [Bool.true_and, decide_eq_true_eq]
   exact ⟨by omega, by omega, trivial, by omega, by omega⟩
  ·rw [decide_eq_true h, Bool.true_and]
   refine cond_intro (fun q _ => c_t hi fun _ => by rw [q]) (fun q _ => c_t hi fun _ => by rw [q])
end Go.Px
end
noncomputable section
namespace Go.Px
open Go Go.Ab Go.Proofs Go.Shelf
theorem dec_from : ∀ (l : List UInt8) (a : Nat), dgL (zl l) = true → Lib.decFrom a l = some (numZ (zl l) a).toNat ∧ 0 ≤ numZ (zl l) a
 | [], a, _ => ⟨rfl, Int.natCast_nonneg a⟩
 | b :: r, a, h => by
  have h : dgL ((b.toNat : Int) :: zl r) = true := h
  have h1 : 48 ≤ b.toNat ∧ b.toNat ≤ 57 := by
   simp only [dgL, List.all_cons, Bool.and_eq_true, decide_eq_true_eq] at h
   omega
  have h2 : dgL (zl r) = true := by
   simp only [dgL, List.all_cons, Bool.and_eq_true] at h
   exact h.2
  obtain ⟨e1, e2⟩ := dec_from r (a * 10 + (b.toNat - 48)) h2
  have e : ((a * 10 + (b.toNat - 48) : Nat) : Int) = (a : Int) * 10 + ((b.toNat : Int) - 48) := by omega
  rw [e] at e1 e2
  have hd : Lib.digitVal b = some (b.toNat - 48) := by rw [Lib.digitVal, if_pos h1]
  refine ⟨?_, e2⟩
  rw [Lib.decFrom, hd]
  exact e1
theorem atoi_dig {s : ByteArray} (h0 : 1 ≤ s.size) (h : dgL (bz s) = true) : Lib.atoi s.data.toList = some (dval (bz s)) := by
 have hb : bz s = zl s.data.toList := rfl
 have hl : s.data.toList.length = s.size := rfl
 rw [hb] at h ⊢
 generalize s.data.toList = l at *
 cases l with
 | nil => simp at hl; omega
 | cons b r =>
  have h1 : 48 ≤ b.toNat ∧ b.toNat ≤ 57 := by
   have h : dgL ((b.toNat : Int) :: zl r) = true := h
   simp only [dgL, List.all_cons, Bool.and_eq_true, decide_eq_true_eq] at h
   omega
  have n45 : (b == 45) = false := by
   cases q : b == 45 with
   | false => rfl
   | true => have := eq_of_beq q; rw [this] at h1; revert h1; decide
  have n43 : (b == 43) = false := by
   cases q : b == 43 with
   | false => rfl
   | true => have := eq_of_beq q; rw [this] at h1; revert h1; decide
  obtain ⟨e1, e2⟩ := dec_from (b :: r) 0 h
  rw [Lib.atoi, n45, n43]
  show (Lib.decNat (b :: r)).map (fun m : Nat => (m : Int)) = _
  have : Lib.decNat (b :: r) = Lib.decFrom 0 (b :: r) := rfl
  rw [this, e1, Option.map_some, dval]
  congr 1
  exact Int.toNat_of_nonneg e2
def s68 (s : ByteArray) : Bool × Value := (decide (1 ≤ s.size ∧ s.size ≤ 18) && dgL (bz s), .tuple ⟨[.int .i64 (dval (bz s)), .nilIface]⟩)
theorem ok68 : PureOK Tryz.prog 206 (sp1 s68) := shelf1 c68 fun s hc w _ => by
 simp only [s68, Bool.and_eq_true, decide_eq_true_eq] at hc
 refine (Any.strconv_Atoi (ρ := Tryz.lays172_ren) Tryz.lays172 s (dval (bz s)) hc.1.2 (atoi_dig hc.1.1 hc.2) w).mono fun e w' ⟨h1, t, h2⟩ => ⟨h1, ?_⟩
 subst h2
 exact Lib.bytesWorld_below _ _ _
theorem gs_law : ∀ (ro cs : List Int) (a : Int), okR ro → ((gsGo ro cs).length : Int) = cdg ro ∧ dgL (gsGo ro cs) = true ∧ numZ (gsGo ro cs) a = rdGo (ro.map rmk) cs a
 | [], _, _, _ => ⟨rfl, rfl, rfl⟩
 | r :: rs, cs, a, hok => by
  have hok' : okR rs := fun x hx => hok x (List.mem_cons_of_mem _ hx)
  rw [gsGo, cdg, List.map_cons, rdGo]
  have hr := rd_rng (cs.headD 0)
  have dig : ∀ l, dgL l = true → dgL ((48 + rdD (cs.headD 0)) :: l) = true := fun l h => by
   simp only [dgL, List.all_cons, Bool.and_eq_true, decide_eq_true_eq] at h ⊢
   exact ⟨by omega, h⟩
  have e : a * 10 + (48 + rdD (cs.headD 0) - 48) = a * 10 + rdD (cs.headD 0) := by omega
  rcases rmk_cases (hok r List.mem_cons_self) with rfl | rfl | rfl | rfl | rfl | rfl
  ·obtain ⟨h1, h2, h3⟩ := gs_law rs cs.tail (a * 10 + rdD (cs.headD 0)) hok'
   refine ⟨?_, dig _ h2, ?_⟩
   ·show (((_ :: gsGo rs cs.tail).length : Nat) : Int) = 1 + cdg rs
    rw [List.length_cons]; omega
   ·show numZ (_ :: gsGo rs cs.tail) a = rdGo (rs.map rmk) cs.tail (a * 10 + rdD (cs.headD 0))
    rw [numZ, e]; exact h3
  ·obtain ⟨h1, h2, h3⟩ := gs_law rs cs.tail (a * 10 + rdD (cs.headD 0)) hok'
   refine ⟨?_, dig _ h2, ?_⟩
   ·show (((_ :: gsGo rs cs.tail).length : Nat) : Int) = 1 + cdg rs
    rw [List.length_cons]; omega
   ·show numZ (_ :: gsGo rs cs.tail) a = rdGo (rs.map rmk) cs.tail (a * 10 + rdD (cs.headD 0))
    rw [numZ, e]; exact h3
  ·obtain ⟨h1, h2, h3⟩ := gs_law rs cs a hok'
   exact ⟨by simpa using h1, h2, h3⟩
  ·obtain ⟨h1, h2, h3⟩ := gs_law rs cs.tail a hok'
   exact ⟨by simpa using h1, h2, h3⟩
  ·obtain ⟨h1, h2, h3⟩ := gs_law rs cs.tail a hok'
   exact ⟨by simpa using h1, h2, h3⟩
  ·obtain ⟨h1, h2, h3⟩ := gs_law rs cs.tail a hok'
   exact ⟨by simpa using h1, h2, h3⟩
end Go.Px
end
noncomputable section
set_option maxHeartbeats 3200000
namespace Go.Px
open Go Go.Ab Go.Proofs Go.Shelf
def G38 : Env := (((Env.nil.addG 136 h62).addG 207 h64).addG 205 h67).add 206 (sp1 s68)
theorem ok_G38 : EnvOK Tryz.prog G38 := env_add (env_addG (env_addG (env_addG env_nil h62_ok) h64_ok) h67_ok) ok68
theorem cN_nv : ∀ (rs : List Int), okR rs → cN rs = nv (rs.map rmk)
 | [], _ => rfl
 | r :: rs, hok => by
  have hok' : okR rs := fun x hx => hok x (List.mem_cons_of_mem _ hx)
  have ih := cN_nv rs hok'
  rw [cN, List.map_cons, nv_cons]
  rcases rmk_cases (hok r List.mem_cons_self) with rfl | rfl | rfl | rfl | rfl | rfl <;> simp [rmk] <;> omega
theorem gs_use {s t : ByteArray} (h : pN (bz s) = true) : digZ (rdA (bz s) (bz t)) (pD (bz s)).toNat = gsGo (rolF (pS (bz s))) (bz t) ∧ 0 ≤ rdA (bz s) (bz t) ∧ rdA (bz s) (bz t) < tenZ (pD (bz s)).toNat ∧ dval (gsGo (rolF (pS (bz s))) (bz t)) = rdA (bz s) (bz t) ∧ cN (rolF (pS (bz s))) = pW (bz s) := by
 have hl := pS_len s
 obtain ⟨f1, f2, f3, _⟩ := pic_facts hl h
 obtain ⟨g1, g2, g3⟩ := gs_law (rolF (pS (bz s))) (bz t) 0 f1
 have hp := pD_rng h
 have hv : dval (gsGo (rolF (pS (bz s))) (bz t)) = rdA (bz s) (bz t) := by rw [dval, g3, f2, rdA]
 have hlen : (gsGo (rolF (pS (bz s))) (bz t)).length = (pD (bz s)).toNat := by omega
 have hr := dval_rng _ g2
 rw [hv, hlen] at hr
 refine ⟨by rw [← hv]; exact digZ_val' _ _ hlen g2, hr.1, hr.2, hv, by rw [cN_nv _ f1, f2, pN_nv h]⟩
def s22 (s : ByteArray) (t : ByteArray) : Bool × Value := (decide (s.size ≤ 9223372036854775807 ∧ t.size ≤ 9223372036854775807), .tuple ⟨[.int .i64 (rdV (bz s) (bz t)).1, .int .i64 (rdV (bz s) (bz t)).2]⟩)
theorem fn22 : Fn1 Tryz.prog 146 Tryz.f146 := ⟨Tryz.func146, by kernel_rfl, by kernel_rfl, by kernel_rfl⟩
theorem v22 (s : ByteArray) (t : ByteArray) (R : Value → Prop) : bodyQ Tryz.prog G38 noL Tryz.f146 [Enc.enc s, Enc.enc t] (fun _ => none) 0 (fun v _ _ => R v) = ( bif decide (ByteArray.size s ≤ 9223372036854775807) then bif pN (bz s) then ∀ (k cap : Nat) (d : List Value), rowIOK d k cap = true → zc d k = rolF (pS (bz s)) → bif (↑(ByteArray.size t) : Int) != pW (bz s) then R (.tuple (.mk [I 0, I 31])) else bif rowIOK d k cap && decide (k ≤ 1000 ∧ cN (zc d k) ≤ (↑(ByteArray.size t) : Int)) then ∀ (e : ByteArray), sz (gsGo (zc d k) (bz t)) = e → bif decide (1 ≤ ByteArray.size e ∧ ByteArray.size e ≤ 18) && dgL (bz e) then bif rowIOK d k cap && (roOK (zc d k) && (dgL (bz e) && decide ((k ≤ 1000 ∧ ByteArray.size e ≤ 1000 ∧ k ≤ ByteArray.size (sz (pS (bz s))) ∧ ByteArray.size (sz (pS (bz s))) ≤ 1000 ∧ 0 ≤ pW (bz s) ∧ pW (bz s) ≤ 1000) ∧ cdg (zc d k) ≤ (↑(ByteArray.size e) : Int) ∧ (fdFl (pS (bz s)) = 32 ∨ fdFl (pS (bz s)) = 42)))) then ∀ (t_1 : ByteArray) (l : Int), sz (Prod.fst (wrV (bz (sz (pS (bz s)))) (pW (bz s)) (Prod.snd (Prod.snd (nD (bodyZ (pS (bz s)))))) (crZ (pS (bz s))) (drZ (bodyZ (pS (bz s)))) (fdFl (pS (bz s))) (↑(cntZ (mkGo (drZ (bodyZ (pS (bz s)))) false (bodyZ (pS (bz s)))) 100) : Int) (zc d k) (bz e) false)) = t_1 → Prod.snd (wrV (bz (sz (pS (bz s)))) (pW (bz s)) (Prod.snd (Prod.snd (nD (bodyZ (pS (bz s)))))) (crZ (pS (bz s))) (drZ (bodyZ (pS (bz s)))) (fdFl (pS (bz s))) (↑(cntZ (mkGo (drZ (bodyZ (pS (bz s)))) false (bodyZ (pS (bz s)))) 100) : Int) (zc d k) (bz e) false) = l → bif ByteArray.toList t_1 == ByteArray.toList t then R (.tuple (.mk [I (dval (bz e)), I 0])) else bif rowIOK d k cap && (roOK (zc d k) && (dgL (bz e) && decide ((k ≤ 1000 ∧ ByteArray.size e ≤ 1000 ∧ k ≤ ByteArray.size (sz (pS (bz s))) ∧ ByteArray.size (sz (pS (bz s))) ≤ 1000 ∧ 0 ≤ pW (bz s) ∧ pW (bz s) ≤ 1000) ∧ cdg (zc d k) ≤ (↑(ByteArray.size e) : Int) ∧ (fdFl (pS (bz s)) = 32 ∨ fdFl (pS (bz s)) = 42)))) then ∀ (t_2 : ByteArray) (l : Int), sz (Prod.fst (wrV (bz (sz (pS (bz s)))) (pW (bz s)) (Prod.snd (Prod.snd (nD (bodyZ (pS (bz s)))))) (crZ (pS (bz s))) (drZ (bodyZ (pS (bz s)))) (fdFl (pS (bz s))) (↑(cntZ (mkGo (drZ (bodyZ (pS (bz s)))) false (bodyZ (pS (bz s)))) 100) : Int) (zc d k) (bz e) true)) = t_2 → Prod.snd (wrV (bz (sz (pS (bz s)))) (pW (bz s)) (Prod.snd (Prod.snd (nD (bodyZ (pS (bz s)))))) (crZ (pS (bz s))) (drZ (bodyZ (pS (bz s)))) (fdFl (pS (bz s))) (↑(cntZ (mkGo (drZ (bodyZ (pS (bz s)))) false (bodyZ (pS (bz s)))) 100) : Int) (zc d k) (bz e) true) = l → bif bif ByteArray.toList t_2 == ByteArray.toList t then pG (bz s) || true else true then bif ByteArray.toList t_2 == ByteArray.toList t && (pG (bz s) && decide (dval (bz e) > 0)) then R (.tuple (.mk [I (IntKind.wrap .i64 (0 - dval (bz e))), I 0])) else R (.tuple (.mk [I 0, I 31])) else False else False else False else False else False else R (.tuple (.mk [I 0, I 30])) else False) := by kernel_rfl
theorem ok22 : PureOK Tryz.prog 146 (sp2 s22) := by
 refine qure2 ok_G38 hmix fn22 lokf_none (Nat.le_of_ble_eq_true (by kernel_rfl)) fun s t hc => ?_
 rw [DoesQ, v22]
 have hc : (s.size ≤ 9223372036854775807 ∧ t.size ≤ 9223372036854775807) := of_decide_eq_true hc
 try dsimp only [s22]
 refine c_t (decide_eq_true hc.1) (cond_intro (fun h => ?_) (fun h => ?_))
 ·intro k cap d hR hz
  obtain ⟨u1, u2, u3, u4, u5⟩ := gs_use (t := t) h
  have hl := pS_len s
  have hr := rowIOK_iff.1 hR
  have hk : k = (pS (bz s)).length := by rw [← rol_len h, ← hz, zi_length hr]
  have hp := pD_rng h
  have bl : ((bz t).length : Int) = t.size := by rw [bz_length]
  refine cond_intro (fun hw => ?_) (fun hw => ?_)
  ·have hw : ¬ (t.size : Int) = pW (bz s) := by simpa using hw
   rw [rdV, if_pos h, bl, if_neg hw]
  ·have hw : (t.size : Int) = pW (bz s) := by simpa using hw
   refine c_t (by rw [hR, hz, u5]; simp only [Bool.true_and, decide_eq_true_eq]; omega) fun e he => ?_
   rw [hz, ← u1] at he
   have hdd := digZ_dg (pD (bz s)).toNat (rdA (bz s) (bz t))
   have be : bz e = digZ (rdA (bz s) (bz t)) (pD (bz s)).toNat := by rw [← he, bz_sz (dg_isB hdd)]
   have ze : e.size = (pD (bz s)).toNat := by rw [← bz_length, be, digZ_len]
   have hv : dval (bz e) = rdA (bz s) (bz t) := by rw [be, u1, u4]
   rw [hv, rdV, if_pos h, bl, if_pos hw]
   generalize rdA (bz s) (bz t) = m at *
   have hm : ((m.natAbs : Nat) : Int) = m := by omega
   have hm' : (((0 - m).natAbs : Nat) : Int) = m := by omega
   obtain ⟨g1, g2⟩ := wr_use h hR hz (m := m) (by omega)
   obtain ⟨k1, k2⟩ := wr_use h hR hz (m := 0 - m) (by omega)
   rw [hm, he] at g1 g2
   rw [hm', he] at k2
   have d0 : decide (m < 0) = false := decide_eq_false (by omega)
   rw [d0] at g2
   have ht : tenZ (pD (bz s)).toNat ≤ 1000000000 := tenZ_le9 (by omega)
   have hF : ∀ (a : ByteArray) (n : Int), sz (fieldZ (pS (bz s)) (pW (bz s)) (pD (bz s)).toNat n) = a → (a.toList == t.toList) = decide (fdN (bz s) n = bz t) := fun a n e => by
    rw [toList_beq, ← e, bz_sz (field_isB hl.1 _ _ _)]
    rfl
   refine c_t (by rw [be, hdd, ze, Bool.and_true, decide_eq_true_eq]; omega) (c_t g1 fun a1 l1 q1 q2 => cond_intro (fun p => ?_) (fun p => c_t g1 fun a2 l2 q3 q4 => ?_))
   ·rw [hF _ _ (by rw [← q1, g2])] at p
    rw [if_pos (of_decide_eq_true p)]
   ·rw [hF _ _ (by rw [← q1, g2])] at p
    have p := of_decide_eq_false p
    rw [if_neg p]
    refine c_t (by cases ByteArray.toList a2 == ByteArray.toList t <;> simp) ?_
    by_cases m0 : m > 0
    ·have d1 : decide (0 - m < 0) = true := decide_eq_true (by omega)
     rw [d1] at k2
     rw [hF _ _ (by rw [← q3, k2]), w64 (n := 0 - m) (by omega)]
     by_cases r1 : fdN (bz s) (0 - m) = bz t
     ·cases hG : pG (bz s) with
      | true =>
       have : (decide (fdN (bz s) (0 - m) = bz t) && (true && decide (m > 0))) = true := by rw [decide_eq_true r1, decide_eq_true m0]; rfl
       rw [this, if_pos ⟨rfl, m0, r1⟩]
       rfl
      | false =>
       rw [Bool.false_and, Bool.and_false, if_neg (fun q => by cases q.1)]
       rfl
     ·rw [decide_eq_false r1, Bool.false_and, if_neg (fun q => r1 q.2.2)]
      rfl
    ·rw [decide_eq_false m0, Bool.and_false, Bool.and_false, if_neg (fun q => m0 q.2.1)]
     rfl
 ·have h1 : ¬ pN (bz s) = true := by rw [h]; simp
  rw [rdV, if_neg h1]
def G39 : Env := ((Env.nil.addG 145 h70).add 147 (sp2 s71)).add 146 (sp2 s22)
theorem ok_G39 : EnvOK Tryz.prog G39 := env_add (env_add (env_addG env_nil h70_ok) ok71) ok22
theorem ch_all {l : List Int} (h : vOK l = true) (hn : pN l = false) : (pS l).all (hasZ [65, 88, 57]) = true := by
 have hc : charZ (exZ l) = true := by
  simp only [vOK, Bool.and_eq_true, Bool.or_eq_true] at h
  simp only [pN] at hn
  rcases h.2 with q | q
  ·exact q
  ·rw [h.1, q] at hn; cases hn
 rw [pS, if_pos h]
 simp only [charZ, Bool.and_eq_true] at hc
 exact hc.1
def s24 (s : ByteArray) (t : ByteArray) : Bool × Value := (decide (s.size ≤ 9223372036854775807 ∧ t.size ≤ 9223372036854775807), .bool (hoZ (bz s) (bz t)))
theorem fn24 : Fn1 Tryz.prog 72 Tryz.f72 := ⟨Tryz.func72, by kernel_rfl, by kernel_rfl, by kernel_rfl⟩
theorem v24 (s : ByteArray) (t : ByteArray) (R : Value → Prop) : bodyQ Tryz.prog G39 noL Tryz.f72 [Enc.enc s, Enc.enc t] (fun _ => none) 0 (fun v _ _ => R v) = ( bif decide (ByteArray.size s ≤ 9223372036854775807) then bif vOK (bz s) then bif pN (bz s) then ∀ (k cap : Nat) (d : List Value), rowIOK d k cap = true → zc d k = rolF (pS (bz s)) → bif decide (ByteArray.size s ≤ 9223372036854775807 ∧ ByteArray.size t ≤ 9223372036854775807) then R (B (Prod.snd (rdV (bz s) (bz t)) == 0)) else False else bif List.all (bz (sz (pS (bz s)))) (hasZ [65, 88, 57]) && decide (ByteArray.size (sz (pS (bz s))) ≤ 1000 ∧ ByteArray.size t ≤ 9223372036854775807) then R (B (decide ((↑(ByteArray.size t) : Int) = (↑(ByteArray.size (sz (pS (bz s)))) : Int)) && onGo (bz (sz (pS (bz s)))) (bz t))) else False else R (B false) else False) := by kernel_rfl
theorem ok24 : PureOK Tryz.prog 72 (sp2 s24) := by
 refine qure2 ok_G39 hmix fn24 lokf_none (Nat.le_of_ble_eq_true (by kernel_rfl)) fun s t hc => ?_
 rw [DoesQ, v24]
 have hc : (s.size ≤ 9223372036854775807 ∧ t.size ≤ 9223372036854775807) := of_decide_eq_true hc
 try dsimp only [s24]
 refine c_t (decide_eq_true hc.1) (cond_intro (fun h => cond_intro (fun hn => ?_) (fun hn => ?_)) (fun h => ?_))
 ·intro k cap d _ _
  refine c_t (decide_eq_true hc) ?_
  rw [hoZ, if_pos h, if_pos hn]
  rfl
 ·have hl := pS_len s
  have b1 : bz (sz (pS (bz s))) = pS (bz s) := bz_sz hl.1
  have z1 : (sz (pS (bz s))).size = (pS (bz s)).length := by rw [← bz_length, b1]
  have hn' : ¬ pN (bz s) = true := by rw [hn]; simp
  rw [b1, z1, ch_all h hn]
  refine c_t (by simp only [Bool.true_and, decide_eq_true_eq]; omega) ?_
  rw [hoZ, if_pos h, if_neg hn', pCh h hn, bz_length]
 ·have h1 : ¬ vOK (bz s) = true := by rw [h]; simp
  rw [hoZ, if_neg h1]
end Go.Px
end
section
namespace Go.Fx
open Go Go.Ab
structure Ty where
 k : Int
 p : Int
 q : Int
 v : Bool
 s : ByteArray
structure Vl where
 n : Int
 s : ByteArray
instance : Enc Ty where
 enc t := .agg ⟨[.int .i64 t.k, .int .i64 t.p, .int .i64 t.q, .bool t.v, .string t.s]⟩
 dec | .agg ⟨[.int .i64 k, .int .i64 p, .int .i64 q, .bool v, .string s]⟩ => some ⟨k, p, q, v, s⟩ | _ => none
 dec_some := by
  intro v a h
  split at h
  ·cases h; rfl
  ·cases h
 plain_enc _ := rfl
instance : Enc Vl where
 enc t := .agg ⟨[.int .i64 t.n, .string t.s]⟩
 dec | .agg ⟨[.int .i64 n, .string s]⟩ => some ⟨n, s⟩ | _ => none
 dec_some := by
  intro v a h
  split at h
  ·cases h; rfl
  ·cases h
 plain_enc _ := rfl
abbrev I (n : Int) : Value := .int .i64 n
abbrev B (b : Bool) : Value := .bool b
def T0 : Ty := ⟨0, 0, 0, false, ⟨#[]⟩⟩
def V0 : Vl := ⟨0, ⟨#[]⟩⟩
abbrev tv (t : Ty) : Value := .agg ⟨[.int .i64 t.k, .int .i64 t.p, .int .i64 t.q, .bool t.v, .string t.s]⟩
abbrev vv (v : Vl) : Value := .agg ⟨[.int .i64 v.n, .string v.s]⟩
abbrev tup (l : List Value) : Value := .tuple ⟨l⟩
def most (k : Int) : Int := if k = 1 then 9 else 31
def Valid (t : Ty) : Prop := (t.k = 1 ∨ t.k = 2) ∧ 1 ≤ t.p ∧ t.p ≤ most t.k ∧ 0 ≤ t.q ∧ t.q ≤ t.p ∧ (t.k = 2 → t.q = 0) ∧ t.v = false ∧ t.s.toList = []
instance (t : Ty) : Decidable (Valid t) := by unfold Valid; infer_instance
def base (k : Int) : Int := if k = 1 then 10 else 2
def pw (b n : Int) : Int := b ^ n.toNat
def bnd (t : Ty) : Int := pw (base t.k) t.p
def check (t : Ty) : Int := if Valid t then 0 else 5
def Fit (v : Vl) (t : Ty) : Prop := v.s.toList = [] ∧ -bnd t < v.n ∧ v.n < bnd t
instance (v : Vl) (t : Ty) : Decidable (Fit v t) := by unfold Fit; infer_instance
def fits (v : Vl) (t : Ty) : Int := if Valid t then (if Fit v t then 0 else 6) else 5
def InB (n : Int) (t : Ty) : Prop := -bnd t < n ∧ n < bnd t
instance (n : Int) (t : Ty) : Decidable (InB n t) := by unfold InB; infer_instance
def tensL : List Value := [.int .i64 1, .int .i64 10, .int .i64 100, .int .i64 1000, .int .i64 10000, .int .i64 100000, .int .i64 1000000, .int .i64 10000000, .int .i64 100000000, .int .i64 1000000000,
 .int .i64 10000000000, .int .i64 100000000000, .int .i64 1000000000000, .int .i64 10000000000000, .int .i64 100000000000000, .int .i64 1000000000000000, .int .i64 10000000000000000, .int .i64 100000000000000000, .int .i64 1000000000000000000]
def R64 (n : Int) : Prop := -9223372036854775808 ≤ n ∧ n ≤ 9223372036854775807
instance (n : Int) : Decidable (R64 n) := by unfold R64; infer_instance
def zer (op b : Int) : Prop := (op = 9 ∨ op = 10) ∧ b = 0
instance (op b : Int) : Decidable (zer op b) := by unfold zer; infer_instance
def Q18 (n : Int) : Prop := -4000000000000000000 ≤ n ∧ n ≤ 4000000000000000000
instance (n : Int) : Decidable (Q18 n) := by unfold Q18; infer_instance
def quoOK (a b up : Int) : Prop := b ≠ 0 ∧ -18 ≤ up ∧ up ≤ 18 ∧ Q18 a ∧ Q18 b ∧ (0 ≤ up → Q18 (a * pw 10 up)) ∧ (up < 0 → Q18 (b * pw 10 (-up)))
instance (a b up : Int) : Decidable (quoOK a b up) := by unfold quoOK; infer_instance
def dvOK (op y : Int) : Prop := op = 10 → y ≠ 0
instance (op y : Int) : Decidable (dvOK op y) := by unfold dvOK; infer_instance
def rOK (n u : Int) : Prop := 1 ≤ u ∧ u ≤ 1000000000 ∧ -4000000000000000000 ≤ n ∧ n ≤ 4000000000000000000
instance (n u : Int) : Decidable (rOK n u) := by unfold rOK; infer_instance
theorem w64 {n : Int} (h : -9223372036854775808 ≤ n ∧ n ≤ 9223372036854775807) : IntKind.i64.wrap n = n := by rw [IntKind.wrap_i64]; omega
theorem str0 (s : ByteArray) : (!s.toList == (ByteArray.mk #[]).toList) = !decide (s.toList = []) := by
 have : (ByteArray.mk #[]).toList = [] := by kernel_rfl
 rw [this]
 cases s.toList <;> rfl
end Go.Fx
namespace Go.Fx
open Go Go.Ab
theorem wrap_mul (a b : Int) : IntKind.i64.wrap (IntKind.i64.wrap a * b) = IntKind.i64.wrap (a * b) := by
 simp only [IntKind.wrap_i64]
 have h : ((a + 9223372036854775808) % 18446744073709551616 - 9223372036854775808) * b = a * b + 18446744073709551616 * (-((a + 9223372036854775808) / 18446744073709551616) * b) := by
  have := Int.emod_def (a + 9223372036854775808) 18446744073709551616
  rw [this]
  grind
 rw [h]
 omega
theorem pw_zero (b : Int) {n : Int} (h : n ≤ 0) : pw b n = 1 := by
 rw [pw, show n.toNat = 0 by omega, Int.pow_zero]
theorem pw_succ (b : Int) {n : Int} (h : 0 ≤ n) : pw b (n + 1) = pw b n * b := by
 rw [pw, pw, show (n + 1).toNat = n.toNat + 1 by omega, Int.pow_succ]
theorem pw_add (b : Int) {n m : Int} (h : 0 ≤ n) (h' : 0 ≤ m) : pw b (n + m) = pw b n * pw b m := by
 rw [pw, pw, pw, show (n + m).toNat = n.toNat + m.toNat by omega, Int.pow_add]
theorem pw_pos {b : Int} (hb : 1 ≤ b) (n : Int) : 1 ≤ pw b n := by
 have : 0 < b ^ n.toNat := Int.pow_pos (by omega)
 unfold pw; omega
theorem pw_le {b : Int} (hb : 1 ≤ b) {n m : Int} (h : n ≤ m) : pw b n ≤ pw b m := by
 rcases Int.le_total n 0 with hn | hn
 ·rw [pw_zero b hn]; exact pw_pos hb m
 ·have e : m = n + (m - n) := by omega
  rw [e, pw_add b hn (by omega)]
  have h1 := pw_pos hb n
  have h2 := pw_pos hb (m - n)
  have := Int.mul_le_mul_of_nonneg_left h2 (show 0 ≤ pw b n by omega)
  omega
theorem pw10_18 : pw 10 18 = 1000000000000000000 := by decide
theorem pw10_9 : pw 10 9 = 1000000000 := by decide
theorem pw2_31 : pw 2 31 = 2147483648 := by decide
end Go.Fx
namespace Go.Fx
open Go Go.Ab
theorem tens_nat : ∀ n : Nat, n < 19 → isIntAt .i64 tensL n = true ∧ intAt tensL n = 10 ^ n := by decide
theorem tens_at {p : Int} (h : 0 ≤ p) (h' : p < 19) : isIntAt .i64 tensL p.toNat = true ∧ intAt tensL p.toNat = pw 10 p := tens_nat _ (by omega)
theorem shl_pw {p : Int} (h : 0 ≤ p) (h' : p ≤ 62) : IntKind.i64.wrap (1 * 2 ^ min p.toNat 64) = pw 2 p := by
 have h1 := pw_le (b := 2) (by omega) h'
 have h2 := pw_pos (b := 2) (by omega) p
 have h3 : pw 2 62 = 4611686018427387904 := by decide
 rw [show min p.toNat 64 = p.toNat by omega, Int.one_mul]
 exact w64 (by show _ ≤ pw 2 p ∧ pw 2 p ≤ _; omega)
theorem pw_w64 {b p : Int} (h : b = 10 ∧ p ≤ 18 ∨ b = 2 ∧ p ≤ 62) : IntKind.i64.wrap (pw b p) = pw b p := by
 have h3 : pw 2 62 = 4611686018427387904 := by decide
 have h4 := pw10_18
 rcases h with ⟨rfl, h⟩ | ⟨rfl, h⟩
 ·have h1 := pw_le (b := 10) (by omega) h
  have h2 := pw_pos (b := 10) (by omega) p
  exact w64 (by omega)
 ·have h1 := pw_le (b := 2) (by omega) h
  have h2 := pw_pos (b := 2) (by omega) p
  exact w64 (by omega)
end Go.Fx
namespace Go.Fx
open Go Go.Ab
theorem bnd_range {t : Ty} (h : Valid t) : 2 ≤ bnd t ∧ bnd t ≤ 2147483648 := by
 obtain ⟨hk, h1, h2, _⟩ := h
 unfold bnd
 rcases hk with hk | hk
 ·simp only [hk, most, base] at *
  have a := pw_le (b := 10) (by omega) h1
  have b := pw_le (b := 10) (by omega) (show t.p ≤ 9 by simpa using h2)
  have c := pw10_9
  have d : pw 10 1 = 10 := by decide
  simp only [if_true]
  omega
 ·simp only [hk, most, base] at *
  have a := pw_le (b := 2) (by omega) h1
  have b := pw_le (b := 2) (by omega) (show t.p ≤ 31 by simpa using h2)
  have c := pw2_31
  have d : pw 2 1 = 2 := by decide
  simp only [show ¬ ((2 : Int) = 1) by decide, if_false]
  omega
end Go.Fx
namespace Go.Fx
end Go.Fx
namespace Go.Fx
open Go Go.Ab
theorem valid_r {t : Ty} (h : Valid t) : 1 ≤ t.p ∧ t.p ≤ 31 ∧ 0 ≤ t.q ∧ t.q ≤ t.p ∧ t.q ≤ 9 := by grind [Valid, most]
end Go.Fx
namespace Go.Fx
open Go Go.Ab
end Go.Fx
end
section
namespace Go.Cv
def dig (c : Int) : Bool := decide (48 ≤ c ∧ c ≤ 57)
def bitsZ (l : List Int) : Bool := l.all fun c => decide (c = 48 ∨ c = 49)
abbrev Num := Bool × List Int × Int
section
variable (normZ : Bool → List Int → Int → Num) (binD : List Int → List Int)
structure Rd where
 neg : Bool := false
 bin : Bool := false
 down : Bool := false
 ds : List Int := []
 sc : Int := 0
 pw : Int := 0
end
section
variable {normZ : Bool → List Int → Int → Num} {binD : List Int → List Int}
end
end Go.Cv
end
noncomputable section
namespace Go.Cx
open Go Go.Ab Go.Proofs Go.Shelf Go.Px
open Go.Fx (Ty Vl)
structure Nu where
 g : Bool
 d : ByteArray
 c : Int
instance : Enc Nu where
 enc t := .agg ⟨[.bool t.g, .string t.d, .int .i64 t.c]⟩
 dec | .agg ⟨[.bool g, .string d, .int .i64 c]⟩ => some ⟨g, d, c⟩ | _ => none
 dec_some := by
  intro v a h
  split at h
  ·cases h; rfl
  ·cases h
 plain_enc _ := rfl
theorem c154 : Callable Tryz.prog 154 := cal Tryz.func154 (by kernel_rfl) (by kernel_rfl)
theorem c131 : Callable Tryz.prog 131 := cal Tryz.func131 (by kernel_rfl) (by kernel_rfl)
theorem c55 : Callable Tryz.prog 55 := cal Tryz.func55 (by kernel_rfl) (by kernel_rfl)
theorem c30 : Callable Tryz.prog 30 := cal Tryz.func30 (by kernel_rfl) (by kernel_rfl)
theorem c29 : Callable Tryz.prog 29 := cal Tryz.func29 (by kernel_rfl) (by kernel_rfl)
def tlZ (l : List Int) (c : Int) : List Int := l.dropWhile (· == c)
def trZ (l : List Int) (c : Int) : List Int := (l.reverse.dropWhile (· == c)).reverse
noncomputable def s154 (s t : ByteArray) : Bool × Value := (oneB t && asc (bz t), .string (szO (tlZ (bz s) ((bz t).getD 0 0))))
theorem ok154 : PureOK Tryz.prog 154 (sp2 s154) := shelf2 c154 fun s t hc w _ => by
 simp only [s154, Bool.and_eq_true] at hc
 obtain ⟨c, h1, h2⟩ := oneB_spec hc.1
 have hlt : c.toNat < 128 := asc_spec hc.2 0 c (by rw [h1]; rfl)
 have e : Enc.enc t = Value.string ⟨#[c]⟩ := congrArg Value.string h1
 rw [e]
 refine (Any.strings_TrimLeft_one Tryz.lays161 s c hlt w).mono fun e w' ⟨h3, h4⟩ => ⟨?_, below_of_eq h4⟩
 rw [h3, sz_zl]
 simp only [s154, Lib.trimLeftB, szO_eq, tlZ]
 rw [dropW_zl (q := (· == (bz t).getD 0 0)) (fun b => by rw [← h2, Bool.eq_iff_iff, beq_iff_eq, beq_iff_eq, u8_eq]), bz_zl]
noncomputable def s131 (s t : ByteArray) : Bool × Value := (decide (s.size ≤ 9223372036854775807) && (oneB t && asc (bz t)), .string (szO (trZ (bz s) ((bz t).getD 0 0))))
theorem ok131 : PureOK Tryz.prog 131 (sp2 s131) := shelf2 c131 fun s t hc w _ => by
 simp only [s131, Bool.and_eq_true, decide_eq_true_eq] at hc
 obtain ⟨c, h1, h2⟩ := oneB_spec hc.2.1
 have hlt : c.toNat < 128 := asc_spec hc.2.2 0 c (by rw [h1]; rfl)
 have e : Enc.enc t = Value.string ⟨#[c]⟩ := congrArg Value.string h1
 rw [e]
 refine (Any.strings_TrimRight_one Tryz.lays162 s c hlt w hc.1).mono fun e w' ⟨h3, h4⟩ => ⟨?_, below_of_eq h4⟩
 rw [h3, sz_zl]
 simp only [s131, Lib.trimRightB, szO_eq, trZ]
 rw [zl, List.map_reverse]
 have hq : ∀ b : UInt8, (b == c) = ((b.toNat : Int) == (bz t).getD 0 0) := fun b => by rw [← h2, Bool.eq_iff_iff, beq_iff_eq, beq_iff_eq, u8_eq]
 have := dropW_zl (p := (· == c)) (q := (· == (bz t).getD 0 0)) hq s.data.toList.reverse
 rw [zl, zl, List.map_reverse] at this
 rw [this]
 rfl
noncomputable def s55 (s t : ByteArray) : Bool × Value := (decide (s.size ≤ 9223372036854775807) && (decide (t.size ≤ 1000) && asc (bz t)), .string (szO (trimZ (bz s) (bz t))))
theorem ok55 : PureOK Tryz.prog 55 (sp2 s55) := shelf2 c55 fun s t hc w _ => by
 simp only [s55, Bool.and_eq_true, decide_eq_true_eq] at hc
 obtain ⟨h1, h2, h3⟩ := hc
 refine (Any.strings_Trim_laid Tryz.lays160 info128' s t w (by omega) (by omega) (asc_spec h3)).mono fun e w' ⟨h5, h6⟩ => ⟨?_, h6⟩
 rw [h5, sz_zl, trim_zl]
 simp only [s55, szO_eq]
 rfl
def s30 (s : ByteArray) (n : Int) : Bool × Value := (decide (0 ≤ n ∧ n ≤ 1000 ∧ s.size ≤ 1000), .string (szO (repZ (bz s) n.toNat)))
theorem ok30 : PureOK Tryz.prog 30 (sp2 s30) := shelf2 c30 fun s n hc w _ => by
 obtain ⟨h1, h2, h3⟩ := of_decide_eq_true hc
 have e : Enc.enc n = Value.int .i64 (n.toNat : Int) := by
  show Value.int .i64 n = _
  rw [Int.toNat_of_nonneg h1]
 rw [e]
 have hm : s.size * n.toNat ≤ 1000 * 1000 := Nat.mul_le_mul h3 (by omega)
 refine (Any.strings_Repeat Tryz.lays105 Tryz.Builder_Extra_105 s n.toNat w (by omega) (by omega)).mono fun e w' ⟨h4, h5⟩ => ⟨?_, h5⟩
 rw [h4, sz_zl, rep_zl]
 simp only [s30, szO_eq]
 rfl
def itoZ (n : Int) : List Int := zl (Lib.itoa n)
def s29 (n : Int) : Bool × Value := (decide (-9223372036854775808 ≤ n ∧ n ≤ 9223372036854775807), .string (szO (itoZ n)))
theorem ok29 : PureOK Tryz.prog 29 (sp1 s29) := shelf1 c29 fun n hc w ht => by
 obtain ⟨h0, h1⟩ := of_decide_eq_true hc
 refine (Any.strconv_Itoa (ρ := Tryz.laysM171_ren) Tryz.laysM171 n h0 h1 w (tab_pow ht)).mono fun e w' ⟨h2, k, os, h3⟩ => ⟨?_, by rw [h3]; exact Lib.below_grow _ _ (Nat.le_refl _) _ _⟩
 rw [h2, sz_zl]
 simp only [s29, szO_eq]
 rfl
end Go.Cx
end
noncomputable section
set_option maxHeartbeats 3200000
namespace Go.Cx
open Go Go.Ab Go.Proofs Go.Shelf Go.Px Go.Cv
open Go.Fx (Ty Vl check Valid most base pw bnd Fit fits tv vv tup V0 T0 pw_zero pw_succ wrap_mul pw_w64 str0)
def G0 : Env := Env.nil
theorem ok_G0 : EnvOK Tryz.prog G0 := env_nil
theorem dropW0 (l : List Int) : List.drop (Int.toNat 0) l = l := rfl
theorem empty_iff (s : ByteArray) : (s.toList == (ByteArray.mk #[]).toList) = decide (bz s = []) := by
 rw [toList_beq]
 rfl
def s152 (c : U8) : Bool × Value := (true, B (c.n == 32))
theorem fn152 : Fn1 Tryz.prog 152 Tryz.f152 := ⟨Tryz.func152, by kernel_rfl, by kernel_rfl, by kernel_rfl⟩
theorem v152 (c : U8) (R : Value → Prop) : bodyQ Tryz.prog G0 noL Tryz.f152 [Enc.enc c] (fun _ => none) 0 (fun v _ _ => R v) = ( R (B (U8.n c == 32))) := by kernel_rfl
theorem ok152 : PureOK Tryz.prog 152 (sp1 s152) := by
 refine qure1 ok_G0 hmix fn152 lokf_none (Nat.le_of_ble_eq_true (by kernel_rfl)) fun c hc => ?_
 rw [DoesQ, v152]
 try dsimp only [s152]
def s213 (c : U8) : Bool × Value := (true, B (dig c.n))
theorem fn213 : Fn1 Tryz.prog 213 Tryz.f213 := ⟨Tryz.func213, by kernel_rfl, by kernel_rfl, by kernel_rfl⟩
theorem v213 (c : U8) (R : Value → Prop) : bodyQ Tryz.prog G0 noL Tryz.f213 [Enc.enc c] (fun _ => none) 0 (fun v _ _ => R v) = ( bif decide (U8.n c ≥ 48) || true then R (B (decide (U8.n c ≥ 48) && decide (U8.n c ≤ 57))) else False) := by kernel_rfl
theorem ok213 : PureOK Tryz.prog 213 (sp1 s213) := by
 refine qure1 ok_G0 hmix fn213 lokf_none (Nat.le_of_ble_eq_true (by kernel_rfl)) fun c hc => ?_
 rw [DoesQ, v213]
 try dsimp only [s213]
 refine c_t (by simp) ?_
 show Value.bool _ = Value.bool _
 congr 1
 rw [Bool.eq_iff_iff]
 simp [dig]
def s141 (k : Int) : Bool × Value := (true, I (most k))
theorem fn141 : Fn1 Tryz.prog 141 Tryz.f141 := ⟨Tryz.func141, by kernel_rfl, by kernel_rfl, by kernel_rfl⟩
theorem v141 (k : Int) (R : Value → Prop) : bodyQ Tryz.prog G0 noL Tryz.f141 [Enc.enc k] (fun _ => none) 0 (fun v _ _ => R v) = ( bif k == 1 then R (I 9) else R (I 31)) := by kernel_rfl
theorem ok141 : PureOK Tryz.prog 141 (sp1 s141) := by
 refine qure1 ok_G0 hmix fn141 lokf_none (Nat.le_of_ble_eq_true (by kernel_rfl)) fun k hc => ?_
 rw [DoesQ, v141]
 try dsimp only [s141]
 repeat' refine cond_intro (fun h => ?_) (fun h => ?_)
 all_goals grind [s141, most]
def s208 (k : Int) : Bool × Value := (true, I (base k))
theorem fn208 : Fn1 Tryz.prog 208 Tryz.f208 := ⟨Tryz.func208, by kernel_rfl, by kernel_rfl, by kernel_rfl⟩
theorem v208 (k : Int) (R : Value → Prop) : bodyQ Tryz.prog G0 noL Tryz.f208 [Enc.enc k] (fun _ => none) 0 (fun v _ _ => R v) = ( bif k == 1 then R (I 10) else R (I 2)) := by kernel_rfl
theorem ok208 : PureOK Tryz.prog 208 (sp1 s208) := by
 refine qure1 ok_G0 hmix fn208 lokf_none (Nat.le_of_ble_eq_true (by kernel_rfl)) fun k hc => ?_
 rw [DoesQ, v208]
 try dsimp only [s208]
 repeat' refine cond_intro (fun h => ?_) (fun h => ?_)
 all_goals grind [s208, base]
def G1 : Env := Env.nil.add 141 (sp1 s141)
theorem ok_G1 : EnvOK Tryz.prog G1 := env_add env_nil ok141
def s66 (t : Ty) : Bool × Value := (true, I (check t))
theorem fn66 : Fn1 Tryz.prog 66 Tryz.f66 := ⟨Tryz.func66, by kernel_rfl, by kernel_rfl, by kernel_rfl⟩
theorem v66 (t : Ty) (R : Value → Prop) : bodyQ Tryz.prog G1 noL Tryz.f66 [Enc.enc t] (fun _ => none) 0 (fun v _ _ => R v) = ( bif bif !Ty.k t == 1 then !Ty.k t == 2 || (decide (Ty.p t < 1) || (decide (Ty.p t > most (Ty.k t)) || (decide (Ty.q t < 0) || (decide (Ty.q t > Ty.p t) || bif Ty.k t == 2 then Ty.q t != 0 || (Ty.v t || true) else Ty.v t || true)))) else decide (Ty.p t < 1) || (decide (Ty.p t > most (Ty.k t)) || (decide (Ty.q t < 0) || (decide (Ty.q t > Ty.p t) || bif Ty.k t == 2 then Ty.q t != 0 || (Ty.v t || true) else Ty.v t || true))) then bif bif !Ty.k t == 1 then !Ty.k t == 2 || (decide (Ty.p t < 1) || (decide (Ty.p t > most (Ty.k t)) || (decide (Ty.q t < 0) || (decide (Ty.q t > Ty.p t) || bif Ty.k t == 2 then Ty.q t != 0 || (Ty.v t || !ByteArray.toList (Ty.s t) == ByteArray.toList (ByteArray.mk #[])) else Ty.v t || !ByteArray.toList (Ty.s t) == ByteArray.toList (ByteArray.mk #[]))))) else decide (Ty.p t < 1) || (decide (Ty.p t > most (Ty.k t)) || (decide (Ty.q t < 0) || (decide (Ty.q t > Ty.p t) || bif Ty.k t == 2 then Ty.q t != 0 || (Ty.v t || !ByteArray.toList (Ty.s t) == ByteArray.toList (ByteArray.mk #[])) else Ty.v t || !ByteArray.toList (Ty.s t) == ByteArray.toList (ByteArray.mk #[])))) then R (I 5) else R (I 0) else False) := by kernel_rfl
theorem ok66 : PureOK Tryz.prog 66 (sp1 s66) := by
 refine qure1 ok_G1 hmix fn66 lokf_none (Nat.le_of_ble_eq_true (by kernel_rfl)) fun t hc => ?_
 rw [DoesQ, v66]
 try dsimp only [s66]
 repeat' refine cond_intro (fun h => ?_) (fun h => ?_)
 all_goals grind [s66, check, Valid, str0]
def s142 (t : Ty) : Bool × Value := (true, I (check t))
theorem fn142 : Fn1 Tryz.prog 142 Tryz.f142 := ⟨Tryz.func142, by kernel_rfl, by kernel_rfl, by kernel_rfl⟩
theorem v142 (t : Ty) (R : Value → Prop) : bodyQ Tryz.prog G1 noL Tryz.f142 [Enc.enc t] (fun _ => none) 0 (fun v _ _ => R v) = ( bif Ty.v t || true then bif Ty.v t || !ByteArray.toList (Ty.s t) == ByteArray.toList (ByteArray.mk #[]) then R (I 5) else bif bif Ty.k t == 1 then bif decide (Ty.p t ≥ 1) then bif decide (Ty.p t ≤ 9) then decide (Ty.q t ≥ 0) || true else true else true else true then bif Ty.k t == 1 && (decide (Ty.p t ≥ 1) && (decide (Ty.p t ≤ 9) && (decide (Ty.q t ≥ 0) && decide (Ty.q t ≤ Ty.p t)))) then R (I 0) else bif bif Ty.k t == 2 then bif decide (Ty.p t ≥ 1) then decide (Ty.p t ≤ 31) || true else true else true then bif Ty.k t == 2 && (decide (Ty.p t ≥ 1) && (decide (Ty.p t ≤ 31) && Ty.q t == 0)) then R (I 0) else R (I 5) else False else False else False) := by kernel_rfl
theorem ok142 : PureOK Tryz.prog 142 (sp1 s142) := by
 refine qure1 ok_G1 hmix fn142 lokf_none (Nat.le_of_ble_eq_true (by kernel_rfl)) fun t hc => ?_
 rw [DoesQ, v142]
 try dsimp only [s142]
 repeat' refine cond_intro (fun h => ?_) (fun h => ?_)
 all_goals grind [s142, check, Valid, str0, most]
def G2 : Env := (Env.nil.add 66 (sp1 s66)).add 142 (sp1 s142)
theorem ok_G2 : EnvOK Tryz.prog G2 := env_add (env_add env_nil ok66) ok142
def s85 (t : Ty) : Bool × Value := (true, B (decide (Valid t)))
theorem fn85 : Fn1 Tryz.prog 85 Tryz.f85 := ⟨Tryz.func85, by kernel_rfl, by kernel_rfl, by kernel_rfl⟩
theorem v85 (t : Ty) (R : Value → Prop) : bodyQ Tryz.prog G2 noL Tryz.f85 [Enc.enc t] (fun _ => none) 0 (fun v _ _ => R v) = ( R (B (check t == 0))) := by kernel_rfl
theorem ok85 : PureOK Tryz.prog 85 (sp1 s85) := by
 refine qure1 ok_G2 hmix fn85 lokf_none (Nat.le_of_ble_eq_true (by kernel_rfl)) fun t hc => ?_
 rw [DoesQ, v85]
 try dsimp only [s85]
 show Value.bool _ = Value.bool _
 congr 1
 rw [check]
 split <;> simp_all
def s68 (t : Ty) : Bool × Value := (true, B (decide (Valid t)))
theorem fn68 : Fn1 Tryz.prog 68 Tryz.f68 := ⟨Tryz.func68, by kernel_rfl, by kernel_rfl, by kernel_rfl⟩
theorem v68 (t : Ty) (R : Value → Prop) : bodyQ Tryz.prog G2 noL Tryz.f68 [Enc.enc t] (fun _ => none) 0 (fun v _ _ => R v) = ( R (B (check t == 0))) := by kernel_rfl
theorem ok68 : PureOK Tryz.prog 68 (sp1 s68) := by
 refine qure1 ok_G2 hmix fn68 lokf_none (Nat.le_of_ble_eq_true (by kernel_rfl)) fun t hc => ?_
 rw [DoesQ, v68]
 try dsimp only [s68]
 show Value.bool _ = Value.bool _
 congr 1
 rw [check]
 split <;> simp_all
def V178_0 : Int × Int × Int × Int × Int → List Value := fun (b, k, r, x, i) => [I b, I k, I r, I x, I i]
def B178_0 : Int × Int × Int × Int × Int → List (Option Blk) := fun _ => []
def S178_0 : LSpec (Int × Int × Int × Int × Int) where
 live := [0, 1, 4, 5, 6]
 mid := []
 n := 40
 dec vs bs := match vs, bs with | [.int .i64 b, .int .i64 k, .int .i64 r, .int .i64 x, .int .i64 i], [] => some (b, k, r, x, i) | _, _ => none
 pre := fun (b, k, r, x, i) => decide (0 ≤ i ∧ i ≤ max k 0 ∧ k ≤ 1000) && x == IntKind.i64.wrap (pw b i)
 fin := fun (b, k, r, x, i) Z => Z (.exit 0) [I b, I k, I r, I (IntKind.i64.wrap (pw b k)), I (max k 0)] []
theorem r178_0 (b : Int) (k : Int) (r : Int) (x : Int) (i : Int) (jk : Tmps) (R : Exit → List Value → List (Option Blk) → Prop) : (codeQ Tryz.prog G2 noL Tryz.f178.ntmps (loopOf Tryz.f178 0) (tl S178_0.live (V178_0 (b, k, r, x, i)) jk) (ml S178_0.mid (B178_0 (b, k, r, x, i))) S178_0.n fun e t' m' _ => R e (List.map t' S178_0.live) (List.map m' S178_0.mid)) = ( bif decide (i < k) then R Exit.normal [I b, I k, I r, I (IntKind.wrap .i64 (x * b)), I (IntKind.wrap .i64 (i + 1))] [] else R (Exit.exit 0) [I b, I k, I r, I x, I i] []) := by kernel_rfl
theorem l178_0 : LOKf Tryz.prog (oneL 0 S178_0.h) Tryz.f178 := by
 refine lokf_one (h := S178_0.h) (by kernel_rfl) (loop_specQ ok_G2 hmix (by kernel_rfl) (lok_none _) S178_0 V178_0 B178_0 (fun (b, k, r, x, i) => (k - i).toNat) ?_ ?_ ?_)
 ·intro vs bs s h
  simp only [S178_0] at h
  split at h
  all_goals first | (cases h; exact ⟨rfl, rfl⟩) | cases h | (split at h <;> first | (rename_i hq; cases h; have hq := Nat.eq_of_beq_eq_true hq; subst hq; exact ⟨rfl, rfl⟩) | cases h)
 ·exact fun _ _ _ h => h
 ·intro ⟨b, k, r, x, i⟩ jk Z hp hf
  rw [r178_0]
  simp only [S178_0] at hp hf
  repeat' refine cond_intro (fun h => ?_) (fun h => ?_)
  ·have h := of_decide_eq_true h
   simp only [Bool.and_eq_true, decide_eq_true_eq, beq_iff_eq] at hp
   have hw : IntKind.i64.wrap (i + 1) = i + 1 := w64 (by omega)
   refine ⟨(b, k, r, IntKind.i64.wrap (x * b), i + 1), by rw [hw]; rfl, rfl, ?_, by simp only; omega, hf⟩
   simp only [S178_0, Bool.and_eq_true, decide_eq_true_eq, beq_iff_eq]
   exact ⟨by omega, by rw [hp.2, wrap_mul, pw_succ b hp.1.1]⟩
  ·have h := of_decide_eq_false h
   simp only [Bool.and_eq_true, decide_eq_true_eq, beq_iff_eq] at hp
   show Z _ _ _
   obtain rfl : i = max k 0 := by omega
   rw [hp.2]
   rcases Int.le_total k 0 with hk | hk
   ·rw [show max k 0 = 0 by omega] at hp ⊢
    rw [pw_zero b hk, ← pw_zero b (Int.le_refl 0)] at hf
    rw [show max k 0 = 0 by omega] at hf
    exact hf
   ·rw [show max k 0 = k by omega] at hf ⊢
    exact hf
def s178 (b : Int) (k : Int) : Bool × Value := (decide (k ≤ 1000), I (IntKind.i64.wrap (pw b k)))
theorem fn178 : Fn1 Tryz.prog 178 Tryz.f178 := ⟨Tryz.func178, by kernel_rfl, by kernel_rfl, by kernel_rfl⟩
theorem v178 (b : Int) (k : Int) (R : Value → Prop) : bodyQ Tryz.prog G2 (oneL 0 S178_0.h) Tryz.f178 [Enc.enc b, Enc.enc k] (fun _ => none) 0 (fun v _ _ => R v) = ( bif LSpec.pre S178_0 (b, k, 0, 1, 0) then ∀ (x : Tmps), R (I (IntKind.wrap .i64 (pw b k))) else False) := by kernel_rfl
theorem ok178 : PureOK Tryz.prog 178 (sp2 s178) := by
 refine qure2 ok_G2 hmix fn178 l178_0 (Nat.le_of_ble_eq_true (by kernel_rfl)) fun b k hc => ?_
 rw [DoesQ, v178]
 have hc : (k ≤ 1000) := of_decide_eq_true hc
 try dsimp only [s178]
 refine cond_intro (fun _ _ => rfl) (fun h => ?_)
 have h1 : IntKind.i64.wrap (pw b 0) = 1 := by rw [pw_zero b (Int.le_refl 0)]; rfl
 simp only [S178_0, h1, Bool.and_eq_false_iff, decide_eq_false_iff_not, beq_eq_false_iff_ne] at h
 omega
def G3 : Env := (Env.nil.add 208 (sp1 s208)).add 178 (sp2 s178)
theorem ok_G3 : EnvOK Tryz.prog G3 := env_add (env_add env_nil ok208) ok178
def s148 (t : Ty) : Bool × Value := (decide (t.p ≤ 1000), I (IntKind.i64.wrap (bnd t)))
theorem fn148 : Fn1 Tryz.prog 148 Tryz.f148 := ⟨Tryz.func148, by kernel_rfl, by kernel_rfl, by kernel_rfl⟩
theorem v148 (t : Ty) (R : Value → Prop) : bodyQ Tryz.prog G3 noL Tryz.f148 [Enc.enc t] (fun _ => none) 0 (fun v _ _ => R v) = ( bif decide (Ty.p t ≤ 1000) then R (I (IntKind.wrap .i64 (pw (base (Ty.k t)) (Ty.p t)))) else False) := by kernel_rfl
theorem ok148 : PureOK Tryz.prog 148 (sp1 s148) := by
 refine qure1 ok_G3 hmix fn148 lokf_none (Nat.le_of_ble_eq_true (by kernel_rfl)) fun t hc => ?_
 rw [DoesQ, v148]
 have hc : (t.p ≤ 1000) := of_decide_eq_true hc
 try dsimp only [s148]
 exact c_t (decide_eq_true hc) rfl
def V74_0 : ByteArray × Bool × Int → List Value := fun (s, b, i) => [S s, B b, I i]
def B74_0 : ByteArray × Bool × Int → List (Option Blk) := fun _ => []
def S74_0 : LSpec (ByteArray × Bool × Int) where
 live := [0, 2, 3]
 mid := []
 n := 60
 dec vs bs := match vs, bs with | [.string s, .bool b, .int .i64 i], [] => some (s, b, i) | _, _ => none
 pre := fun (s, b, i) => decide (0 ≤ i ∧ i ≤ s.size ∧ s.size ≤ 9223372036854775807)
 fin := fun (s, b, i) Z => (bif bitsZ ((bz s).drop i.toNat) then Z (.exit 0) [S s, B b, I s.size] [] else (∀ i', Z .ret [S s, B false, I i'] []))
theorem r74_0 (s : ByteArray) (b : Bool) (i : Int) (jk : Tmps) (R : Exit → List Value → List (Option Blk) → Prop) : (codeQ Tryz.prog G3 noL Tryz.f74.ntmps (loopOf Tryz.f74 0) (tl S74_0.live (V74_0 (s, b, i)) jk) (ml S74_0.mid (B74_0 (s, b, i))) S74_0.n fun e t' m' _ => R e (List.map t' S74_0.live) (List.map m' S74_0.mid)) = ( bif decide (i < (↑(ByteArray.size s) : Int)) then bif decide (0 ≤ i ∧ i < (↑(ByteArray.size s) : Int)) && bif byteAt s (Int.toNat i) != 48 then decide (0 ≤ i ∧ i < (↑(ByteArray.size s) : Int)) && true else true then bif byteAt s (Int.toNat i) != 48 && byteAt s (Int.toNat i) != 49 then R Exit.ret [S s, B false, I i] [] else R Exit.normal [S s, B b, I (IntKind.wrap .i64 (i + 1))] [] else False else R (Exit.exit 0) [S s, B b, I i] []) := by kernel_rfl
theorem l74_0 : LOKf Tryz.prog (oneL 0 S74_0.h) Tryz.f74 := by
 refine lokf_one (h := S74_0.h) (by kernel_rfl) (loop_specQ ok_G3 hmix (by kernel_rfl) (lok_none _) S74_0 V74_0 B74_0 (fun (s, b, i) => (s.size - i).toNat) ?_ ?_ ?_)
 ·intro vs bs s h
  simp only [S74_0] at h
  split at h
  all_goals first | (cases h; exact ⟨rfl, rfl⟩) | cases h | (split at h <;> first | (rename_i hq; cases h; have hq := Nat.eq_of_beq_eq_true hq; subst hq; exact ⟨rfl, rfl⟩) | cases h)
 ·exact fun _ _ _ h => h
 ·intro ⟨s, b, i⟩ jk Z hp hf
  rw [r74_0]
  simp only [S74_0] at hp hf
  simp only [decide_eq_true_eq] at hp
  refine cond_intro (fun h => ?_) (fun h => ?_)
  ·have h := of_decide_eq_true h
   rw [bz_at hp.1 h, bitsZ, List.all_cons] at hf
   refine c_t (by rw [decide_eq_true (show 0 ≤ i ∧ i < (s.size : Int) by omega)]; simp) ?_
   refine cond_intro (fun hd => ?_) (fun hd => ?_)
   ·have e : decide (byteAt s i.toNat = 48 ∨ byteAt s i.toNat = 49) = false := by rw [decide_eq_false_iff_not]; simp at hd; omega
    rw [e] at hf
    exact hf i
   ·have e : decide (byteAt s i.toNat = 48 ∨ byteAt s i.toNat = 49) = true := by rw [decide_eq_true_eq]; simp at hd; omega
    rw [e, Bool.true_and] at hf
    rw [w64 (by omega)]
    exact ⟨(s, b, i + 1), rfl, rfl, by simp only [S74_0, decide_eq_true_eq]; omega, by simp only; omega, hf⟩
  ·have h := of_decide_eq_false h
   rw [bz_end (by omega)] at hf
   obtain rfl : i = s.size := by omega
   exact hf
def s74 (s : ByteArray) : Bool × Value := (decide (s.size ≤ 9223372036854775807), B (bitsZ (bz s)))
theorem fn74 : Fn1 Tryz.prog 74 Tryz.f74 := ⟨Tryz.func74, by kernel_rfl, by kernel_rfl, by kernel_rfl⟩
theorem v74 (s : ByteArray) (R : Value → Prop) : bodyQ Tryz.prog G3 (oneL 0 S74_0.h) Tryz.f74 [Enc.enc s] (fun _ => none) 0 (fun v _ _ => R v) = ( bif LSpec.pre S74_0 (s, false, 0) then bif bitsZ (List.drop (Int.toNat 0) (bz s)) then ∀ (x : Tmps), R (B true) else ∀ (i' : Int) (x : Tmps), R (B false) else False) := by kernel_rfl
theorem ok74 : PureOK Tryz.prog 74 (sp1 s74) := by
 refine qure1 ok_G3 hmix fn74 l74_0 (Nat.le_of_ble_eq_true (by kernel_rfl)) fun s hc => ?_
 rw [DoesQ, v74]
 have hc : (s.size ≤ 9223372036854775807) := of_decide_eq_true hc
 try dsimp only [s74]
 refine c_t (by simp only [S74_0, decide_eq_true_eq]; omega) ?_
 rw [dropW0]
 refine cond_intro (fun h => ?_) (fun h _ => ?_)
 ·rw [h]; exact fun _ => rfl
 ·rw [h]; exact fun _ => rfl
def G4 : Env := (Env.nil.add 142 (sp1 s142)).add 148 (sp1 s148)
theorem ok_G4 : EnvOK Tryz.prog G4 := env_add (env_add env_nil ok142) ok148
def s73 (v : Vl) (t : Ty) : Bool × Value := (true, I (Fx.fits v t))
theorem fn73 : Fn1 Tryz.prog 73 Tryz.f73 := ⟨Tryz.func73, by kernel_rfl, by kernel_rfl, by kernel_rfl⟩
theorem v73 (v : Vl) (t : Ty) (R : Value → Prop) : bodyQ Tryz.prog G4 noL Tryz.f73 [Enc.enc v, Enc.enc t] (fun _ => none) 0 (fun v _ _ => R v) = ( bif check t != 0 then R (I (check t)) else bif !ByteArray.toList (Vl.s v) == ByteArray.toList (ByteArray.mk #[]) || decide (Ty.p t ≤ 1000) && (decide (Vl.n v ≥ IntKind.wrap .i64 (bnd t)) || decide (Ty.p t ≤ 1000) && true) then bif !ByteArray.toList (Vl.s v) == ByteArray.toList (ByteArray.mk #[]) || (decide (Vl.n v ≥ IntKind.wrap .i64 (bnd t)) || decide (Vl.n v ≤ IntKind.wrap .i64 (0 - IntKind.wrap .i64 (bnd t)))) then R (I 6) else R (I 0) else False) := by kernel_rfl
theorem ok73 : PureOK Tryz.prog 73 (sp2 s73) := by
 refine qure2 ok_G4 hmix fn73 lokf_none (Nat.le_of_ble_eq_true (by kernel_rfl)) fun v t hc => ?_
 rw [DoesQ, v73]
 try dsimp only [s73]
 rw [str0]
 by_cases hv : Valid t
 ·obtain ⟨h1, h2, h3, h4⟩ := Fx.valid_r hv
  have hb := Fx.bnd_range hv
  have hc : check t = 0 := if_pos hv
  rw [hc, w64 (n := bnd t) (by omega), w64 (n := 0 - bnd t) (by omega), decide_eq_true (show t.p ≤ 1000 by omega)]
  refine c_f rfl (c_t (by simp) ?_)
  unfold Fx.fits
  rw [if_pos hv]
  refine cond_intro (fun h => ?_) (fun h => ?_)
  ·rw [if_neg]
   intro hf
   unfold Fit at hf
   simp [hf.1] at h
   omega
  ·rw [if_pos]
   unfold Fit
   simp at h
   grind
 ·have hc : check t = 5 := if_neg hv
  rw [hc]
  refine c_t rfl ?_
  unfold Fx.fits
  rw [if_neg hv]
def chk4 (t : Ty) : Int := if Valid t then 0
 else if t.k = 3 ∧ t.q = 0 ∧ bz t.s = [] ∧ 0 ≤ t.p ∧ t.p ≤ 255 then 0
 else if t.k = 4 ∧ t.q = 0 ∧ bz t.s = [] ∧ t.v = false ∧ 0 ≤ t.p ∧ t.p ≤ 64 then 0
 else if t.k = 5 ∧ t.p = 0 ∧ t.q = 0 ∧ t.v = false ∧ pE (bz t.s) = 0 then 0
 else if t.k = 6 ∧ t.q = 0 ∧ bz t.s = [] ∧ t.p = 0 ∧ t.v = false then 0 else 5
def is4 (v : Vl) (t : Ty) : Bool :=
 if t.k = 1 ∨ t.k = 2 then Fx.fits v t == 0
 else if t.k = 3 then decide (v.n = 0 ∧ ((v.s.size : Int) = t.p ∨ t.v = true ∧ (v.s.size : Int) < t.p))
 else if t.k = 4 then decide (v.n = 0 ∧ (v.s.size : Int) = t.p) && bitsZ (bz v.s)
 else if t.k = 5 then decide (v.n = 0) && hoZ (bz t.s) (bz v.s)
 else decide (bz v.s = [] ∧ 0 ≤ v.n ∧ v.n ≤ 524288)
def fit4 (v : Vl) (t : Ty) : Int := if chk4 t ≠ 0 then chk4 t else if is4 v t = true then 0 else 6
def G30 : Env := (Env.nil.add 68 (sp1 s68)).add 69 (sp1 Px.s48)
theorem ok_G30 : EnvOK Tryz.prog G30 := env_add (env_add env_nil ok68) Px.ok48
def s21 (t : Ty) : Bool × Value := (decide (t.s.size ≤ 9223372036854775807), I (chk4 t))
theorem fn21 : Fn1 Tryz.prog 21 Tryz.f21 := ⟨Tryz.func21, by kernel_rfl, by kernel_rfl, by kernel_rfl⟩
theorem v21 (t : Ty) (R : Value → Prop) : bodyQ Tryz.prog G30 noL Tryz.f21 [Enc.enc t] (fun _ => none) 0 (fun v _ _ => R v) = ( bif decide (Valid t) then R (I 0) else bif Ty.q t == 0 || true then bif Ty.k t == 3 then bif bif Ty.q t == 0 && ByteArray.toList (Ty.s t) == ByteArray.toList (ByteArray.mk #[]) then decide (Ty.p t ≥ 0) || true else true then bif Ty.q t == 0 && ByteArray.toList (Ty.s t) == ByteArray.toList (ByteArray.mk #[]) && (decide (Ty.p t ≥ 0) && decide (Ty.p t ≤ 255)) then R (I 0) else R (I 5) else False else bif Ty.k t == 4 then bif bif Ty.q t == 0 && ByteArray.toList (Ty.s t) == ByteArray.toList (ByteArray.mk #[]) then bif !Ty.v t then decide (Ty.p t ≥ 0) || true else true else true then bif Ty.q t == 0 && ByteArray.toList (Ty.s t) == ByteArray.toList (ByteArray.mk #[]) && (!Ty.v t && (decide (Ty.p t ≥ 0) && decide (Ty.p t ≤ 64))) then R (I 0) else R (I 5) else False else bif Ty.k t == 5 then bif bif Ty.p t == 0 then bif Ty.q t == 0 then bif !Ty.v t then decide (ByteArray.size (Ty.s t) ≤ 9223372036854775807) && true else true else true else true then bif Ty.p t == 0 && (Ty.q t == 0 && (!Ty.v t && pE (bz (Ty.s t)) == 0)) then R (I 0) else R (I 5) else False else bif Ty.k t == 6 then bif bif Ty.q t == 0 && ByteArray.toList (Ty.s t) == ByteArray.toList (ByteArray.mk #[]) then Ty.p t == 0 || true else true then bif Ty.q t == 0 && ByteArray.toList (Ty.s t) == ByteArray.toList (ByteArray.mk #[]) && (Ty.p t == 0 && !Ty.v t) then R (I 0) else R (I 5) else False else R (I 5) else False) := by kernel_rfl
theorem ok21 : PureOK Tryz.prog 21 (sp1 s21) := by
 refine qure1 ok_G30 hmix fn21 lokf_none (Nat.le_of_ble_eq_true (by kernel_rfl)) fun t hc => ?_
 rw [DoesQ, v21]
 have hc : (t.s.size ≤ 9223372036854775807) := of_decide_eq_true hc
 try dsimp only [s21]
 rw [empty_iff]
 unfold chk4
 by_cases hv : Valid t
 ·rw [if_pos hv]
  exact c_t (decide_eq_true hv) rfl
 rw [if_neg hv]
 refine c_f (decide_eq_false hv) (c_t (Bool.or_true _) ?_)
 simp only [Bool.or_true, Bool.and_true, Bool.cond_self, decide_eq_true hc]
 repeat' refine cond_intro (fun h => ?_) (fun h => ?_)
 all_goals first | (exfalso; simp at h; done) | (congr 1; grind)
def G31 : Env := (((Env.nil.add 74 (sp1 s74)).add 73 (sp2 s73)).add 75 (sp2 Px.s25)).add 21 (sp1 s21)
theorem ok_G31 : EnvOK Tryz.prog G31 := env_add (env_add (env_add (env_add env_nil ok74) ok73) Px.ok25) ok21
def s23 (v : Vl) (t : Ty) : Bool × Value := (decide (t.s.size ≤ 9223372036854775807 ∧ v.s.size ≤ 9223372036854775807), I (fit4 v t))
theorem fn23 : Fn1 Tryz.prog 23 Tryz.f23 := ⟨Tryz.func23, by kernel_rfl, by kernel_rfl, by kernel_rfl⟩
theorem v23 (v : Vl) (t : Ty) (R : Value → Prop) : bodyQ Tryz.prog G31 noL Tryz.f23 [Enc.enc v, Enc.enc t] (fun _ => none) 0 (fun v _ _ => R v) = ( bif decide (ByteArray.size (Ty.s t) ≤ 9223372036854775807) then bif chk4 t != 0 then R (I (chk4 t)) else bif Ty.k t == 1 then bif !fits v t == 0 then R (I 6) else R (I 0) else bif Ty.k t == 2 then bif !fits v t == 0 then R (I 6) else R (I 0) else bif Ty.k t == 3 then bif bif Vl.n v == 0 then (↑(ByteArray.size (Vl.s v)) : Int) == Ty.p t || (Ty.v t || true) else true then bif !(Vl.n v == 0 && ((↑(ByteArray.size (Vl.s v)) : Int) == Ty.p t || Ty.v t && decide ((↑(ByteArray.size (Vl.s v)) : Int) < Ty.p t))) then R (I 6) else R (I 0) else False else bif Ty.k t == 4 then bif bif Vl.n v == 0 then bif (↑(ByteArray.size (Vl.s v)) : Int) == Ty.p t then decide (ByteArray.size (Vl.s v) ≤ 9223372036854775807) && true else true else true then bif !(Vl.n v == 0 && ((↑(ByteArray.size (Vl.s v)) : Int) == Ty.p t && bitsZ (bz (Vl.s v)))) then R (I 6) else R (I 0) else False else bif Ty.k t == 5 then bif bif Vl.n v == 0 then decide (ByteArray.size (Ty.s t) ≤ 9223372036854775807 ∧ ByteArray.size (Vl.s v) ≤ 9223372036854775807) && true else true then bif !(Vl.n v == 0 && hoZ (bz (Ty.s t)) (bz (Vl.s v))) then R (I 6) else R (I 0) else False else bif Ty.k t == 6 then bif bif ByteArray.toList (Vl.s v) == ByteArray.toList (ByteArray.mk #[]) then decide (Vl.n v ≥ 0) || true else true then bif !(ByteArray.toList (Vl.s v) == ByteArray.toList (ByteArray.mk #[]) && (decide (Vl.n v ≥ 0) && decide (Vl.n v ≤ 524288))) then R (I 6) else R (I 0) else False else R (I 6) else False) := by kernel_rfl
theorem ok23 : PureOK Tryz.prog 23 (sp2 s23) := by
 refine qure2 ok_G31 hmix fn23 lokf_none (Nat.le_of_ble_eq_true (by kernel_rfl)) fun v t hc => ?_
 rw [DoesQ, v23]
 have hc : (t.s.size ≤ 9223372036854775807 ∧ v.s.size ≤ 9223372036854775807) := of_decide_eq_true hc
 try dsimp only [s23]
 rw [empty_iff]
 unfold fit4 is4
 refine c_t (decide_eq_true hc.1) ?_
 have hk : chk4 t = 0 → t.k = 1 ∨ t.k = 2 ∨ t.k = 3 ∨ t.k = 4 ∨ t.k = 5 ∨ t.k = 6 := fun h => by
  unfold chk4 at h
  have hv : Valid t → t.k = 1 ∨ t.k = 2 := fun h => h.1
  grind
 refine cond_intro (fun h => ?_) (fun h => ?_)
 ·rw [if_pos (by simpa using h)]
 have h0 : chk4 t = 0 := by simpa using h
 rw [if_neg (fun z => z h0)]
 have hk := hk h0
 simp only [Bool.or_true, Bool.and_true, Bool.cond_self, decide_eq_true hc.2, decide_eq_true hc]
 repeat' refine cond_intro (fun h => ?_) (fun h => ?_)
 all_goals first | (exfalso; simp at h; done) | (congr 1; grind)
theorem bz_szO {l : List Int} (h : IsB l) : bz (szO l) = l := by rw [szO_eq, bz_sz h]
end Go.Cx
end
section
namespace Go.Cv
section
variable {l : List Int} {r : Rd} {c : Int}
variable {s p : Bool}
variable {g : Bool} {m : Nat}
end
end Go.Cv
end
noncomputable section
set_option maxHeartbeats 3200000
namespace Go.Cx
open Go Go.Ab Go.Proofs Go.Shelf Go.Px Go.Cv
open Go.Fx (Ty Vl check Valid most base pw bnd Fit fits tv vv tup V0 T0 pw_zero pw_succ wrap_mul pw_w64 str0)
inductive Ms where
 | beg | bod (s p : Bool) | exq (g : Bool) (m : Int) | beh
def Ms.v : Ms → Value
 | .beg => .func (.func 151) ⟨[]⟩ ⟨[]⟩
 | .bod _ _ => .func (.func 212) ⟨[]⟩ ⟨[.pointer (some ⟨200, 0, some 0⟩), .pointer (some ⟨201, 0, some 0⟩)]⟩
 | .exq _ _ => .func (.func 263) ⟨[]⟩ ⟨[.pointer (some ⟨200, 0, some 0⟩), .pointer (some ⟨201, 0, some 0⟩)]⟩
 | .beh => .func (.func 264) ⟨[]⟩ ⟨[]⟩
theorem trim_isB {l c : List Int} (h : IsB l) : IsB (trimZ l c) := fun x hx => by
 refine h x ?_
 have := (List.dropWhile_sublist _).subset hx
 exact List.mem_reverse.1 ((List.dropWhile_sublist _).subset (List.mem_reverse.1 this))
theorem dropW_all {p : Int → Bool} : ∀ {l : List Int}, (∀ c ∈ l, p c = true) → l.dropWhile p = []
 | [], _ => rfl
 | c :: l, h => by rw [List.dropWhile_cons_of_pos (h c (List.mem_cons_self ..))]; exact dropW_all fun d hd => h d (List.mem_cons_of_mem _ hd)
theorem dropW_head {p : Int → Bool} {l : List Int} {c : Int} (hc : c ∈ l) (hp : p c = false) : ∃ d r, l.dropWhile p = d :: r ∧ p d = false := by
 induction l with
 | nil => cases hc
 | cons a l ih =>
  cases ha : p a with
  | false => exact ⟨a, l, by rw [List.dropWhile_cons_of_neg (by simp [ha])], ha⟩
  | true =>
   rw [List.dropWhile_cons_of_pos ha]
   rcases List.mem_cons.1 hc with rfl | hc
   ·rw [ha] at hp; cases hp
   ·exact ih hc
theorem trim_bits (l : List Int) : decide (trimZ l (bz ⟨#[48, 49]⟩) = []) = bitsZ l := by
 have e : bz ⟨#[48, 49]⟩ = [48, 49] := rfl
 have hh : ∀ c : Int, hasZ [48, 49] c = decide (c = 48 ∨ c = 49) := fun c => by
  rw [Bool.eq_iff_iff, hasZ_iff, decide_eq_true_eq]
  simp
 rw [e, Bool.eq_iff_iff, decide_eq_true_eq]
 constructor
 ·intro h
  unfold bitsZ
  refine List.all_eq_true.2 fun c hc => ?_
  cases q : decide (c = 48 ∨ c = 49) with
  | true => rfl
  | false =>
   exfalso
   rw [← hh] at q
   obtain ⟨d, r, h1, h2⟩ := dropW_head (List.mem_reverse.2 hc) q
   have hm : d ∈ (l.reverse.dropWhile (hasZ [48, 49])).reverse := by rw [h1]; simp
   obtain ⟨d', r', h3, _⟩ := dropW_head hm h2
   unfold trimZ at h
   rw [h3] at h
   cases h
 ·intro h
  have ha : ∀ c ∈ l, hasZ [48, 49] c = true := fun c hc => by rw [hh]; exact List.all_eq_true.1 h c hc
  unfold trimZ
  rw [dropW_all (l := l.reverse) fun c hc => ha c (List.mem_reverse.1 hc)]
  rfl
def K0 : Env := Env.nil
theorem ok_K0 : EnvOK Tryz.prog K0 := env_nil
def s191 : Bool × Value := (true, .agg ⟨Fx.tensL⟩)
theorem fn191 : Fn1 Tryz.prog 191 Tryz.f191 := ⟨Tryz.func191, by kernel_rfl, by kernel_rfl, by kernel_rfl⟩
theorem v191  (R : Value → Prop) : bodyQ Tryz.prog K0 noL Tryz.f191 [] (fun _ => none) 0 (fun v _ _ => R v) = ( R (.agg ⟨Fx.tensL⟩)) := by kernel_rfl
theorem ok191 : PureOK Tryz.prog 191 (sp0 s191) := by
 refine qure0 ok_K0 hmix fn191 lokf_none fun hc => ?_
 rw [DoesQ, v191]
 try dsimp only [s191]
def K1 : Env := Env.nil.add 191 (sp0 s191)
theorem ok_K1 : EnvOK Tryz.prog K1 := env_add env_nil ok191
def s144 (t : Ty) : Bool × Value := (decide (Valid t), I (bnd t))
theorem fn144 : Fn1 Tryz.prog 144 Tryz.f144 := ⟨Tryz.func144, by kernel_rfl, by kernel_rfl, by kernel_rfl⟩
theorem v144 (t : Ty) (R : Value → Prop) : bodyQ Tryz.prog K1 noL Tryz.f144 [Enc.enc t] (fun _ => none) 0 (fun v _ _ => R v) = ( bif Ty.k t == 1 then bif decide (0 ≤ Ty.p t ∧ Ty.p t < 19) && isIntAt IntKind.i64 Fx.tensL (Int.toNat (Ty.p t)) then R (I (intAt Fx.tensL (Int.toNat (Ty.p t)))) else False else bif decide (0 ≤ Ty.p t) then R (I (IntKind.wrap .i64 (1 * 2 ^ min (Int.toNat (Ty.p t)) 64))) else False) := by kernel_rfl
theorem ok144 : PureOK Tryz.prog 144 (sp1 s144) := by
 refine qure1 ok_K1 hmix fn144 lokf_none (Nat.le_of_ble_eq_true (by kernel_rfl)) fun t hc => ?_
 rw [DoesQ, v144]
 have hc : (Valid t) := of_decide_eq_true hc
 try dsimp only [s144]
 obtain ⟨h1, h2, h3, h4, h5⟩ := Fx.valid_r hc
 have hm : t.k = 1 → t.p ≤ 9 := fun h => by have := hc.2.2.1; rw [h] at this; exact this
 refine cond_intro (fun h => ?_) (fun h => ?_)
 ·have h : t.k = 1 := eq_of_beq h
  have ht := Fx.tens_at (p := t.p) (by omega) (by have := hm h; omega)
  refine c_t (by rw [ht.1, decide_eq_true (show 0 ≤ t.p ∧ t.p < 19 by have := hm h; omega)]; rfl) ?_
  rw [ht.2, bnd, h]
  rfl
 ·have h : t.k = 2 := hc.1.resolve_left (by simpa using h)
  refine c_t (decide_eq_true (by omega)) ?_
  rw [Fx.shl_pw (by omega) (by omega), bnd, h]
  rfl
def K2 : Env := ((Env.nil.add 55 (sp2 s55)).add 66 (sp1 s66)).add 144 (sp1 s144)
theorem ok_K2 : EnvOK Tryz.prog K2 := env_add (env_add (env_add env_nil ok55) ok66) ok144
def s70 (v : Vl) (t : Ty) : Bool × Value := (true, I (Fx.fits v t))
theorem fn70 : Fn1 Tryz.prog 70 Tryz.f70 := ⟨Tryz.func70, by kernel_rfl, by kernel_rfl, by kernel_rfl⟩
theorem v70 (v : Vl) (t : Ty) (R : Value → Prop) : bodyQ Tryz.prog K2 noL Tryz.f70 [Enc.enc v, Enc.enc t] (fun _ => none) 0 (fun v _ _ => R v) = ( bif check t != 0 then R (I (check t)) else bif decide (Valid t) then bif !ByteArray.toList (Vl.s v) == ByteArray.toList (ByteArray.mk #[]) || (decide (Vl.n v ≤ IntKind.wrap .i64 (0 - bnd t)) || true) then bif !ByteArray.toList (Vl.s v) == ByteArray.toList (ByteArray.mk #[]) || (decide (Vl.n v ≤ IntKind.wrap .i64 (0 - bnd t)) || decide (Vl.n v ≥ bnd t)) then R (I 6) else R (I 0) else False else False) := by kernel_rfl
theorem ok70 : PureOK Tryz.prog 70 (sp2 s70) := by
 refine qure2 ok_K2 hmix fn70 lokf_none (Nat.le_of_ble_eq_true (by kernel_rfl)) fun v t hc => ?_
 rw [DoesQ, v70]
 try dsimp only [s70]
 rw [str0]
 by_cases hv : Valid t
 ·obtain ⟨h1, h2, h3, h4⟩ := Fx.valid_r hv
  have hb := Fx.bnd_range hv
  have hc : check t = 0 := if_pos hv
  rw [hc, w64 (n := 0 - bnd t) (by omega)]
  refine c_f rfl (c_t (decide_eq_true hv) (c_t (by simp) ?_))
  unfold Fx.fits
  rw [if_pos hv]
  refine cond_intro (fun h => ?_) (fun h => ?_)
  ·rw [if_neg]
   intro hf
   unfold Fit at hf
   simp [hf.1] at h
   omega
  ·rw [if_pos]
   unfold Fit
   simp at h
   grind
 ·have hc : check t = 5 := if_neg hv
  rw [hc]
  refine c_t rfl ?_
  unfold Fx.fits
  rw [if_neg hv]
def s71 (s : ByteArray) : Bool × Value := (decide (s.size ≤ 9223372036854775807), B (bitsZ (bz s)))
theorem fn71 : Fn1 Tryz.prog 71 Tryz.f71 := ⟨Tryz.func71, by kernel_rfl, by kernel_rfl, by kernel_rfl⟩
theorem v71 (s : ByteArray) (R : Value → Prop) : bodyQ Tryz.prog K2 noL Tryz.f71 [Enc.enc s] (fun _ => none) 0 (fun v _ _ => R v) = ( bif decide (ByteArray.size s ≤ 9223372036854775807) && (decide (ByteArray.size (ByteArray.mk #[48, 49]) ≤ 1000) && asc (bz (ByteArray.mk #[48, 49]))) then R (B (ByteArray.toList (szO (trimZ (bz s) (bz (ByteArray.mk #[48, 49])))) == ByteArray.toList (ByteArray.mk #[]))) else False) := by kernel_rfl
theorem ok71 : PureOK Tryz.prog 71 (sp1 s71) := by
 refine qure1 ok_K2 hmix fn71 lokf_none (Nat.le_of_ble_eq_true (by kernel_rfl)) fun s hc => ?_
 rw [DoesQ, v71]
 have hc : (s.size ≤ 9223372036854775807) := of_decide_eq_true hc
 try dsimp only [s71]
 refine c_t (by rw [decide_eq_true hc, Bool.true_and]; kernel_rfl) ?_
 rw [empty_iff, bz_szO (trim_isB (bz_isB s)), trim_bits]
theorem fn20 : Fn1 Tryz.prog 20 Tryz.f20 := ⟨Tryz.func20, by kernel_rfl, by kernel_rfl, by kernel_rfl⟩
theorem fn22 : Fn1 Tryz.prog 22 Tryz.f22 := ⟨Tryz.func22, by kernel_rfl, by kernel_rfl, by kernel_rfl⟩
structure Wh where
 n : Int
 t : Ty
instance : Enc Wh where
 enc x := .agg ⟨[.int .i64 x.n, .int .i64 x.t.k, .int .i64 x.t.p, .int .i64 x.t.q, .bool x.t.v, .string x.t.s]⟩
 dec | .agg ⟨[.int .i64 n, .int .i64 k, .int .i64 p, .int .i64 q, .bool v, .string s]⟩ => some ⟨n, ⟨k, p, q, v, s⟩⟩ | _ => none
 dec_some := by
  intro v a h
  split at h
  ·cases h; rfl
  ·cases h
 plain_enc _ := rfl
end Go.Cx
end
