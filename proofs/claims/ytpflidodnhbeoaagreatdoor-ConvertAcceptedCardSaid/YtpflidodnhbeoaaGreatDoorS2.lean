/-
  The run and the laws that serve these rows (part 2)
-/
import Derived.Test.YtpflidodnhbeoaaGreatDoorS1
set_option linter.unusedVariables false
set_option linter.unusedSimpArgs false
noncomputable section
namespace Go.Px
open Go Go.Ab Go.Proofs Go.Shelf
theorem fn131 : Fn1 Tryz.prog 244 Tryz.f244 := ⟨Tryz.func244, by kernel_rfl, by kernel_rfl, by kernel_rfl⟩
theorem lok131 : LOKf Tryz.prog (oneL 0 S131_0.hA) Tryz.f244 := lokf_one (by kernel_rfl) l131_0
theorem fn160 : Fn1 Tryz.prog 281 Tryz.f281 := ⟨Tryz.func281, by kernel_rfl, by kernel_rfl, by kernel_rfl⟩
def G21 : Env := Env.nil.add 272 (sp2 s141)
theorem ok_G21 : EnvOK Tryz.prog G21 := env_add env_nil ok141
def G22 : Env := Env.nil.addG 281 (inlQ Tryz.prog G21 noL Tryz.f281)
theorem ok_G22 : EnvOK Tryz.prog G22 := env_addG env_nil (gen_inlQ ok_G21 hmix fn160 lokf_none)
def ci (l : List Int) : List Value := l.map fun n => .int .i64 n
@[simp] theorem ci_length (l : List Int) : (ci l).length = l.length := by simp [ci]
theorem ci_append (a b : List Int) : ci (a ++ b) = ci a ++ ci b := by simp [ci]
theorem ci_plain : ∀ l : List Int, plainL (ci l) = true
 | [] => rfl
 | c :: r => by simpa [ci, plainL, plain] using ci_plain r
def isInts : List Value → Bool
 | [] => true
 | .int .i64 _ :: r => isInts r
 | _ => false
theorem ci_isInts : ∀ l : List Int, isInts (ci l) = true
 | [] => rfl
 | c :: r => by simpa [ci, isInts] using ci_isInts r
theorem ci_of : ∀ {l : List Value}, isInts l = true → ci (l.map iv) = l
 | [], _ => rfl
 | .int .i64 n :: r, h => by
  have := ci_of (l := r) (by simpa [isInts] using h)
  simp only [ci] at this
  simp only [List.map_cons, ci, iv, this]
def rowIOK (c : List Value) (n cap : Nat) : Bool := isInts (c.take n) && (plainL c && (Nat.beq c.length cap && (Nat.ble n cap && Nat.ble cap 9223372036854775807)))
structure RowI (c : List Value) (n cap : Nat) : Prop where
 bytes : isInts (c.take n) = true
 plain : plainL c = true
 len : c.length = cap
 le : n ≤ cap
 cap : cap ≤ 9223372036854775807
theorem rowIOK_iff {c : List Value} {n cap : Nat} : rowIOK c n cap = true ↔ RowI c n cap := by
 simp only [rowIOK, Bool.and_eq_true, Nat.ble_eq, Nat.beq_eq]
 exact ⟨fun ⟨h1, h2, h3, h4, h5⟩ => ⟨h1, h2, h3, h4, h5⟩, fun ⟨h1, h2, h3, h4, h5⟩ => ⟨h1, h2, h3, h4, h5⟩⟩
theorem zi_length {c : List Value} {n cap : Nat} (h : RowI c n cap) : (zc c n).length = n := by
 have h1 := h.len
 have h2 := h.le
 simp only [zc, List.length_map, List.length_take]
 omega
theorem RowI.eq {c : List Value} {n cap : Nat} (h : RowI c n cap) : c = ci (zc c n) ++ c.drop n := by
 rw [zc, ci_of h.bytes, List.take_append_drop]
theorem RowI.take {c : List Value} {n cap : Nat} (h : RowI c n cap) : c.take n = ci (zc c n) := (ci_of h.bytes).symm
theorem rowI_mk (L : List Int) {tail : List Value} {cap : Nat} (ht : plainL tail = true) (hl : L.length + tail.length = cap) (hc : cap ≤ 9223372036854775807) : RowI (ci L ++ tail) L.length cap ∧ zc (ci L ++ tail) L.length = L := by
 have e : (ci L ++ tail).take L.length = ci L := by rw [List.take_append_of_le_length (by simp), List.take_of_length_le (by simp)]
 refine ⟨⟨by rw [e]; exact ci_isInts L, plainL_append.2 ⟨ci_plain L, ht⟩, by simp [hl], by omega, hc⟩, ?_⟩
 show List.map iv ((ci L ++ tail).take L.length) = L
 rw [e]
 simp only [ci, List.map_map]
 have : (iv ∘ fun n : Int => Value.int .i64 n) = id := by funext n; rfl
 rw [this, List.map_id]
theorem RowI.app {c : List Value} {n cap : Nat} (h : RowI c n cap) (M : List Int) {tail : List Value} {cap' : Nat} (ht : tailOK tail cap' (n + M.length) 1 = true) :
  RowI (c.take n ++ ci M ++ tail) (n + M.length) cap' ∧ zc (c.take n ++ ci M ++ tail) (n + M.length) = zc c n ++ M := by
 obtain ⟨t1, t2, t3, t4⟩ := tail_spec ht
 have hz := zi_length h
 have := rowI_mk (zc c n ++ M) (tail := tail) (cap := cap') t1 (by simp only [List.length_append, hz]; omega) t4
 simp only [List.length_append, hz, ci_append] at this
 rw [h.take]
 exact this
theorem RowI.app1 {c : List Value} {n cap : Nat} (h : RowI c n cap) (x : Int) {tail : List Value} {cap' : Nat} (ht : tailOK tail cap' (n + 1) 1 = true) :
  RowI (c.take (n * 1) ++ [.int .i64 x] ++ tail) (n + 1) cap' ∧ zc (c.take (n * 1) ++ [.int .i64 x] ++ tail) (n + 1) = zc c n ++ [x] := by
 rw [Nat.mul_one]
 exact h.app [x] ht
theorem RowI.ask {c : List Value} {n cap : Nat} (h : RowI c n cap) {k : Nat} (hk : n + k ≤ 1000000) :
  (Nat.beq c.length (cap * 1) && Nat.ble n cap && Nat.ble cap 9223372036854775807 && true && fitsA (n + k) 8) = true := by
 have h1 := h.len
 have h2 := h.le
 have h3 := h.cap
 simp only [fitsA, Bool.and_eq_true, Nat.ble_eq, Nat.beq_eq, Nat.mul_one]
 exact ⟨⟨⟨⟨h1, h2⟩, h3⟩, trivial⟩, by omega, by omega⟩
theorem rowI_new (M : List Int) {tail : List Value} {cap' : Nat} (ht : tailOK tail cap' M.length 1 = true) : RowI (ci M ++ tail) M.length cap' ∧ zc (ci M ++ tail) M.length = M := by
 obtain ⟨t1, t2, t3, t4⟩ := tail_spec ht
 exact rowI_mk M t1 (by omega) t4
theorem RowI.good {c : List Value} {n cap : Nat} (h : RowI c n cap) (ps : List (Nat × Nat)) : goodL ps c = true := goodL_plain h.plain
theorem RowI.rlb {c : List Value} {n cap : Nat} (h : RowI c n cap) (ps : List (Nat × Nat)) : rlbL ps c = c := rlbL_plain ps h.plain
def Rw.bi : Rw → Option Blk
 | .nil => none
 | .own d _ _ => some ⟨d, 251, true⟩
def Rw.oki : Rw → Bool
 | .nil => true
 | .own d m cap => rowIOK d m cap
theorem c_imp {b : Bool} {P Q P' Q' : Prop} (h : bif b then P else Q) (h1 : P → P') (h2 : Q → Q') : bif b then P' else Q' := by
 cases b
 ·exact h2 h
 ·exact h1 h
theorem idx_pos (l : List Int) (c : Int) : decide (idxZ l c ≥ 0) = hasZ l c := by
 have := idx_neg l c
 rw [Bool.eq_iff_iff, decide_eq_true_eq] at *
 cases h : hasZ l c with
 | true =>
  rw [h] at this
  have h2 : ¬ idxZ l c < 0 := fun q => by have := this.1 q; cases this
  simp
  omega
 | false =>
  rw [h] at this
  have h2 : idxZ l c < 0 := this.2 rfl
  simp
  omega
def roP (dr f c i : Int) : Int := bif hasZ [57, 89, 84, 73, 82] c then 0 else bif c == 90 || (c == 42 || (c == dr && i != f)) then 1 else bif c == 86 then 2 else bif c == 36 then 5 else bif c == 83 || (c == 43 || c == 45) then 4 else 3
def rolesP (dr f : Int) : List Int → Int → List Int
 | [], _ => []
 | c :: r, i => roP dr f c i :: rolesP dr f r (i + 1)
structure PlS where
 pts : Int
 bh : Bool
 w : Int
 dg : Int
 q : Int
 fm : Int
def plGo : List Int → PlS → Bool × PlS
 | [], a => (true, a)
 | r :: rs, a => bif r == 2 then plGo rs ⟨a.pts + 1, a.bh, a.w, a.dg, a.q, a.fm⟩ else bif r == 0 then plGo rs ⟨a.pts, a.bh, a.w + 1, a.dg + 1, a.q + a.pts, a.fm + 1⟩
  else bif r == 1 then (bif decide (a.fm > 0) then (false, a) else plGo rs ⟨a.pts, a.bh || decide (a.pts > 0), a.w + 1, a.dg + 1, a.q + a.pts, a.fm⟩) else plGo rs ⟨a.pts, a.bh, a.w + 1, a.dg, a.q, a.fm⟩
def V133_0 : ByteArray × Bool × Int × Bool × List Value × Nat × Nat × Int × Int × ByteArray × Int × Int × Int × Rw × Int × Int × Bool × Int → List Value := fun (b, r, pts, bh, d, m, cap, L, i, s, w, dg, q, o, dr, f, cr, fm) => [.pointer (some ⟨3, 0, some 0⟩), S b, B r, I (pts), B (bh), .slice (some ⟨400, 0, some 1⟩) m cap, I L, I (i)]
def B133_0 : ByteArray × Bool × Int × Bool × List Value × Nat × Nat × Int × Int × ByteArray × Int × Int × Int × Rw × Int × Int × Bool × Int → List (Option Blk) := fun (b, r, pts, bh, d, m, cap, L, i, s, w, dg, q, o, dr, f, cr, fm) => [some ⟨[.string s, .bool true, .int .i64 (w), .int .i64 (dg), .int .i64 (q), .bool false, o.v 401, .int .u8 dr, .int .i64 f, .bool cr, .int .u8 32, .int .i64 (fm)], 156, true⟩, some ⟨d, 5, false⟩, o.bi]
def S133_0 : LSpecA (ByteArray × Bool × Int × Bool × List Value × Nat × Nat × Int × Int × ByteArray × Int × Int × Int × Rw × Int × Int × Bool × Int) where
 live := [0, 1, 4, 5, 6, 11, 12, 13]
 mid := [3, 400, 401]
 n := 410
 ap := [(.tmp 11, 400), (.cell 3 6, 401)]
 dec vs bs := match vs, bs with
  | [.pointer (some ⟨3, 0, some 0⟩), .string b, .bool r, .int .i64 pts, .bool bh, .slice (some ⟨400, 0, some 1⟩) m cap, .int .i64 L, .int .i64 i], [some ⟨[.string s, .bool true, .int .i64 w, .int .i64 dg, .int .i64 q, .bool false, .slice none 0 0, .int .u8 dr, .int .i64 f, .bool cr, .int .u8 32, .int .i64 fm], 156, true⟩, some ⟨d, 5, false⟩, none] => some (b, r, pts, bh, d, m, cap, L, i, s, w, dg, q, .nil, dr, f, cr, fm)
  | [.pointer (some ⟨3, 0, some 0⟩), .string b, .bool r, .int .i64 pts, .bool bh, .slice (some ⟨400, 0, some 1⟩) m cap, .int .i64 L, .int .i64 i], [some ⟨[.string s, .bool true, .int .i64 w, .int .i64 dg, .int .i64 q, .bool false, .slice (some ⟨401, 0, some 1⟩) m2 cap2, .int .u8 dr, .int .i64 f, .bool cr, .int .u8 32, .int .i64 fm], 156, true⟩, some ⟨d, 5, false⟩, some ⟨d2, 251, true⟩] => some (b, r, pts, bh, d, m, cap, L, i, s, w, dg, q, .own d2 m2 cap2, dr, f, cr, fm)
  | _, _ => none
 pre := fun (b, r, pts, bh, d, m, cap, L, i, s, w, dg, q, o, dr, f, cr, fm) => o.oki && (vwOK d m && decide (0 ≤ i ∧ i ≤ m ∧ m ≤ 100 ∧ L = m ∧ 0 ≤ pts ∧ pts ≤ i ∧ 0 ≤ w ∧ w ≤ i ∧ 0 ≤ dg ∧ dg ≤ i ∧ 0 ≤ fm ∧ fm ≤ i ∧ 0 ≤ q ∧ q ≤ i * 100 ∧ o.z.length ≤ i))
 fin := fun (b, r, pts, bh, d, m, cap, L, i, s, w, dg, q, o, dr, f, cr, fm) Z => (bif (plGo (rolesP dr f ((zc d m).drop i.toNat) i) ⟨pts, bh, w, dg, q, fm⟩).1 then (o.is = false → (zc d m).drop i.toNat = [] → Z (.exit 0) [.pointer (some ⟨3, 0, some 0⟩), S b, B r, I (pts), B (bh), .slice (some ⟨400, 0, some 1⟩) m cap, I L, I (m)] [some ⟨[.string s, .bool true, .int .i64 (w), .int .i64 (dg), .int .i64 (q), .bool false, .slice none 0 0, .int .u8 dr, .int .i64 f, .bool cr, .int .u8 32, .int .i64 (fm)], 156, true⟩, some ⟨d, 5, false⟩, none]) ∧ ∀ pts' bh' w' dg' q' fm' d' m' cap', rowIOK d' m' cap' = true → zc d' m' = o.z ++ rolesP dr f ((zc d m).drop i.toNat) i → plGo (rolesP dr f ((zc d m).drop i.toNat) i) ⟨pts, bh, w, dg, q, fm⟩ = (true, ⟨pts', bh', w', dg', q', fm'⟩) → Z (.exit 0) [.pointer (some ⟨3, 0, some 0⟩), S b, B r, I (pts'), B (bh'), .slice (some ⟨400, 0, some 1⟩) m cap, I L, I (m)] [some ⟨[.string s, .bool true, .int .i64 (w'), .int .i64 (dg'), .int .i64 (q'), .bool false, .slice (some ⟨401, 0, some 1⟩) m' cap', .int .u8 dr, .int .i64 f, .bool cr, .int .u8 32, .int .i64 (fm')], 156, true⟩, some ⟨d, 5, false⟩, some ⟨d', 251, true⟩] else ∀ pts' bh' i' w' dg' q' fm' d' m' cap', rowIOK d' m' cap' = true → Z .ret [.pointer (some ⟨3, 0, some 0⟩), S b, B false, I (pts'), B (bh'), .slice (some ⟨400, 0, some 1⟩) m cap, I L, I (i')] [some ⟨[.string s, .bool true, .int .i64 (w'), .int .i64 (dg'), .int .i64 (q'), .bool false, .slice (some ⟨401, 0, some 1⟩) m' cap', .int .u8 dr, .int .i64 f, .bool cr, .int .u8 32, .int .i64 (fm')], 156, true⟩, some ⟨d, 5, false⟩, some ⟨d', 251, true⟩])
theorem r133_0n (b : ByteArray) (r : Bool) (pts : Int) (bh : Bool) (d : List Value) (m : Nat) (cap : Nat) (L : Int) (i : Int) (s : ByteArray) (w : Int) (dg : Int) (q : Int) (dr : Int) (f : Int) (cr : Bool) (fm : Int) (jk : Tmps) (R : Exit → List Value → List (Option Blk) → Prop) : (codeQ Tryz.prog G22 noL Tryz.f245.ntmps (loopOf Tryz.f245 0) (tl S133_0.live (V133_0 (b, r, pts, bh, d, m, cap, L, i, s, w, dg, q, .nil, dr, f, cr, fm)) jk) (ml S133_0.mid (B133_0 (b, r, pts, bh, d, m, cap, L, i, s, w, dg, q, .nil, dr, f, cr, fm))) S133_0.n fun e t' m' _ => S133_0.out R e t' m') = ( bif decide (i < L) then bif decide (0 ≤ i ∧ i < (↑m : Int)) then bif isIntAt IntKind.u8 d (0 + Int.toNat i * 1) then bif decide (0 ≤ intAt d (0 + Int.toNat i * 1) ∧ intAt d (0 + Int.toNat i * 1) < 256) then bif decide (idxZ (bz (ByteArray.mk #[57, 89, 84, 73, 82])) (intAt d (0 + Int.toNat i * 1)) ≥ 0) then ∀ (cap_1 : Nat) (tail : List Value), tailOK tail cap_1 1 1 = true → bif goodL [(400, 400), (434, 401)] d && (goodL [(400, 400), (434, 401)] (I 0 :: tail) && true) && true then R Exit.normal [.pointer (some (.mk 3 0 (some 0))), S b, B r, I pts, B bh, .slice (some (.mk 400 0 (some 1))) m cap, I L, I (IntKind.wrap .i64 (i + 1))] [some (.mk [S s, B true, I (IntKind.wrap .i64 (w + 1)), I (IntKind.wrap .i64 (dg + 1)), I (IntKind.wrap .i64 (q + pts)), B false, .slice (some (.mk 401 0 (some 1))) 1 cap_1, .int .u8 dr, I f, B cr, .int .u8 32, I (IntKind.wrap .i64 (fm + 1))] 156 true), some (.mk (rlbL [(400, 400), (434, 401)] d) 5 false), some (.mk (rlbL [(400, 400), (434, 401)] (I 0 :: tail)) 251 true)] else False else bif intAt d (0 + Int.toNat i * 1) == 90 || (intAt d (0 + Int.toNat i * 1) == 42 || (intAt d (0 + Int.toNat i * 1) == dr || true)) then bif intAt d (0 + Int.toNat i * 1) == 90 || (intAt d (0 + Int.toNat i * 1) == 42 || intAt d (0 + Int.toNat i * 1) == dr && i != f) then ∀ (cap_1 : Nat) (tail : List Value), tailOK tail cap_1 1 1 = true → bif decide (fm > 0) then bif goodL [(400, 400), (457, 401)] d && (goodL [(400, 400), (457, 401)] (I 1 :: tail) && true) && true then R Exit.ret [.pointer (some (.mk 3 0 (some 0))), S b, B false, I pts, B bh, .slice (some (.mk 400 0 (some 1))) m cap, I L, I i] [some (.mk [S s, B true, I w, I dg, I q, B false, .slice (some (.mk 401 0 (some 1))) 1 cap_1, .int .u8 dr, I f, B cr, .int .u8 32, I fm] 156 true), some (.mk (rlbL [(400, 400), (457, 401)] d) 5 false), some (.mk (rlbL [(400, 400), (457, 401)] (I 1 :: tail)) 251 true)] else False else bif bh || true then bif goodL [(400, 400), (457, 401)] d && (goodL [(400, 400), (457, 401)] (I 1 :: tail) && true) && true then R Exit.normal [.pointer (some (.mk 3 0 (some 0))), S b, B r, I pts, B (bh || decide (pts > 0)), .slice (some (.mk 400 0 (some 1))) m cap, I L, I (IntKind.wrap .i64 (i + 1))] [some (.mk [S s, B true, I (IntKind.wrap .i64 (w + 1)), I (IntKind.wrap .i64 (dg + 1)), I (IntKind.wrap .i64 (q + pts)), B false, .slice (some (.mk 401 0 (some 1))) 1 cap_1, .int .u8 dr, I f, B cr, .int .u8 32, I fm] 156 true), some (.mk (rlbL [(400, 400), (457, 401)] d) 5 false), some (.mk (rlbL [(400, 400), (457, 401)] (I 1 :: tail)) 251 true)] else False else False else bif intAt d (0 + Int.toNat i * 1) == 86 then ∀ (cap_1 : Nat) (tail : List Value), tailOK tail cap_1 1 1 = true → bif goodL [(400, 400), (460, 401)] d && (goodL [(400, 400), (460, 401)] (I 2 :: tail) && true) && true then R Exit.normal [.pointer (some (.mk 3 0 (some 0))), S b, B r, I (IntKind.wrap .i64 (pts + 1)), B bh, .slice (some (.mk 400 0 (some 1))) m cap, I L, I (IntKind.wrap .i64 (i + 1))] [some (.mk [S s, B true, I w, I dg, I q, B false, .slice (some (.mk 401 0 (some 1))) 1 cap_1, .int .u8 dr, I f, B cr, .int .u8 32, I fm] 156 true), some (.mk (rlbL [(400, 400), (460, 401)] d) 5 false), some (.mk (rlbL [(400, 400), (460, 401)] (I 2 :: tail)) 251 true)] else False else bif intAt d (0 + Int.toNat i * 1) == 36 then ∀ (cap_1 : Nat) (tail : List Value), tailOK tail cap_1 1 1 = true → bif goodL [(400, 400), (463, 401)] d && (goodL [(400, 400), (463, 401)] (I 5 :: tail) && true) && true then R Exit.normal [.pointer (some (.mk 3 0 (some 0))), S b, B r, I pts, B bh, .slice (some (.mk 400 0 (some 1))) m cap, I L, I (IntKind.wrap .i64 (i + 1))] [some (.mk [S s, B true, I (IntKind.wrap .i64 (w + 1)), I dg, I q, B false, .slice (some (.mk 401 0 (some 1))) 1 cap_1, .int .u8 dr, I f, B cr, .int .u8 32, I fm] 156 true), some (.mk (rlbL [(400, 400), (463, 401)] d) 5 false), some (.mk (rlbL [(400, 400), (463, 401)] (I 5 :: tail)) 251 true)] else False else bif intAt d (0 + Int.toNat i * 1) == 83 || (intAt d (0 + Int.toNat i * 1) == 43 || true) then bif intAt d (0 + Int.toNat i * 1) == 83 || (intAt d (0 + Int.toNat i * 1) == 43 || intAt d (0 + Int.toNat i * 1) == 45) then ∀ (cap_1 : Nat) (tail : List Value), tailOK tail cap_1 1 1 = true → bif goodL [(400, 400), (474, 401)] d && (goodL [(400, 400), (474, 401)] (I 4 :: tail) && true) && true then R Exit.normal [.pointer (some (.mk 3 0 (some 0))), S b, B r, I pts, B bh, .slice (some (.mk 400 0 (some 1))) m cap, I L, I (IntKind.wrap .i64 (i + 1))] [some (.mk [S s, B true, I (IntKind.wrap .i64 (w + 1)), I dg, I q, B false, .slice (some (.mk 401 0 (some 1))) 1 cap_1, .int .u8 dr, I f, B cr, .int .u8 32, I fm] 156 true), some (.mk (rlbL [(400, 400), (474, 401)] d) 5 false), some (.mk (rlbL [(400, 400), (474, 401)] (I 4 :: tail)) 251 true)] else False else ∀ (cap_1 : Nat) (tail : List Value), tailOK tail cap_1 1 1 = true → bif goodL [(400, 400), (474, 401)] d && (goodL [(400, 400), (474, 401)] (I 3 :: tail) && true) && true then R Exit.normal [.pointer (some (.mk 3 0 (some 0))), S b, B r, I pts, B bh, .slice (some (.mk 400 0 (some 1))) m cap, I L, I (IntKind.wrap .i64 (i + 1))] [some (.mk [S s, B true, I (IntKind.wrap .i64 (w + 1)), I dg, I q, B false, .slice (some (.mk 401 0 (some 1))) 1 cap_1, .int .u8 dr, I f, B cr, .int .u8 32, I fm] 156 true), some (.mk (rlbL [(400, 400), (474, 401)] d) 5 false), some (.mk (rlbL [(400, 400), (474, 401)] (I 3 :: tail)) 251 true)] else False else False else False else False else False else False else bif goodL [(400, 400)] d && true && true then R (Exit.exit 0) [.pointer (some (.mk 3 0 (some 0))), S b, B r, I pts, B bh, .slice (some (.mk 400 0 (some 1))) m cap, I L, I i] [some (.mk [S s, B true, I w, I dg, I q, B false, .slice none 0 0, .int .u8 dr, I f, B cr, .int .u8 32, I fm] 156 true), some (.mk (rlbL [(400, 400)] d) 5 false), none] else False) := by kernel_rfl
theorem r133_0o (b : ByteArray) (r : Bool) (pts : Int) (bh : Bool) (d : List Value) (m : Nat) (cap : Nat) (L : Int) (i : Int) (s : ByteArray) (w : Int) (dg : Int) (q : Int) (d2 : List Value) (m2 : Nat) (cap2 : Nat) (dr : Int) (f : Int) (cr : Bool) (fm : Int) (jk : Tmps) (R : Exit → List Value → List (Option Blk) → Prop) : (codeQ Tryz.prog G22 noL Tryz.f245.ntmps (loopOf Tryz.f245 0) (tl S133_0.live (V133_0 (b, r, pts, bh, d, m, cap, L, i, s, w, dg, q, .own d2 m2 cap2, dr, f, cr, fm)) jk) (ml S133_0.mid (B133_0 (b, r, pts, bh, d, m, cap, L, i, s, w, dg, q, .own d2 m2 cap2, dr, f, cr, fm))) S133_0.n fun e t' m' _ => S133_0.out R e t' m') = ( bif decide (i < L) then bif decide (0 ≤ i ∧ i < (↑m : Int)) then bif isIntAt IntKind.u8 d (0 + Int.toNat i * 1) then bif decide (0 ≤ intAt d (0 + Int.toNat i * 1) ∧ intAt d (0 + Int.toNat i * 1) < 256) then bif decide (idxZ (bz (ByteArray.mk #[57, 89, 84, 73, 82])) (intAt d (0 + Int.toNat i * 1)) ≥ 0) then bif Nat.beq (List.length d2) (cap2 * 1) && Nat.ble m2 cap2 && Nat.ble cap2 9223372036854775807 && true && fitsA (m2 + 1) 8 then ∀ (cap_1 : Nat) (tail : List Value), tailOK tail cap_1 (m2 + 1) 1 = true → bif goodL [(400, 400), (434, 401)] d && (goodL [(400, 400), (434, 401)] (List.take (m2 * 1) d2 ++ [I 0] ++ tail) && true) && true then R Exit.normal [.pointer (some (.mk 3 0 (some 0))), S b, B r, I pts, B bh, .slice (some (.mk 400 0 (some 1))) m cap, I L, I (IntKind.wrap .i64 (i + 1))] [some (.mk [S s, B true, I (IntKind.wrap .i64 (w + 1)), I (IntKind.wrap .i64 (dg + 1)), I (IntKind.wrap .i64 (q + pts)), B false, .slice (some (.mk 401 0 (some 1))) (m2 + 1) cap_1, .int .u8 dr, I f, B cr, .int .u8 32, I (IntKind.wrap .i64 (fm + 1))] 156 true), some (.mk (rlbL [(400, 400), (434, 401)] d) 5 false), some (.mk (rlbL [(400, 400), (434, 401)] (List.take (m2 * 1) d2 ++ [I 0] ++ tail)) 251 true)] else False else False else bif intAt d (0 + Int.toNat i * 1) == 90 || (intAt d (0 + Int.toNat i * 1) == 42 || (intAt d (0 + Int.toNat i * 1) == dr || true)) then bif intAt d (0 + Int.toNat i * 1) == 90 || (intAt d (0 + Int.toNat i * 1) == 42 || intAt d (0 + Int.toNat i * 1) == dr && i != f) then bif Nat.beq (List.length d2) (cap2 * 1) && Nat.ble m2 cap2 && Nat.ble cap2 9223372036854775807 && true && fitsA (m2 + 1) 8 then ∀ (cap_1 : Nat) (tail : List Value), tailOK tail cap_1 (m2 + 1) 1 = true → bif decide (fm > 0) then bif goodL [(400, 400), (457, 401)] d && (goodL [(400, 400), (457, 401)] (List.take (m2 * 1) d2 ++ [I 1] ++ tail) && true) && true then R Exit.ret [.pointer (some (.mk 3 0 (some 0))), S b, B false, I pts, B bh, .slice (some (.mk 400 0 (some 1))) m cap, I L, I i] [some (.mk [S s, B true, I w, I dg, I q, B false, .slice (some (.mk 401 0 (some 1))) (m2 + 1) cap_1, .int .u8 dr, I f, B cr, .int .u8 32, I fm] 156 true), some (.mk (rlbL [(400, 400), (457, 401)] d) 5 false), some (.mk (rlbL [(400, 400), (457, 401)] (List.take (m2 * 1) d2 ++ [I 1] ++ tail)) 251 true)] else False else bif bh || true then bif goodL [(400, 400), (457, 401)] d && (goodL [(400, 400), (457, 401)] (List.take (m2 * 1) d2 ++ [I 1] ++ tail) && true) && true then R Exit.normal [.pointer (some (.mk 3 0 (some 0))), S b, B r, I pts, B (bh || decide (pts > 0)), .slice (some (.mk 400 0 (some 1))) m cap, I L, I (IntKind.wrap .i64 (i + 1))] [some (.mk [S s, B true, I (IntKind.wrap .i64 (w + 1)), I (IntKind.wrap .i64 (dg + 1)), I (IntKind.wrap .i64 (q + pts)), B false, .slice (some (.mk 401 0 (some 1))) (m2 + 1) cap_1, .int .u8 dr, I f, B cr, .int .u8 32, I fm] 156 true), some (.mk (rlbL [(400, 400), (457, 401)] d) 5 false), some (.mk (rlbL [(400, 400), (457, 401)] (List.take (m2 * 1) d2 ++ [I 1] ++ tail)) 251 true)] else False else False else False else bif intAt d (0 + Int.toNat i * 1) == 86 then bif Nat.beq (List.length d2) (cap2 * 1) && Nat.ble m2 cap2 && Nat.ble cap2 9223372036854775807 && true && fitsA (m2 + 1) 8 then ∀ (cap_1 : Nat) (tail : List Value), tailOK tail cap_1 (m2 + 1) 1 = true → bif goodL [(400, 400), (460, 401)] d && (goodL [(400, 400), (460, 401)] (List.take (m2 * 1) d2 ++ [I 2] ++ tail) && true) && true then R Exit.normal [.pointer (some (.mk 3 0 (some 0))), S b, B r, I (IntKind.wrap .i64 (pts + 1)), B bh, .slice (some (.mk 400 0 (some 1))) m cap, I L, I (IntKind.wrap .i64 (i + 1))] [some (.mk [S s, B true, I w, I dg, I q, B false, .slice (some (.mk 401 0 (some 1))) (m2 + 1) cap_1, .int .u8 dr, I f, B cr, .int .u8 32, I fm] 156 true), some (.mk (rlbL [(400, 400), (460, 401)] d) 5 false), some (.mk (rlbL [(400, 400), (460, 401)] (List.take (m2 * 1) d2 ++ [I 2] ++ tail)) 251 true)] else False else False else bif intAt d (0 + Int.toNat i * 1) == 36 then bif Nat.beq (List.length d2) (cap2 * 1) && Nat.ble m2 cap2 && Nat.ble cap2 9223372036854775807 && true && fitsA (m2 + 1) 8 then ∀ (cap_1 : Nat) (tail : List Value), tailOK tail cap_1 (m2 + 1) 1 = true → bif goodL [(400, 400), (463, 401)] d && (goodL [(400, 400), (463, 401)] (List.take (m2 * 1) d2 ++ [I 5] ++ tail) && true) && true then R Exit.normal [.pointer (some (.mk 3 0 (some 0))), S b, B r, I pts, B bh, .slice (some (.mk 400 0 (some 1))) m cap, I L, I (IntKind.wrap .i64 (i + 1))] [some (.mk [S s, B true, I (IntKind.wrap .i64 (w + 1)), I dg, I q, B false, .slice (some (.mk 401 0 (some 1))) (m2 + 1) cap_1, .int .u8 dr, I f, B cr, .int .u8 32, I fm] 156 true), some (.mk (rlbL [(400, 400), (463, 401)] d) 5 false), some (.mk (rlbL [(400, 400), (463, 401)] (List.take (m2 * 1) d2 ++ [I 5] ++ tail)) 251 true)] else False else False else bif intAt d (0 + Int.toNat i * 1) == 83 || (intAt d (0 + Int.toNat i * 1) == 43 || true) then bif intAt d (0 + Int.toNat i * 1) == 83 || (intAt d (0 + Int.toNat i * 1) == 43 || intAt d (0 + Int.toNat i * 1) == 45) then bif Nat.beq (List.length d2) (cap2 * 1) && Nat.ble m2 cap2 && Nat.ble cap2 9223372036854775807 && true && fitsA (m2 + 1) 8 then ∀ (cap_1 : Nat) (tail : List Value), tailOK tail cap_1 (m2 + 1) 1 = true → bif goodL [(400, 400), (474, 401)] d && (goodL [(400, 400), (474, 401)] (List.take (m2 * 1) d2 ++ [I 4] ++ tail) && true) && true then R Exit.normal [.pointer (some (.mk 3 0 (some 0))), S b, B r, I pts, B bh, .slice (some (.mk 400 0 (some 1))) m cap, I L, I (IntKind.wrap .i64 (i + 1))] [some (.mk [S s, B true, I (IntKind.wrap .i64 (w + 1)), I dg, I q, B false, .slice (some (.mk 401 0 (some 1))) (m2 + 1) cap_1, .int .u8 dr, I f, B cr, .int .u8 32, I fm] 156 true), some (.mk (rlbL [(400, 400), (474, 401)] d) 5 false), some (.mk (rlbL [(400, 400), (474, 401)] (List.take (m2 * 1) d2 ++ [I 4] ++ tail)) 251 true)] else False else False else bif Nat.beq (List.length d2) (cap2 * 1) && Nat.ble m2 cap2 && Nat.ble cap2 9223372036854775807 && true && fitsA (m2 + 1) 8 then ∀ (cap_1 : Nat) (tail : List Value), tailOK tail cap_1 (m2 + 1) 1 = true → bif goodL [(400, 400), (474, 401)] d && (goodL [(400, 400), (474, 401)] (List.take (m2 * 1) d2 ++ [I 3] ++ tail) && true) && true then R Exit.normal [.pointer (some (.mk 3 0 (some 0))), S b, B r, I pts, B bh, .slice (some (.mk 400 0 (some 1))) m cap, I L, I (IntKind.wrap .i64 (i + 1))] [some (.mk [S s, B true, I (IntKind.wrap .i64 (w + 1)), I dg, I q, B false, .slice (some (.mk 401 0 (some 1))) (m2 + 1) cap_1, .int .u8 dr, I f, B cr, .int .u8 32, I fm] 156 true), some (.mk (rlbL [(400, 400), (474, 401)] d) 5 false), some (.mk (rlbL [(400, 400), (474, 401)] (List.take (m2 * 1) d2 ++ [I 3] ++ tail)) 251 true)] else False else False else False else False else False else False else False else bif goodL [(400, 400), (401, 401)] d && (goodL [(400, 400), (401, 401)] d2 && true) && true then R (Exit.exit 0) [.pointer (some (.mk 3 0 (some 0))), S b, B r, I pts, B bh, .slice (some (.mk 400 0 (some 1))) m cap, I L, I i] [some (.mk [S s, B true, I w, I dg, I q, B false, .slice (some (.mk 401 0 (some 1))) m2 cap2, .int .u8 dr, I f, B cr, .int .u8 32, I fm] 156 true), some (.mk (rlbL [(400, 400), (401, 401)] d) 5 false), some (.mk (rlbL [(400, 400), (401, 401)] d2) 251 true)] else False) := by kernel_rfl
theorem l133_0 : LOKf Tryz.prog (oneL 0 S133_0.hA) Tryz.f245 := by
 refine lokf_one (h := S133_0.hA) (by kernel_rfl) (loop_specA ok_G22 hmix (by kernel_rfl) (lok_none _) S133_0 V133_0 B133_0 (fun (b, r, pts, bh, d, m, cap, L, i, s, w, dg, q, o, dr, f, cr, fm) => (m - i).toNat) ?_ ?_ ?_)
 ·intro vs bs s h
  simp only [S133_0] at h
  split at h
  all_goals first | (cases h; exact ⟨rfl, rfl⟩) | cases h | (split at h <;> first | (rename_i hq; cases h; have hq := Nat.eq_of_beq_eq_true hq; subst hq; exact ⟨rfl, rfl⟩) | cases h)
 ·exact fun ⟨b, r, pts, bh, d, m, cap, L, i, s, w, dg, q, o, dr, f, cr, fm⟩ hp => by
   simp only [S133_0, Bool.and_eq_true] at hp
   have hv := vwOK_iff.1 hp.2.1
   cases o with
   | nil => simp [V133_0, B133_0, S133_0, idsLt, idsLtB, idsL, ids, Rw.v, Rw.bi, ids_plainL hv.plain]
   | own d2 m2 cap2 => simp [V133_0, B133_0, S133_0, idsLt, idsLtB, idsL, ids, Rw.v, Rw.bi, ids_plainL hv.plain, ids_plainL (rowIOK_iff.1 hp.1).plain]
 ·intro ⟨b, r, pts, bh, d, m, cap, L, i, s, w, dg, q, o, dr, f, cr, fm⟩ jk Z hp hf
  simp only [S133_0] at hp hf
  cases o with
  | nil =>
   rw [r133_0n]
   simp only [Bool.and_eq_true, decide_eq_true_eq] at hp
   obtain ⟨-, hV, hp⟩ := hp
   have hv := vwOK_iff.1 hV
   simp only [Rw.z, List.length_nil] at hp hf
   have k1 : bz ⟨#[57, 89, 84, 73, 82]⟩ = [57, 89, 84, 73, 82] := rfl
   have e0 : 0 + i.toNat * 1 = i.toNat := by omega
   rw [k1, e0]
   refine cond_intro (fun h => ?_) (fun h => ?_)
   ·have h := of_decide_eq_true h
    obtain ⟨a1, a2, a3⟩ := hv.at hp.1 (by omega)
    rw [a3] at hf
    rw [a1, w64 (n := i + 1) (by omega)]
    generalize intAt d i.toNat = c at *
    refine c_t (decide_eq_true (by omega)) (c_t rfl (c_t (decide_eq_true a2) ?_))
    rw [idx_pos]
    refine cond_intro (fun q0 => ?_) (fun q0 => c_t (by simp) (cond_intro (fun q1 => ?_) (fun q1 => cond_intro (fun q2 => ?_) (fun q2 => cond_intro (fun q3 => ?_) (fun q3 => c_t (by simp) (cond_intro (fun q4 => ?_) (fun q4 => ?_)))))))
    ·have e : roP dr f c i = 0 := by
      unfold roP
      rw [q0]; rfl
     rw [rolesP, e] at hf
     intro cap1 tail ht
     obtain ⟨h1, h2⟩ : RowI (Value.int IntKind.i64 0 :: tail) 1 cap1 ∧ zc (Value.int IntKind.i64 0 :: tail) 1 = [0] := rowI_new [0] ht
     have hl1 := zi_length h1
     generalize Value.int IntKind.i64 0 :: tail = d' at *
     refine c_t (by rw [goodL_plain hv.plain, goodL_plain h1.plain]; rfl) ?_
     rw [hv.rlb, rlbL_plain _ h1.plain]
     rw [w64 (n := w + 1) (by omega)]
     rw [w64 (n := dg + 1) (by omega)]
     rw [w64 (n := q + pts) (by omega)]
     rw [w64 (n := fm + 1) (by omega)]
     exact ⟨(b, r, pts, bh, d, m, cap, L, i + 1, s, w + 1, dg + 1, q + pts, .own d' (1) cap1, dr, f, cr, fm + 1), rfl, rfl, by simp only [S133_0, Bool.and_eq_true, decide_eq_true_eq]; exact ⟨rowIOK_iff.2 h1, hV, by simp only [Rw.z, hl1]; omega⟩, by simp only; omega, by simp only [S133_0]; refine c_imp hf ?_ (fun g => g); rintro ⟨-, g⟩; exact ⟨fun q => (by cases q), fun pts' bh' w' dg' q' fm' d'' m'' cap'' g1 g2 g3 => g pts' bh' w' dg' q' fm' d'' m'' cap'' g1 (by rw [g2]; simp [Rw.z, h2]) g3⟩⟩
    ·have e : roP dr f c i = 1 := by
      unfold roP
      rw [q0, q1]; rfl
     rw [rolesP, e] at hf
     intro cap1 tail ht
     obtain ⟨h1, h2⟩ : RowI (Value.int IntKind.i64 1 :: tail) 1 cap1 ∧ zc (Value.int IntKind.i64 1 :: tail) 1 = [1] := rowI_new [1] ht
     have hl1 := zi_length h1
     generalize Value.int IntKind.i64 1 :: tail = d' at *
     have e2 : plGo (1 :: rolesP dr f (List.drop (i + 1).toNat (zc d m)) (i + 1)) ⟨pts, bh, w, dg, q, fm⟩ = bif decide (fm > 0) then (false, ⟨pts, bh, w, dg, q, fm⟩) else plGo (rolesP dr f (List.drop (i + 1).toNat (zc d m)) (i + 1)) ⟨pts, bh || decide (pts > 0), w + 1, dg + 1, q + pts, fm⟩ := rfl
     rw [e2] at hf
     refine cond_intro (fun z => c_t (by rw [goodL_plain hv.plain, goodL_plain h1.plain]; rfl) ?_) (fun z => c_t (by simp) ?_)
     ·rw [hv.rlb, rlbL_plain _ h1.plain]
      rw [z, cond_true] at hf
      exact hf _ _ _ _ _ _ _ d' _ _ (rowIOK_iff.2 h1)
     ·rw [z, cond_false] at hf
      refine c_t (by rw [goodL_plain hv.plain, goodL_plain h1.plain]; rfl) ?_
      rw [hv.rlb, rlbL_plain _ h1.plain]
      rw [w64 (n := w + 1) (by omega)]
      rw [w64 (n := dg + 1) (by omega)]
      rw [w64 (n := q + pts) (by omega)]
      exact ⟨(b, r, pts, bh || decide (pts > 0), d, m, cap, L, i + 1, s, w + 1, dg + 1, q + pts, .own d' (1) cap1, dr, f, cr, fm), rfl, rfl, by simp only [S133_0, Bool.and_eq_true, decide_eq_true_eq]; exact ⟨rowIOK_iff.2 h1, hV, by simp only [Rw.z, hl1]; omega⟩, by simp only; omega, by simp only [S133_0]; refine c_imp hf ?_ (fun g => g); rintro ⟨-, g⟩; exact ⟨fun q => (by cases q), fun pts' bh' w' dg' q' fm' d'' m'' cap'' g1 g2 g3 => g pts' bh' w' dg' q' fm' d'' m'' cap'' g1 (by rw [g2]; simp [Rw.z, h2]) g3⟩⟩
    ·have e : roP dr f c i = 2 := by
      unfold roP
      rw [q0, q1, q2]; rfl
     rw [rolesP, e] at hf
     intro cap1 tail ht
     obtain ⟨h1, h2⟩ : RowI (Value.int IntKind.i64 2 :: tail) 1 cap1 ∧ zc (Value.int IntKind.i64 2 :: tail) 1 = [2] := rowI_new [2] ht
     have hl1 := zi_length h1
     generalize Value.int IntKind.i64 2 :: tail = d' at *
     refine c_t (by rw [goodL_plain hv.plain, goodL_plain h1.plain]; rfl) ?_
     rw [hv.rlb, rlbL_plain _ h1.plain]
     rw [w64 (n := pts + 1) (by omega)]
     exact ⟨(b, r, pts + 1, bh, d, m, cap, L, i + 1, s, w, dg, q, .own d' (1) cap1, dr, f, cr, fm), rfl, rfl, by simp only [S133_0, Bool.and_eq_true, decide_eq_true_eq]; exact ⟨rowIOK_iff.2 h1, hV, by simp only [Rw.z, hl1]; omega⟩, by simp only; omega, by simp only [S133_0]; refine c_imp hf ?_ (fun g => g); rintro ⟨-, g⟩; exact ⟨fun q => (by cases q), fun pts' bh' w' dg' q' fm' d'' m'' cap'' g1 g2 g3 => g pts' bh' w' dg' q' fm' d'' m'' cap'' g1 (by rw [g2]; simp [Rw.z, h2]) g3⟩⟩
    ·have e : roP dr f c i = 5 := by
      unfold roP
      rw [q0, q1, q2, q3]; rfl
     rw [rolesP, e] at hf
     intro cap1 tail ht
     obtain ⟨h1, h2⟩ : RowI (Value.int IntKind.i64 5 :: tail) 1 cap1 ∧ zc (Value.int IntKind.i64 5 :: tail) 1 = [5] := rowI_new [5] ht
     have hl1 := zi_length h1
     generalize Value.int IntKind.i64 5 :: tail = d' at *
     refine c_t (by rw [goodL_plain hv.plain, goodL_plain h1.plain]; rfl) ?_
     rw [hv.rlb, rlbL_plain _ h1.plain]
     rw [w64 (n := w + 1) (by omega)]
     exact ⟨(b, r, pts, bh, d, m, cap, L, i + 1, s, w + 1, dg, q, .own d' (1) cap1, dr, f, cr, fm), rfl, rfl, by simp only [S133_0, Bool.and_eq_true, decide_eq_true_eq]; exact ⟨rowIOK_iff.2 h1, hV, by simp only [Rw.z, hl1]; omega⟩, by simp only; omega, by simp only [S133_0]; refine c_imp hf ?_ (fun g => g); rintro ⟨-, g⟩; exact ⟨fun q => (by cases q), fun pts' bh' w' dg' q' fm' d'' m'' cap'' g1 g2 g3 => g pts' bh' w' dg' q' fm' d'' m'' cap'' g1 (by rw [g2]; simp [Rw.z, h2]) g3⟩⟩
    ·have e : roP dr f c i = 4 := by
      unfold roP
      rw [q0, q1, q2, q3, q4]; rfl
     rw [rolesP, e] at hf
     intro cap1 tail ht
     obtain ⟨h1, h2⟩ : RowI (Value.int IntKind.i64 4 :: tail) 1 cap1 ∧ zc (Value.int IntKind.i64 4 :: tail) 1 = [4] := rowI_new [4] ht
     have hl1 := zi_length h1
     generalize Value.int IntKind.i64 4 :: tail = d' at *
     refine c_t (by rw [goodL_plain hv.plain, goodL_plain h1.plain]; rfl) ?_
     rw [hv.rlb, rlbL_plain _ h1.plain]
     rw [w64 (n := w + 1) (by omega)]
     exact ⟨(b, r, pts, bh, d, m, cap, L, i + 1, s, w + 1, dg, q, .own d' (1) cap1, dr, f, cr, fm), rfl, rfl, by simp only [S133_0, Bool.and_eq_true, decide_eq_true_eq]; exact ⟨rowIOK_iff.2 h1, hV, by simp only [Rw.z, hl1]; omega⟩, by simp only; omega, by simp only [S133_0]; refine c_imp hf ?_ (fun g => g); rintro ⟨-, g⟩; exact ⟨fun q => (by cases q), fun pts' bh' w' dg' q' fm' d'' m'' cap'' g1 g2 g3 => g pts' bh' w' dg' q' fm' d'' m'' cap'' g1 (by rw [g2]; simp [Rw.z, h2]) g3⟩⟩
    ·have e : roP dr f c i = 3 := by
      unfold roP
      rw [q0, q1, q2, q3, q4]; rfl
     rw [rolesP, e] at hf
     intro cap1 tail ht
     obtain ⟨h1, h2⟩ : RowI (Value.int IntKind.i64 3 :: tail) 1 cap1 ∧ zc (Value.int IntKind.i64 3 :: tail) 1 = [3] := rowI_new [3] ht
     have hl1 := zi_length h1
     generalize Value.int IntKind.i64 3 :: tail = d' at *
     refine c_t (by rw [goodL_plain hv.plain, goodL_plain h1.plain]; rfl) ?_
     rw [hv.rlb, rlbL_plain _ h1.plain]
     rw [w64 (n := w + 1) (by omega)]
     exact ⟨(b, r, pts, bh, d, m, cap, L, i + 1, s, w + 1, dg, q, .own d' (1) cap1, dr, f, cr, fm), rfl, rfl, by simp only [S133_0, Bool.and_eq_true, decide_eq_true_eq]; exact ⟨rowIOK_iff.2 h1, hV, by simp only [Rw.z, hl1]; omega⟩, by simp only; omega, by simp only [S133_0]; refine c_imp hf ?_ (fun g => g); rintro ⟨-, g⟩; exact ⟨fun q => (by cases q), fun pts' bh' w' dg' q' fm' d'' m'' cap'' g1 g2 g3 => g pts' bh' w' dg' q' fm' d'' m'' cap'' g1 (by rw [g2]; simp [Rw.z, h2]) g3⟩⟩
   ·have h := of_decide_eq_false h
    rw [hv.end (by omega), rolesP, plGo, cond_true] at hf
    obtain rfl : i = m := by omega
    refine c_t (by rw [goodL_plain hv.plain]; rfl) ?_
    rw [hv.rlb]
    exact hf.1 rfl rfl
  | own d2 m2 cap2 =>
   rw [r133_0o]
   simp only [Bool.and_eq_true, decide_eq_true_eq] at hp
   obtain ⟨hR, hV, hp⟩ := hp
   have hv := vwOK_iff.1 hV
   have hr := rowIOK_iff.1 hR
   have hzl := zi_length hr
   simp only [Rw.z, hzl] at hp hf
   have k1 : bz ⟨#[57, 89, 84, 73, 82]⟩ = [57, 89, 84, 73, 82] := rfl
   have e0 : 0 + i.toNat * 1 = i.toNat := by omega
   rw [k1, e0]
   refine cond_intro (fun h => ?_) (fun h => ?_)
   ·have h := of_decide_eq_true h
    obtain ⟨a1, a2, a3⟩ := hv.at hp.1 (by omega)
    rw [a3] at hf
    rw [a1, w64 (n := i + 1) (by omega)]
    generalize intAt d i.toNat = c at *
    refine c_t (decide_eq_true (by omega)) (c_t rfl (c_t (decide_eq_true a2) ?_))
    rw [idx_pos]
    refine cond_intro (fun q0 => ?_) (fun q0 => c_t (by simp) (cond_intro (fun q1 => ?_) (fun q1 => cond_intro (fun q2 => ?_) (fun q2 => cond_intro (fun q3 => ?_) (fun q3 => c_t (by simp) (cond_intro (fun q4 => ?_) (fun q4 => ?_)))))))
    ·have e : roP dr f c i = 0 := by
      unfold roP
      rw [q0]; rfl
     rw [rolesP, e] at hf
     refine c_t (hr.ask (k := 1) (by omega)) (fun cap1 tail ht => ?_)
     obtain ⟨h1, h2⟩ := hr.app1 0 ht
     have hl1 := zi_length h1
     generalize List.take (m2 * 1) d2 ++ [Value.int IntKind.i64 0] ++ tail = d' at *
     refine c_t (by rw [goodL_plain hv.plain, goodL_plain h1.plain]; rfl) ?_
     rw [hv.rlb, rlbL_plain _ h1.plain]
     rw [w64 (n := w + 1) (by omega)]
     rw [w64 (n := dg + 1) (by omega)]
     rw [w64 (n := q + pts) (by omega)]
     rw [w64 (n := fm + 1) (by omega)]
     exact ⟨(b, r, pts, bh, d, m, cap, L, i + 1, s, w + 1, dg + 1, q + pts, .own d' (m2 + 1) cap1, dr, f, cr, fm + 1), rfl, rfl, by simp only [S133_0, Bool.and_eq_true, decide_eq_true_eq]; exact ⟨rowIOK_iff.2 h1, hV, by simp only [Rw.z, hl1]; omega⟩, by simp only; omega, by simp only [S133_0]; refine c_imp hf ?_ (fun g => g); rintro ⟨-, g⟩; exact ⟨fun q => (by cases q), fun pts' bh' w' dg' q' fm' d'' m'' cap'' g1 g2 g3 => g pts' bh' w' dg' q' fm' d'' m'' cap'' g1 (by rw [g2]; simp [Rw.z, h2]) g3⟩⟩
    ·have e : roP dr f c i = 1 := by
      unfold roP
      rw [q0, q1]; rfl
     rw [rolesP, e] at hf
     refine c_t (hr.ask (k := 1) (by omega)) (fun cap1 tail ht => ?_)
     obtain ⟨h1, h2⟩ := hr.app1 1 ht
     have hl1 := zi_length h1
     generalize List.take (m2 * 1) d2 ++ [Value.int IntKind.i64 1] ++ tail = d' at *
     have e2 : plGo (1 :: rolesP dr f (List.drop (i + 1).toNat (zc d m)) (i + 1)) ⟨pts, bh, w, dg, q, fm⟩ = bif decide (fm > 0) then (false, ⟨pts, bh, w, dg, q, fm⟩) else plGo (rolesP dr f (List.drop (i + 1).toNat (zc d m)) (i + 1)) ⟨pts, bh || decide (pts > 0), w + 1, dg + 1, q + pts, fm⟩ := rfl
     rw [e2] at hf
     refine cond_intro (fun z => c_t (by rw [goodL_plain hv.plain, goodL_plain h1.plain]; rfl) ?_) (fun z => c_t (by simp) ?_)
     ·rw [hv.rlb, rlbL_plain _ h1.plain]
      rw [z, cond_true] at hf
      exact hf _ _ _ _ _ _ _ d' _ _ (rowIOK_iff.2 h1)
     ·rw [z, cond_false] at hf
      refine c_t (by rw [goodL_plain hv.plain, goodL_plain h1.plain]; rfl) ?_
      rw [hv.rlb, rlbL_plain _ h1.plain]
      rw [w64 (n := w + 1) (by omega)]
      rw [w64 (n := dg + 1) (by omega)]
      rw [w64 (n := q + pts) (by omega)]
      exact ⟨(b, r, pts, bh || decide (pts > 0), d, m, cap, L, i + 1, s, w + 1, dg + 1, q + pts, .own d' (m2 + 1) cap1, dr, f, cr, fm), rfl, rfl, by simp only [S133_0, Bool.and_eq_true, decide_eq_true_eq]; exact ⟨rowIOK_iff.2 h1, hV, by simp only [Rw.z, hl1]; omega⟩, by simp only; omega, by simp only [S133_0]; refine c_imp hf ?_ (fun g => g); rintro ⟨-, g⟩; exact ⟨fun q => (by cases q), fun pts' bh' w' dg' q' fm' d'' m'' cap'' g1 g2 g3 => g pts' bh' w' dg' q' fm' d'' m'' cap'' g1 (by rw [g2]; simp [Rw.z, h2]) g3⟩⟩
    ·have e : roP dr f c i = 2 := by
      unfold roP
      rw [q0, q1, q2]; rfl
     rw [rolesP, e] at hf
     refine c_t (hr.ask (k := 1) (by omega)) (fun cap1 tail ht => ?_)
     obtain ⟨h1, h2⟩ := hr.app1 2 ht
     have hl1 := zi_length h1
     generalize List.take (m2 * 1) d2 ++ [Value.int IntKind.i64 2] ++ tail = d' at *
     refine c_t (by rw [goodL_plain hv.plain, goodL_plain h1.plain]; rfl) ?_
     rw [hv.rlb, rlbL_plain _ h1.plain]
     rw [w64 (n := pts + 1) (by omega)]
     exact ⟨(b, r, pts + 1, bh, d, m, cap, L, i + 1, s, w, dg, q, .own d' (m2 + 1) cap1, dr, f, cr, fm), rfl, rfl, by simp only [S133_0, Bool.and_eq_true, decide_eq_true_eq]; exact ⟨rowIOK_iff.2 h1, hV, by simp only [Rw.z, hl1]; omega⟩, by simp only; omega, by simp only [S133_0]; refine c_imp hf ?_ (fun g => g); rintro ⟨-, g⟩; exact ⟨fun q => (by cases q), fun pts' bh' w' dg' q' fm' d'' m'' cap'' g1 g2 g3 => g pts' bh' w' dg' q' fm' d'' m'' cap'' g1 (by rw [g2]; simp [Rw.z, h2]) g3⟩⟩
    ·have e : roP dr f c i = 5 := by
      unfold roP
      rw [q0, q1, q2, q3]; rfl
     rw [rolesP, e] at hf
     refine c_t (hr.ask (k := 1) (by omega)) (fun cap1 tail ht => ?_)
     obtain ⟨h1, h2⟩ := hr.app1 5 ht
     have hl1 := zi_length h1
     generalize List.take (m2 * 1) d2 ++ [Value.int IntKind.i64 5] ++ tail = d' at *
     refine c_t (by rw [goodL_plain hv.plain, goodL_plain h1.plain]; rfl) ?_
     rw [hv.rlb, rlbL_plain _ h1.plain]
     rw [w64 (n := w + 1) (by omega)]
     exact ⟨(b, r, pts, bh, d, m, cap, L, i + 1, s, w + 1, dg, q, .own d' (m2 + 1) cap1, dr, f, cr, fm), rfl, rfl, by simp only [S133_0, Bool.and_eq_true, decide_eq_true_eq]; exact ⟨rowIOK_iff.2 h1, hV, by simp only [Rw.z, hl1]; omega⟩, by simp only; omega, by simp only [S133_0]; refine c_imp hf ?_ (fun g => g); rintro ⟨-, g⟩; exact ⟨fun q => (by cases q), fun pts' bh' w' dg' q' fm' d'' m'' cap'' g1 g2 g3 => g pts' bh' w' dg' q' fm' d'' m'' cap'' g1 (by rw [g2]; simp [Rw.z, h2]) g3⟩⟩
    ·have e : roP dr f c i = 4 := by
      unfold roP
      rw [q0, q1, q2, q3, q4]; rfl
     rw [rolesP, e] at hf
     refine c_t (hr.ask (k := 1) (by omega)) (fun cap1 tail ht => ?_)
     obtain ⟨h1, h2⟩ := hr.app1 4 ht
     have hl1 := zi_length h1
     generalize List.take (m2 * 1) d2 ++ [Value.int IntKind.i64 4] ++ tail = d' at *
     refine c_t (by rw [goodL_plain hv.plain, goodL_plain h1.plain]; rfl) ?_
     rw [hv.rlb, rlbL_plain _ h1.plain]
     rw [w64 (n := w + 1) (by omega)]
     exact ⟨(b, r, pts, bh, d, m, cap, L, i + 1, s, w + 1, dg, q, .own d' (m2 + 1) cap1, dr, f, cr, fm), rfl, rfl, by simp only [S133_0, Bool.and_eq_true, decide_eq_true_eq]; exact ⟨rowIOK_iff.2 h1, hV, by simp only [Rw.z, hl1]; omega⟩, by simp only; omega, by simp only [S133_0]; refine c_imp hf ?_ (fun g => g); rintro ⟨-, g⟩; exact ⟨fun q => (by cases q), fun pts' bh' w' dg' q' fm' d'' m'' cap'' g1 g2 g3 => g pts' bh' w' dg' q' fm' d'' m'' cap'' g1 (by rw [g2]; simp [Rw.z, h2]) g3⟩⟩
    ·have e : roP dr f c i = 3 := by
      unfold roP
      rw [q0, q1, q2, q3, q4]; rfl
     rw [rolesP, e] at hf
     refine c_t (hr.ask (k := 1) (by omega)) (fun cap1 tail ht => ?_)
     obtain ⟨h1, h2⟩ := hr.app1 3 ht
     have hl1 := zi_length h1
     generalize List.take (m2 * 1) d2 ++ [Value.int IntKind.i64 3] ++ tail = d' at *
     refine c_t (by rw [goodL_plain hv.plain, goodL_plain h1.plain]; rfl) ?_
     rw [hv.rlb, rlbL_plain _ h1.plain]
     rw [w64 (n := w + 1) (by omega)]
     exact ⟨(b, r, pts, bh, d, m, cap, L, i + 1, s, w + 1, dg, q, .own d' (m2 + 1) cap1, dr, f, cr, fm), rfl, rfl, by simp only [S133_0, Bool.and_eq_true, decide_eq_true_eq]; exact ⟨rowIOK_iff.2 h1, hV, by simp only [Rw.z, hl1]; omega⟩, by simp only; omega, by simp only [S133_0]; refine c_imp hf ?_ (fun g => g); rintro ⟨-, g⟩; exact ⟨fun q => (by cases q), fun pts' bh' w' dg' q' fm' d'' m'' cap'' g1 g2 g3 => g pts' bh' w' dg' q' fm' d'' m'' cap'' g1 (by rw [g2]; simp [Rw.z, h2]) g3⟩⟩
   ·have h := of_decide_eq_false h
    rw [hv.end (by omega), rolesP, plGo, cond_true] at hf
    obtain rfl : i = m := by omega
    refine c_t (by rw [goodL_plain hv.plain, goodL_plain hr.plain]; rfl) ?_
    rw [hv.rlb, rlbL_plain _ hr.plain]
    exact hf.2 pts bh w dg q fm d2 m2 cap2 hR (by simp) rfl
end Go.Px
end
noncomputable section
namespace Go.Px
open Go Go.Ab Go.Proofs Go.Shelf
theorem fn133 : Fn1 Tryz.prog 245 Tryz.f245 := ⟨Tryz.func245, by kernel_rfl, by kernel_rfl, by kernel_rfl⟩
def G23 : Env := Env.nil.add 272 (sp2 s141)
theorem ok_G23 : EnvOK Tryz.prog G23 := env_add env_nil ok141
theorem at_ints : ∀ {d : List Value} {n j : Nat}, isInts (d.take n) = true → j < n → n ≤ d.length → isIntAt .i64 d j = true ∧ intAt d j = (d.map iv).getD j 0
 | .int .i64 k :: r, n + 1, 0, _, _, _ => ⟨rfl, rfl⟩
 | .int .i64 k :: r, n + 1, j + 1, h, hj, hn => by
  have := at_ints (d := r) (n := n) (j := j) (by simpa [isInts] using h) (by omega) (by simpa using hn)
  simpa [isIntAt, intAt] using this
 | [], n + 1, j, _, hj, hn => by simp at hn
 | .bool _ :: r, n + 1, j, h, _, _ | .string _ :: r, n + 1, j, h, _, _ | .float _ _ :: r, n + 1, j, h, _, _ | .complex _ _ _ :: r, n + 1, j, h, _, _ | .pointer _ :: r, n + 1, j, h, _, _ | .slice _ _ _ :: r, n + 1, j, h, _, _
 | .agg _ :: r, n + 1, j, h, _, _ | .tuple _ :: r, n + 1, j, h, _, _ | .iface _ _ :: r, n + 1, j, h, _, _ | .func _ _ _ :: r, n + 1, j, h, _, _ | .map _ :: r, n + 1, j, h, _, _ | .chan _ :: r, n + 1, j, h, _, _ | .nilFunc :: r, n + 1, j, h, _, _ | .nilIface :: r, n + 1, j, h, _, _ => by
  simp [isInts] at h
 | .int .i8 _ :: r, n + 1, j, h, _, _ | .int .i16 _ :: r, n + 1, j, h, _, _ | .int .i32 _ :: r, n + 1, j, h, _, _ | .int .u8 _ :: r, n + 1, j, h, _, _ | .int .u16 _ :: r, n + 1, j, h, _, _ | .int .u32 _ :: r, n + 1, j, h, _, _ | .int .u64 _ :: r, n + 1, j, h, _, _ => by
  simp [isInts] at h
theorem RowI.at {d : List Value} {m cap : Nat} (h : RowI d m cap) {j : Int} (h0 : 0 ≤ j) (hj : j < m) : isIntAt .i64 d j.toNat = true ∧ (zc d m).drop j.toNat = intAt d j.toNat :: (zc d m).drop (j + 1).toNat := by
 have hl := h.len
 have hle := h.le
 obtain ⟨q1, q2⟩ := at_ints h.bytes (j := j.toNat) (by omega) (by omega)
 refine ⟨q1, ?_⟩
 rw [getD_drop (zc d m) _ (by rw [zi_length h]; omega), show (j + 1).toNat = j.toNat + 1 by omega, q2]
 congr 1
 simp only [zc, List.getD_eq_getElem?_getD, List.getElem?_map, List.getElem?_take]
 rw [if_pos (by omega)]
theorem RowI.end {d : List Value} {m cap : Nat} (h : RowI d m cap) {j : Int} (hj : (m : Int) ≤ j) : (zc d m).drop j.toNat = [] := List.drop_eq_nil_of_le (by rw [zi_length h]; omega)
def loGo (f : Int) : List Int → Int → Int → Int
 | [], _, a => a
 | r :: rs, i, a => loGo f rs (i + 1) (bif r == 0 || (r == 1 || i == f) then imin a i else a)
def hiGo (f : Int) : List Int → Int → Int → Int
 | [], _, a => a
 | r :: rs, i, a => hiGo f rs (i + 1) (bif r == 0 || (r == 1 || i == f) then imax a i else a)
def stP (f lo hi : Int) : List Int → Int → Bool
 | [], _ => true
 | r :: rs, i => !((r == 4 || r == 5) && (i != f && (decide (i > lo) && decide (i < hi)))) && stP f lo hi rs (i + 1)
def siGo : List Int → List Int → Int
 | c :: cs, r :: rs => (bif r == 4 || hasZ [84, 73, 82] c then 1 else 0) + siGo cs rs
 | _, _ => 0
def V134_0 : ByteArray × Bool × Int × Int × Nat × Nat × Int × Int × ByteArray × Int × Int × Int × List Value × Nat × Nat × Int × Int × Bool × Int → List Value := fun (b, r, lo, hi, m3, cap3, L, i, s, w, dg, q, d2, m2, cap2, dr, f, cr, fm) => [.pointer (some ⟨3, 0, some 0⟩), S b, B r, I lo, I hi, .slice (some ⟨401, 0, some 1⟩) m3 cap3, I L, I i]
def B134_0 : ByteArray × Bool × Int × Int × Nat × Nat × Int × Int × ByteArray × Int × Int × Int × List Value × Nat × Nat × Int × Int × Bool × Int → List (Option Blk) := fun (b, r, lo, hi, m3, cap3, L, i, s, w, dg, q, d2, m2, cap2, dr, f, cr, fm) => [some ⟨[.string s, .bool true, .int .i64 w, .int .i64 dg, .int .i64 q, .bool false, .slice (some ⟨401, 0, some 1⟩) m2 cap2, .int .u8 dr, .int .i64 f, .bool cr, .int .u8 32, .int .i64 fm], 156, true⟩, some ⟨d2, 251, true⟩]
def S134_0 : LSpecA (ByteArray × Bool × Int × Int × Nat × Nat × Int × Int × ByteArray × Int × Int × Int × List Value × Nat × Nat × Int × Int × Bool × Int) where
 live := [0, 1, 4, 5, 6, 16, 17, 18]
 mid := [3, 401]
 n := 520
 ap := []
 dec vs bs := match vs, bs with | [.pointer (some ⟨3, 0, some 0⟩), .string b, .bool r, .int .i64 lo, .int .i64 hi, .slice (some ⟨401, 0, some 1⟩) m3 cap3, .int .i64 L, .int .i64 i], [some ⟨[.string s, .bool true, .int .i64 w, .int .i64 dg, .int .i64 q, .bool false, .slice (some ⟨401, 0, some 1⟩) m2 cap2, .int .u8 dr, .int .i64 f, .bool cr, .int .u8 32, .int .i64 fm], 156, true⟩, some ⟨d2, 251, true⟩] => some (b, r, lo, hi, m3, cap3, L, i, s, w, dg, q, d2, m2, cap2, dr, f, cr, fm) | _, _ => none
 pre := fun (b, r, lo, hi, m3, cap3, L, i, s, w, dg, q, d2, m2, cap2, dr, f, cr, fm) => rowIOK d2 m2 cap2 && decide (0 ≤ i ∧ i ≤ m2 ∧ m2 ≤ 1000 ∧ L = m2 ∧ m3 = m2)
 fin := fun (b, r, lo, hi, m3, cap3, L, i, s, w, dg, q, d2, m2, cap2, dr, f, cr, fm) Z => ∀ lo' hi', loGo f ((zc d2 m2).drop i.toNat) i lo = lo' → hiGo f ((zc d2 m2).drop i.toNat) i hi = hi' → Z (.exit 0) [.pointer (some ⟨3, 0, some 0⟩), S b, B r, I lo', I hi', .slice (some ⟨401, 0, some 1⟩) m3 cap3, I L, I m2] [some ⟨[.string s, .bool true, .int .i64 w, .int .i64 dg, .int .i64 q, .bool false, .slice (some ⟨401, 0, some 1⟩) m2 cap2, .int .u8 dr, .int .i64 f, .bool cr, .int .u8 32, .int .i64 fm], 156, true⟩, some ⟨d2, 251, true⟩]
theorem r134_0 (b : ByteArray) (r : Bool) (lo : Int) (hi : Int) (m3 : Nat) (cap3 : Nat) (L : Int) (i : Int) (s : ByteArray) (w : Int) (dg : Int) (q : Int) (d2 : List Value) (m2 : Nat) (cap2 : Nat) (dr : Int) (f : Int) (cr : Bool) (fm : Int) (jk : Tmps) (R : Exit → List Value → List (Option Blk) → Prop) : (codeQ Tryz.prog G23 noL Tryz.f246.ntmps (loopOf Tryz.f246 0) (tl S134_0.live (V134_0 (b, r, lo, hi, m3, cap3, L, i, s, w, dg, q, d2, m2, cap2, dr, f, cr, fm)) jk) (ml S134_0.mid (B134_0 (b, r, lo, hi, m3, cap3, L, i, s, w, dg, q, d2, m2, cap2, dr, f, cr, fm))) S134_0.n fun e t' m' _ => S134_0.out R e t' m') = ( bif decide (i < L) then bif decide (0 ≤ i ∧ i < (↑m3 : Int)) then bif isIntAt IntKind.i64 d2 (0 + Int.toNat i * 1) then bif intAt d2 (0 + Int.toNat i * 1) == 0 || (intAt d2 (0 + Int.toNat i * 1) == 1 || true) then bif intAt d2 (0 + Int.toNat i * 1) == 0 || (intAt d2 (0 + Int.toNat i * 1) == 1 || i == f) then bif goodL [] d2 && true && true then R Exit.normal [.pointer (some (.mk 3 0 (some 0))), S b, B r, I (imin lo i), I (imax hi i), .slice (some (.mk 401 0 (some 1))) m3 cap3, I L, I (IntKind.wrap .i64 (i + 1))] [some (.mk [S s, B true, I w, I dg, I q, B false, .slice (some (.mk 401 0 (some 1))) m2 cap2, .int .u8 dr, I f, B cr, .int .u8 32, I fm] 156 true), some (.mk (rlbL [] d2) 251 true)] else False else bif goodL [] d2 && true && true then R Exit.normal [.pointer (some (.mk 3 0 (some 0))), S b, B r, I lo, I hi, .slice (some (.mk 401 0 (some 1))) m3 cap3, I L, I (IntKind.wrap .i64 (i + 1))] [some (.mk [S s, B true, I w, I dg, I q, B false, .slice (some (.mk 401 0 (some 1))) m2 cap2, .int .u8 dr, I f, B cr, .int .u8 32, I fm] 156 true), some (.mk (rlbL [] d2) 251 true)] else False else False else False else False else bif goodL [] d2 && true && true then R (Exit.exit 0) [.pointer (some (.mk 3 0 (some 0))), S b, B r, I lo, I hi, .slice (some (.mk 401 0 (some 1))) m3 cap3, I L, I i] [some (.mk [S s, B true, I w, I dg, I q, B false, .slice (some (.mk 401 0 (some 1))) m2 cap2, .int .u8 dr, I f, B cr, .int .u8 32, I fm] 156 true), some (.mk (rlbL [] d2) 251 true)] else False) := by kernel_rfl
theorem l134_0 : ∀ t m n K, S134_0.hA t m n K → Ab.Sem Tryz.prog Tryz.f246.ntmps (.loop (loopOf Tryz.f246 0)) t m n K := by
 refine loop_specA ok_G23 hmix (by kernel_rfl) (lok_none _) S134_0 V134_0 B134_0 (fun (b, r, lo, hi, m3, cap3, L, i, s, w, dg, q, d2, m2, cap2, dr, f, cr, fm) => (m2 - i).toNat) ?_ ?_ ?_
 ·intro vs bs s h
  simp only [S134_0] at h
  split at h
  all_goals first | (cases h; exact ⟨rfl, rfl⟩) | cases h | (split at h <;> first | (rename_i hq; cases h; have hq := Nat.eq_of_beq_eq_true hq; subst hq; exact ⟨rfl, rfl⟩) | cases h)
 ·exact fun ⟨b, r, lo, hi, m3, cap3, L, i, s, w, dg, q, d2, m2, cap2, dr, f, cr, fm⟩ hp => by
   simp only [S134_0, Bool.and_eq_true] at hp
   have hr := rowIOK_iff.1 hp.1
   simp [V134_0, B134_0, S134_0, idsLt, idsLtB, idsL, ids, ids_plainL hr.plain]
 ·intro ⟨b, r, lo, hi, m3, cap3, L, i, s, w, dg, q, d2, m2, cap2, dr, f, cr, fm⟩ jk Z hp hf
  rw [r134_0]
  simp only [S134_0] at hp hf
  simp only [Bool.and_eq_true, decide_eq_true_eq] at hp
  obtain ⟨hR, hp⟩ := hp
  have hr := rowIOK_iff.1 hR
  have hzl := zi_length hr
  have e0 : 0 + i.toNat * 1 = i.toNat := by omega
  rw [e0]
  simp only [hr.rlb]
  have hg : ∀ ps, (goodL ps d2 && true && true) = true := fun ps => by rw [hr.good]; rfl
  refine cond_intro (fun h => ?_) (fun h => ?_)
  ·have h := of_decide_eq_true h
   obtain ⟨a1, a3⟩ := hr.at hp.1 (by omega)
   rw [a3, loGo, hiGo] at hf
   rw [a1, w64 (n := i + 1) (by omega)]
   generalize intAt d2 i.toNat = c at *
   refine c_t (decide_eq_true (by omega)) (c_t rfl (c_t (by simp) (cond_intro (fun z => c_t (hg _) ?_) (fun z => c_t (hg _) ?_))))
   ·rw [z, cond_true, cond_true] at hf
    exact ⟨(b, r, imin lo i, imax hi i, m3, cap3, L, i + 1, s, w, dg, q, d2, m2, cap2, dr, f, cr, fm), rfl, rfl, by simp only [S134_0, Bool.and_eq_true, decide_eq_true_eq]; exact ⟨hR, by omega⟩, by simp only; omega, hf⟩
   ·rw [z, cond_false, cond_false] at hf
    exact ⟨(b, r, lo, hi, m3, cap3, L, i + 1, s, w, dg, q, d2, m2, cap2, dr, f, cr, fm), rfl, rfl, by simp only [S134_0, Bool.and_eq_true, decide_eq_true_eq]; exact ⟨hR, by omega⟩, by simp only; omega, hf⟩
  ·have h := of_decide_eq_false h
   rw [hr.end (by omega), loGo, hiGo] at hf
   obtain rfl : i = m2 := by omega
   exact c_t (hg _) (hf lo hi rfl rfl)
def V134_2 : ByteArray × Bool × Int × Int × Nat × Nat × Int × Int × ByteArray × Int × Int × Int × List Value × Nat × Nat × Int × Int × Bool × Int → List Value := fun (b, r, lo, hi, m3, cap3, L, i, s, w, dg, q, d2, m2, cap2, dr, f, cr, fm) => [.pointer (some ⟨3, 0, some 0⟩), S b, B r, I lo, I hi, .slice (some ⟨401, 0, some 1⟩) m3 cap3, I L, I i]
def B134_2 : ByteArray × Bool × Int × Int × Nat × Nat × Int × Int × ByteArray × Int × Int × Int × List Value × Nat × Nat × Int × Int × Bool × Int → List (Option Blk) := fun (b, r, lo, hi, m3, cap3, L, i, s, w, dg, q, d2, m2, cap2, dr, f, cr, fm) => [some ⟨[.string s, .bool true, .int .i64 w, .int .i64 dg, .int .i64 q, .bool false, .slice (some ⟨401, 0, some 1⟩) m2 cap2, .int .u8 dr, .int .i64 f, .bool cr, .int .u8 32, .int .i64 fm], 156, true⟩, some ⟨d2, 251, true⟩]
def S134_2 : LSpecA (ByteArray × Bool × Int × Int × Nat × Nat × Int × Int × ByteArray × Int × Int × Int × List Value × Nat × Nat × Int × Int × Bool × Int) where
 live := [0, 1, 4, 5, 6, 47, 48, 49]
 mid := [3, 401]
 n := 560
 ap := []
 dec vs bs := match vs, bs with | [.pointer (some ⟨3, 0, some 0⟩), .string b, .bool r, .int .i64 lo, .int .i64 hi, .slice (some ⟨401, 0, some 1⟩) m3 cap3, .int .i64 L, .int .i64 i], [some ⟨[.string s, .bool true, .int .i64 w, .int .i64 dg, .int .i64 q, .bool false, .slice (some ⟨401, 0, some 1⟩) m2 cap2, .int .u8 dr, .int .i64 f, .bool cr, .int .u8 32, .int .i64 fm], 156, true⟩, some ⟨d2, 251, true⟩] => some (b, r, lo, hi, m3, cap3, L, i, s, w, dg, q, d2, m2, cap2, dr, f, cr, fm) | _, _ => none
 pre := fun (b, r, lo, hi, m3, cap3, L, i, s, w, dg, q, d2, m2, cap2, dr, f, cr, fm) => rowIOK d2 m2 cap2 && decide (0 ≤ i ∧ i ≤ m2 ∧ m2 ≤ 1000 ∧ L = m2 ∧ m3 = m2)
 fin := fun (b, r, lo, hi, m3, cap3, L, i, s, w, dg, q, d2, m2, cap2, dr, f, cr, fm) Z => (bif stP f lo hi ((zc d2 m2).drop i.toNat) i then Z (.exit 2) [.pointer (some ⟨3, 0, some 0⟩), S b, B r, I lo, I hi, .slice (some ⟨401, 0, some 1⟩) m3 cap3, I L, I m2] [some ⟨[.string s, .bool true, .int .i64 w, .int .i64 dg, .int .i64 q, .bool false, .slice (some ⟨401, 0, some 1⟩) m2 cap2, .int .u8 dr, .int .i64 f, .bool cr, .int .u8 32, .int .i64 fm], 156, true⟩, some ⟨d2, 251, true⟩] else ∀ i', Z .ret [.pointer (some ⟨3, 0, some 0⟩), S b, B false, I lo, I hi, .slice (some ⟨401, 0, some 1⟩) m3 cap3, I L, I i'] [some ⟨[.string s, .bool true, .int .i64 w, .int .i64 dg, .int .i64 q, .bool false, .slice (some ⟨401, 0, some 1⟩) m2 cap2, .int .u8 dr, .int .i64 f, .bool cr, .int .u8 32, .int .i64 fm], 156, true⟩, some ⟨d2, 251, true⟩])
theorem r134_2 (b : ByteArray) (r : Bool) (lo : Int) (hi : Int) (m3 : Nat) (cap3 : Nat) (L : Int) (i : Int) (s : ByteArray) (w : Int) (dg : Int) (q : Int) (d2 : List Value) (m2 : Nat) (cap2 : Nat) (dr : Int) (f : Int) (cr : Bool) (fm : Int) (jk : Tmps) (R : Exit → List Value → List (Option Blk) → Prop) : (codeQ Tryz.prog G23 noL Tryz.f246.ntmps (loopOf Tryz.f246 2) (tl S134_2.live (V134_2 (b, r, lo, hi, m3, cap3, L, i, s, w, dg, q, d2, m2, cap2, dr, f, cr, fm)) jk) (ml S134_2.mid (B134_2 (b, r, lo, hi, m3, cap3, L, i, s, w, dg, q, d2, m2, cap2, dr, f, cr, fm))) S134_2.n fun e t' m' _ => S134_2.out R e t' m') = ( bif decide (i < L) then bif decide (0 ≤ i ∧ i < (↑m3 : Int)) then bif isIntAt IntKind.i64 d2 (0 + Int.toNat i * 1) then bif bif intAt d2 (0 + Int.toNat i * 1) == 4 then bif i != f then decide (i > lo) || true else true else bif intAt d2 (0 + Int.toNat i * 1) == 5 then bif i != f then decide (i > lo) || true else true else true then bif bif intAt d2 (0 + Int.toNat i * 1) == 4 then i != f && (decide (i > lo) && decide (i < hi)) else intAt d2 (0 + Int.toNat i * 1) == 5 && (i != f && (decide (i > lo) && decide (i < hi))) then bif goodL [] d2 && true && true then R Exit.ret [.pointer (some (.mk 3 0 (some 0))), S b, B false, I lo, I hi, .slice (some (.mk 401 0 (some 1))) m3 cap3, I L, I i] [some (.mk [S s, B true, I w, I dg, I q, B false, .slice (some (.mk 401 0 (some 1))) m2 cap2, .int .u8 dr, I f, B cr, .int .u8 32, I fm] 156 true), some (.mk (rlbL [] d2) 251 true)] else False else bif goodL [] d2 && true && true then R Exit.normal [.pointer (some (.mk 3 0 (some 0))), S b, B r, I lo, I hi, .slice (some (.mk 401 0 (some 1))) m3 cap3, I L, I (IntKind.wrap .i64 (i + 1))] [some (.mk [S s, B true, I w, I dg, I q, B false, .slice (some (.mk 401 0 (some 1))) m2 cap2, .int .u8 dr, I f, B cr, .int .u8 32, I fm] 156 true), some (.mk (rlbL [] d2) 251 true)] else False else False else False else False else bif goodL [] d2 && true && true then R (Exit.exit 2) [.pointer (some (.mk 3 0 (some 0))), S b, B r, I lo, I hi, .slice (some (.mk 401 0 (some 1))) m3 cap3, I L, I i] [some (.mk [S s, B true, I w, I dg, I q, B false, .slice (some (.mk 401 0 (some 1))) m2 cap2, .int .u8 dr, I f, B cr, .int .u8 32, I fm] 156 true), some (.mk (rlbL [] d2) 251 true)] else False) := by kernel_rfl
theorem l134_2 : ∀ t m n K, S134_2.hA t m n K → Ab.Sem Tryz.prog Tryz.f246.ntmps (.loop (loopOf Tryz.f246 2)) t m n K := by
 refine loop_specA ok_G23 hmix (by kernel_rfl) (lok_none _) S134_2 V134_2 B134_2 (fun (b, r, lo, hi, m3, cap3, L, i, s, w, dg, q, d2, m2, cap2, dr, f, cr, fm) => (m2 - i).toNat) ?_ ?_ ?_
 ·intro vs bs s h
  simp only [S134_2] at h
  split at h
  all_goals first | (cases h; exact ⟨rfl, rfl⟩) | cases h | (split at h <;> first | (rename_i hq; cases h; have hq := Nat.eq_of_beq_eq_true hq; subst hq; exact ⟨rfl, rfl⟩) | cases h)
 ·exact fun ⟨b, r, lo, hi, m3, cap3, L, i, s, w, dg, q, d2, m2, cap2, dr, f, cr, fm⟩ hp => by
   simp only [S134_2, Bool.and_eq_true] at hp
   have hr := rowIOK_iff.1 hp.1
   simp [V134_2, B134_2, S134_2, idsLt, idsLtB, idsL, ids, ids_plainL hr.plain]
 ·intro ⟨b, r, lo, hi, m3, cap3, L, i, s, w, dg, q, d2, m2, cap2, dr, f, cr, fm⟩ jk Z hp hf
  rw [r134_2]
  simp only [S134_2] at hp hf
  simp only [Bool.and_eq_true, decide_eq_true_eq] at hp
  obtain ⟨hR, hp⟩ := hp
  have hr := rowIOK_iff.1 hR
  have hzl := zi_length hr
  have e0 : 0 + i.toNat * 1 = i.toNat := by omega
  rw [e0]
  simp only [hr.rlb]
  have hg : ∀ ps, (goodL ps d2 && true && true) = true := fun ps => by rw [hr.good]; rfl
  refine cond_intro (fun h => ?_) (fun h => ?_)
  ·have h := of_decide_eq_true h
   obtain ⟨a1, a3⟩ := hr.at hp.1 (by omega)
   rw [a3, stP] at hf
   rw [a1, w64 (n := i + 1) (by omega)]
   generalize intAt d2 i.toNat = c at *
   have e : (bif c == 4 then i != f && (decide (i > lo) && decide (i < hi)) else c == 5 && (i != f && (decide (i > lo) && decide (i < hi)))) = ((c == 4 || c == 5) && (i != f && (decide (i > lo) && decide (i < hi)))) := by cases c == 4 <;> rfl
   rw [e]
   refine c_t (decide_eq_true (by omega)) (c_t rfl (c_t (by simp) (cond_intro (fun z => c_t (hg _) ?_) (fun z => c_t (hg _) ?_))))
   ·rw [z, Bool.not_true, Bool.false_and, cond_false] at hf
    exact hf i
   ·rw [z, Bool.not_false, Bool.true_and] at hf
    exact ⟨(b, r, lo, hi, m3, cap3, L, i + 1, s, w, dg, q, d2, m2, cap2, dr, f, cr, fm), rfl, rfl, by simp only [S134_2, Bool.and_eq_true, decide_eq_true_eq]; exact ⟨hR, by omega⟩, by simp only; omega, hf⟩
  ·have h := of_decide_eq_false h
   rw [hr.end (by omega), stP, cond_true] at hf
   obtain rfl : i = m2 := by omega
   exact c_t (hg _) hf
def V135_0 : ByteArray × Int × Int × List Value × Nat × Nat × Int × Int × ByteArray × Int × Int × Int × List Value × Nat × Nat × Int × Int × Bool × Int → List Value := fun (b, r, n, d, m, cap, L, i, s, w, dg, q, d2, m2, cap2, dr, f, cr, fm) => [.pointer (some ⟨3, 0, some 0⟩), S b, I r, I n, .slice (some ⟨600, 0, some 1⟩) m cap, I L, I i]
def B135_0 : ByteArray × Int × Int × List Value × Nat × Nat × Int × Int × ByteArray × Int × Int × Int × List Value × Nat × Nat × Int × Int × Bool × Int → List (Option Blk) := fun (b, r, n, d, m, cap, L, i, s, w, dg, q, d2, m2, cap2, dr, f, cr, fm) => [some ⟨[.string s, .bool true, .int .i64 w, .int .i64 dg, .int .i64 q, .bool false, .slice (some ⟨401, 0, some 1⟩) m2 cap2, .int .u8 dr, .int .i64 f, .bool cr, .int .u8 32, .int .i64 fm], 156, true⟩, some ⟨d, 5, false⟩, some ⟨d2, 251, true⟩]
def S135_0 : LSpecA (ByteArray × Int × Int × List Value × Nat × Nat × Int × Int × ByteArray × Int × Int × Int × List Value × Nat × Nat × Int × Int × Bool × Int) where
 live := [0, 1, 4, 5, 9, 10, 11]
 mid := [3, 600, 401]
 n := 610
 ap := [(.tmp 9, 600)]
 dec vs bs := match vs, bs with | [.pointer (some ⟨3, 0, some 0⟩), .string b, .int .i64 r, .int .i64 n, .slice (some ⟨600, 0, some 1⟩) m cap, .int .i64 L, .int .i64 i], [some ⟨[.string s, .bool true, .int .i64 w, .int .i64 dg, .int .i64 q, .bool false, .slice (some ⟨401, 0, some 1⟩) m2 cap2, .int .u8 dr, .int .i64 f, .bool cr, .int .u8 32, .int .i64 fm], 156, true⟩, some ⟨d, 5, false⟩, some ⟨d2, 251, true⟩] => some (b, r, n, d, m, cap, L, i, s, w, dg, q, d2, m2, cap2, dr, f, cr, fm) | _, _ => none
 pre := fun (b, r, n, d, m, cap, L, i, s, w, dg, q, d2, m2, cap2, dr, f, cr, fm) => rowIOK d2 m2 cap2 && (vwOK d m && decide (0 ≤ i ∧ i ≤ m ∧ m2 = m ∧ m ≤ 1000 ∧ L = m ∧ 0 ≤ n ∧ n ≤ i))
 fin := fun (b, r, n, d, m, cap, L, i, s, w, dg, q, d2, m2, cap2, dr, f, cr, fm) Z => ∀ n', n + siGo ((zc d m).drop i.toNat) ((zc d2 m2).drop i.toNat) = n' → Z (.exit 0) [.pointer (some ⟨3, 0, some 0⟩), S b, I r, I n', .slice (some ⟨600, 0, some 1⟩) m cap, I L, I m] [some ⟨[.string s, .bool true, .int .i64 w, .int .i64 dg, .int .i64 q, .bool false, .slice (some ⟨401, 0, some 1⟩) m2 cap2, .int .u8 dr, .int .i64 f, .bool cr, .int .u8 32, .int .i64 fm], 156, true⟩, some ⟨d, 5, false⟩, some ⟨d2, 251, true⟩]
theorem r135_0 (b : ByteArray) (r : Int) (n : Int) (d : List Value) (m : Nat) (cap : Nat) (L : Int) (i : Int) (s : ByteArray) (w : Int) (dg : Int) (q : Int) (d2 : List Value) (m2 : Nat) (cap2 : Nat) (dr : Int) (f : Int) (cr : Bool) (fm : Int) (jk : Tmps) (R : Exit → List Value → List (Option Blk) → Prop) : (codeQ Tryz.prog G23 noL Tryz.f247.ntmps (loopOf Tryz.f247 0) (tl S135_0.live (V135_0 (b, r, n, d, m, cap, L, i, s, w, dg, q, d2, m2, cap2, dr, f, cr, fm)) jk) (ml S135_0.mid (B135_0 (b, r, n, d, m, cap, L, i, s, w, dg, q, d2, m2, cap2, dr, f, cr, fm))) S135_0.n fun e t' m' _ => S135_0.out R e t' m') = ( bif decide (i < L) then bif decide (0 ≤ i ∧ i < (↑m : Int)) then bif isIntAt IntKind.u8 d (0 + Int.toNat i * 1) then bif decide (0 ≤ i ∧ i < (↑m2 : Int)) && (isIntAt IntKind.i64 d2 (0 + Int.toNat i * 1) && (intAt d2 (0 + Int.toNat i * 1) == 4 || decide (0 ≤ intAt d (0 + Int.toNat i * 1) ∧ intAt d (0 + Int.toNat i * 1) < 256) && true)) then bif intAt d2 (0 + Int.toNat i * 1) == 4 || decide (idxZ (bz (ByteArray.mk #[84, 73, 82])) (intAt d (0 + Int.toNat i * 1)) ≥ 0) then bif goodL [(600, 600)] d && (goodL [(600, 600)] d2 && true) && true then R Exit.normal [.pointer (some (.mk 3 0 (some 0))), S b, I r, I (IntKind.wrap .i64 (n + 1)), .slice (some (.mk 600 0 (some 1))) m cap, I L, I (IntKind.wrap .i64 (i + 1))] [some (.mk [S s, B true, I w, I dg, I q, B false, .slice (some (.mk 401 0 (some 1))) m2 cap2, .int .u8 dr, I f, B cr, .int .u8 32, I fm] 156 true), some (.mk (rlbL [(600, 600)] d) 5 false), some (.mk (rlbL [(600, 600)] d2) 251 true)] else False else bif goodL [(600, 600)] d && (goodL [(600, 600)] d2 && true) && true then R Exit.normal [.pointer (some (.mk 3 0 (some 0))), S b, I r, I n, .slice (some (.mk 600 0 (some 1))) m cap, I L, I (IntKind.wrap .i64 (i + 1))] [some (.mk [S s, B true, I w, I dg, I q, B false, .slice (some (.mk 401 0 (some 1))) m2 cap2, .int .u8 dr, I f, B cr, .int .u8 32, I fm] 156 true), some (.mk (rlbL [(600, 600)] d) 5 false), some (.mk (rlbL [(600, 600)] d2) 251 true)] else False else False else False else False else bif goodL [(600, 600)] d && (goodL [(600, 600)] d2 && true) && true then R (Exit.exit 0) [.pointer (some (.mk 3 0 (some 0))), S b, I r, I n, .slice (some (.mk 600 0 (some 1))) m cap, I L, I i] [some (.mk [S s, B true, I w, I dg, I q, B false, .slice (some (.mk 401 0 (some 1))) m2 cap2, .int .u8 dr, I f, B cr, .int .u8 32, I fm] 156 true), some (.mk (rlbL [(600, 600)] d) 5 false), some (.mk (rlbL [(600, 600)] d2) 251 true)] else False) := by kernel_rfl
theorem l135_0 : LOKf Tryz.prog (oneL 0 S135_0.hA) Tryz.f247 := by
 refine lokf_one (h := S135_0.hA) (by kernel_rfl) (loop_specA ok_G23 hmix (by kernel_rfl) (lok_none _) S135_0 V135_0 B135_0 (fun (b, r, n, d, m, cap, L, i, s, w, dg, q, d2, m2, cap2, dr, f, cr, fm) => (m - i).toNat) ?_ ?_ ?_)
 ·intro vs bs s h
  simp only [S135_0] at h
  split at h
  all_goals first | (cases h; exact ⟨rfl, rfl⟩) | cases h | (split at h <;> first | (rename_i hq; cases h; have hq := Nat.eq_of_beq_eq_true hq; subst hq; exact ⟨rfl, rfl⟩) | cases h)
 ·exact fun ⟨b, r, n, d, m, cap, L, i, s, w, dg, q, d2, m2, cap2, dr, f, cr, fm⟩ hp => by
   simp only [S135_0, Bool.and_eq_true] at hp
   have hr := rowIOK_iff.1 hp.1
   simp [V135_0, B135_0, S135_0, idsLt, idsLtB, idsL, ids, ids_plainL hr.plain, ids_plainL (vwOK_iff.1 hp.2.1).plain]
 ·intro ⟨b, r, n, d, m, cap, L, i, s, w, dg, q, d2, m2, cap2, dr, f, cr, fm⟩ jk Z hp hf
  rw [r135_0]
  simp only [S135_0] at hp hf
  simp only [Bool.and_eq_true, decide_eq_true_eq] at hp
  obtain ⟨hR, hV, hp⟩ := hp
  have hr := rowIOK_iff.1 hR
  have hzl := zi_length hr
  have hv := vwOK_iff.1 hV
  have e0 : 0 + i.toNat * 1 = i.toNat := by omega
  rw [e0]
  simp only [hr.rlb, hv.rlb]
  have hg : ∀ ps, (goodL ps d && (goodL ps d2 && true) && true) = true := fun ps => by rw [hr.good, goodL_plain hv.plain]; rfl
  have k : bz ⟨#[84, 73, 82]⟩ = [84, 73, 82] := rfl
  rw [k]
  refine cond_intro (fun h => ?_) (fun h => ?_)
  ·have h := of_decide_eq_true h
   obtain ⟨a1, a3⟩ := hr.at hp.1 (by omega)
   obtain ⟨b1, b2, b3⟩ := hv.at hp.1 (by omega)
   rw [a3, b3, siGo] at hf
   rw [a1, b1, w64 (n := i + 1) (by omega), idx_pos]
   generalize intAt d2 i.toNat = c at *
   generalize intAt d i.toNat = x at *
   refine c_t (decide_eq_true (by omega)) (c_t rfl (c_t (by rw [decide_eq_true (show 0 ≤ i ∧ i < (m2 : Int) by omega), decide_eq_true b2]; simp) (cond_intro (fun z => c_t (hg _) ?_) (fun z => c_t (hg _) ?_))))
   ·rw [z, cond_true, ← Int.add_assoc] at hf
    rw [w64 (n := n + 1) (by omega)]
    exact ⟨(b, r, n + 1, d, m, cap, L, i + 1, s, w, dg, q, d2, m2, cap2, dr, f, cr, fm), rfl, rfl, by simp only [S135_0, Bool.and_eq_true, decide_eq_true_eq]; exact ⟨hR, hV, by omega⟩, by simp only; omega, hf⟩
   ·rw [z, cond_false, Int.zero_add] at hf
    exact ⟨(b, r, n, d, m, cap, L, i + 1, s, w, dg, q, d2, m2, cap2, dr, f, cr, fm), rfl, rfl, by simp only [S135_0, Bool.and_eq_true, decide_eq_true_eq]; exact ⟨hR, hV, by omega⟩, by simp only; omega, hf⟩
  ·have h := of_decide_eq_false h
   rw [hv.end (by omega), siGo, Int.add_zero] at hf
   obtain rfl : i = m := by omega
   exact c_t (hg _) (hf n rfl)
   intro _ _ _ _ h1
   cases h1
end Go.Px
end
noncomputable section
namespace Go.Px
open Go Go.Ab Go.Proofs Go.Shelf
theorem fn134 : Fn1 Tryz.prog 246 Tryz.f246 := ⟨Tryz.func246, by kernel_rfl, by kernel_rfl, by kernel_rfl⟩
theorem fn135 : Fn1 Tryz.prog 247 Tryz.f247 := ⟨Tryz.func247, by kernel_rfl, by kernel_rfl, by kernel_rfl⟩
theorem lok134 : LOKf Tryz.prog (twoL 0 S134_0.hA 2 S134_2.hA) Tryz.f246 := lokf_two (by kernel_rfl) (by kernel_rfl) l134_0 l134_2
def G24 : Env := Env.nil.add 272 (sp2 s141)
theorem ok_G24 : EnvOK Tryz.prog G24 := env_add env_nil ok141
def G25 : Env := ((((((Env.nil.add 129 (sp2 s132)).add 130 (sp2 s130)).add 203 (sp2 s102)).addG 244 (inlQ Tryz.prog G20 (oneL 0 S131_0.hA) Tryz.f244)).addG 245 (inlQ Tryz.prog G22 (oneL 0 S133_0.hA) Tryz.f245)).addG 246 (inlQ Tryz.prog G23 (twoL 0 S134_0.hA 2 S134_2.hA) Tryz.f246)).addG 247 (inlQ Tryz.prog G24 (oneL 0 S135_0.hA) Tryz.f247)
theorem ok_G25 : EnvOK Tryz.prog G25 := env_addG (env_addG (env_addG (env_addG (env_add (env_add (env_add env_nil ok132) ok130) ok102) (gen_inlQ ok_G20 hmix fn131 lok131)) (gen_inlQ ok_G22 hmix fn133 l133_0)) (gen_inlQ ok_G23 hmix fn134 lok134)) (gen_inlQ ok_G24 hmix fn135 l135_0)
def look (m : Lk) : Value → List (Option Blk)
 | Value.tuple ⟨[Value.pointer (some a), _]⟩ => match m a.block with
  | some b => match b.c[6]? with
   | some (Value.slice (some a') _ _) => [some b, m a'.block]
   | _ => [some b]
  | none => []
 | _ => []
def nD (b : List Int) : Bool × Int × Int := drfGo [36, 83, 43, 45] b 0 (-1)
def nR (b : List Int) : List Int := rolesP (nD b).2.1 (nD b).2.2 b 0
def nP (b : List Int) : Bool × PlS := plGo (nR b) ⟨0, false, 0, 0, 0, 0⟩
def nPok (b : List Int) : Bool := (nP b).1 && (decide ((nP b).2.pts ≤ 1) && (decide ((nP b).2.dg ≥ 1) && (decide ((nP b).2.dg ≤ 9) && !((nP b).2.bh && decide ((nP b).2.fm > 0)))))
def nS (b : List Int) : Bool := stP (nD b).2.2 (loGo (nD b).2.2 (nR b) 0 b.length) (hiGo (nD b).2.2 (nR b) 0 (-1)) (nR b) 0
def nG (b : List Int) (cr : Bool) : Int := siGo b (nR b) + (bif cr then 1 else 0)
def nSt (b : List Int) : Bool := hasZ b 42 && hasZ b 90 || (hasZ b 42 || hasZ b 90) && (nD b).2.1 != 0
def numQ (b : List Int) (cr : Bool) : Bool := !anyZ b [65, 88, 67, 68] && ((nD b).1 && (!nSt b && (nPok b && (nS b && decide (nG b cr ≤ 1)))))
def formC (s : ByteArray) (cr : Bool) (x m cap : Nat) : List Value :=
 [.string s, .bool true, .int .i64 ((nP (bodyZ (bz s))).2.w + (bif cr then 2 else 0)), .int .i64 (nP (bodyZ (bz s))).2.dg, .int .i64 (nP (bodyZ (bz s))).2.q, .bool (nG (bodyZ (bz s)) cr == 1),
  .slice (some ⟨x, 0, some 1⟩) m cap, .int .u8 (nD (bodyZ (bz s))).2.1, .int .i64 (nD (bodyZ (bz s))).2.2, .bool cr, .int .u8 (bif hasZ (bodyZ (bz s)) 42 then 42 else 32), .int .i64 (nP (bodyZ (bz s))).2.fm]
def nRoles (s : ByteArray) (cr : Bool) : List Int := nR (bodyZ (bz s)) ++ (bif cr then [4, 4] else [])
theorem roles_len (dr f : Int) : ∀ (l : List Int) (i : Int), (rolesP dr f l i).length = l.length
 | [], _ => rfl
 | c :: r, i => by simp [rolesP, roles_len dr f r]
theorem si_rng : ∀ (a b : List Int), 0 ≤ siGo a b ∧ siGo a b ≤ a.length
 | [], _ => by simp [siGo]
 | _ :: _, [] => by simp [siGo]; omega
 | c :: cs, r :: rs => by
  have := si_rng cs rs
  rw [siGo, List.length_cons]
  cases (r == 4 || hasZ [84, 73, 82] c) <;> simp only [cond_true, cond_false] <;> omega
theorem pl_rng : ∀ (l : List Int) (a : PlS), (a.w ≤ (plGo l a).2.w ∧ (plGo l a).2.w ≤ a.w + l.length) ∧ (a.dg ≤ (plGo l a).2.dg ∧ (plGo l a).2.dg ≤ a.dg + l.length) ∧ (a.fm ≤ (plGo l a).2.fm ∧ (plGo l a).2.fm ≤ a.fm + l.length)
 | [], a => by simp [plGo]
 | r :: rs, a => by
  rw [plGo, List.length_cons]
  cases r == 2 with
  | true => have := pl_rng rs ⟨a.pts + 1, a.bh, a.w, a.dg, a.q, a.fm⟩; simp only [cond_true] at this ⊢; omega
  | false =>
   cases r == 0 with
   | true => have := pl_rng rs ⟨a.pts, a.bh, a.w + 1, a.dg + 1, a.q + a.pts, a.fm + 1⟩; simp only [cond_true, cond_false] at this ⊢; omega
   | false =>
    cases r == 1 with
    | true =>
     cases decide (a.fm > 0) with
     | true => simp only [cond_true, cond_false]; omega
     | false => have := pl_rng rs ⟨a.pts, a.bh || decide (a.pts > 0), a.w + 1, a.dg + 1, a.q + a.pts, a.fm⟩; simp only [cond_true, cond_false] at this ⊢; omega
    | false => have := pl_rng rs ⟨a.pts, a.bh, a.w + 1, a.dg, a.q, a.fm⟩; simp only [cond_false] at this ⊢; omega
theorem body_at {s : List Int} {cr : Bool} (h : crZ s = cr) : bodyZ s = bif cr then s.take (s.length - 2) else s := by
 unfold bodyZ
 rw [h]
 cases cr <;> rfl
theorem cr_suf (l : List Int) : (sufZ l [67, 82] || sufZ l [68, 66]) = crZ l := by
 unfold sufZ crZ
 rw [Bool.eq_iff_iff]
 simp only [Bool.or_eq_true, Bool.and_eq_true, decide_eq_true_eq, List.length_cons, List.length_nil]
 constructor
 ·rintro (⟨a, b⟩ | ⟨a, b⟩)
  ·exact ⟨a, .inl b⟩
  ·exact ⟨a, .inr b⟩
 ·rintro ⟨a, b | b⟩
  ·exact .inl ⟨a, b⟩
  ·exact .inr ⟨a, b⟩
theorem asc_take {l : List Int} (h : asc l = true) (n : Nat) : asc (l.take n) = true := by
 simp only [asc, List.all_eq_true] at h ⊢
 exact fun x hx => h x (List.mem_of_mem_take hx)
theorem v103 (s : ByteArray) (R : Value → List (Option Blk) → Prop) : (bodyQ Tryz.prog G25 noL Tryz.f204 [S s] (fun _ => none) 0 (fun v m _ => R v (look m v))) = ( bif decide (ByteArray.size s ≤ 9223372036854775807) && (sufZ (bz s) (bz (ByteArray.mk #[67, 82])) || decide (ByteArray.size s ≤ 9223372036854775807) && true) then bif sufZ (bz s) (bz (ByteArray.mk #[67, 82])) || sufZ (bz s) (bz (ByteArray.mk #[68, 66])) then bif decide ((0 : Int) ≤ 0 ∧ 0 ≤ IntKind.wrap .i64 ((↑(ByteArray.size s) : Int) - 2) ∧ IntKind.wrap .i64 ((↑(ByteArray.size s) : Int) - 2) ≤ (↑(ByteArray.size s) : Int)) then bif decide (ByteArray.size (ByteArray.extract s 0 (Int.toNat (IntKind.wrap .i64 ((↑(ByteArray.size s) : Int) - 2)))) ≤ 1000) && (decide (ByteArray.size (ByteArray.mk #[65, 88, 67, 68]) ≤ 1000) && (asc (bz (ByteArray.extract s 0 (Int.toNat (IntKind.wrap .i64 ((↑(ByteArray.size s) : Int) - 2))))) && asc (bz (ByteArray.mk #[65, 88, 67, 68])))) then bif anyZ (bz (ByteArray.extract s 0 (Int.toNat (IntKind.wrap .i64 ((↑(ByteArray.size s) : Int) - 2))))) (bz (ByteArray.mk #[65, 88, 67, 68])) then R (.tuple (.mk [.pointer none, B false])) [] else bif LSpec.pre (LSpecA.toLSpec S131_0) (ByteArray.extract s 0 (Int.toNat (IntKind.wrap .i64 ((↑(ByteArray.size s) : Int) - 2))), false, natO 4, 0, s, 0, -1, true) then bif Prod.fst (drfGo [36, 83, 43, 45] (bz (ByteArray.extract s 0 (Int.toNat (IntKind.wrap .i64 ((↑(ByteArray.size s) : Int) - 2))))) 0 (-1)) then ∀ (dr' f' : Int), drfGo [36, 83, 43, 45] (bz (ByteArray.extract s 0 (Int.toNat (IntKind.wrap .i64 ((↑(ByteArray.size s) : Int) - 2))))) 0 (-1) = (true, dr', f') → ∀ (x : Tmps), bif bif hasZ (bz (ByteArray.extract s 0 (Int.toNat (IntKind.wrap .i64 ((↑(ByteArray.size s) : Int) - 2))))) (List.getD (bz (ByteArray.mk #[42])) 0 0) then hasZ (bz (ByteArray.extract s 0 (Int.toNat (IntKind.wrap .i64 ((↑(ByteArray.size s) : Int) - 2))))) (List.getD (bz (ByteArray.mk #[90])) 0 0) || (hasZ (bz (ByteArray.extract s 0 (Int.toNat (IntKind.wrap .i64 ((↑(ByteArray.size s) : Int) - 2))))) (List.getD (bz (ByteArray.mk #[42])) 0 0) || (hasZ (bz (ByteArray.extract s 0 (Int.toNat (IntKind.wrap .i64 ((↑(ByteArray.size s) : Int) - 2))))) (List.getD (bz (ByteArray.mk #[90])) 0 0) || true)) else hasZ (bz (ByteArray.extract s 0 (Int.toNat (IntKind.wrap .i64 ((↑(ByteArray.size s) : Int) - 2))))) (List.getD (bz (ByteArray.mk #[42])) 0 0) || (hasZ (bz (ByteArray.extract s 0 (Int.toNat (IntKind.wrap .i64 ((↑(ByteArray.size s) : Int) - 2))))) (List.getD (bz (ByteArray.mk #[90])) 0 0) || true) then bif bif hasZ (bz (ByteArray.extract s 0 (Int.toNat (IntKind.wrap .i64 ((↑(ByteArray.size s) : Int) - 2))))) (List.getD (bz (ByteArray.mk #[42])) 0 0) then hasZ (bz (ByteArray.extract s 0 (Int.toNat (IntKind.wrap .i64 ((↑(ByteArray.size s) : Int) - 2))))) (List.getD (bz (ByteArray.mk #[90])) 0 0) || bif hasZ (bz (ByteArray.extract s 0 (Int.toNat (IntKind.wrap .i64 ((↑(ByteArray.size s) : Int) - 2))))) (List.getD (bz (ByteArray.mk #[42])) 0 0) then dr' != 0 else hasZ (bz (ByteArray.extract s 0 (Int.toNat (IntKind.wrap .i64 ((↑(ByteArray.size s) : Int) - 2))))) (List.getD (bz (ByteArray.mk #[90])) 0 0) && dr' != 0 else bif hasZ (bz (ByteArray.extract s 0 (Int.toNat (IntKind.wrap .i64 ((↑(ByteArray.size s) : Int) - 2))))) (List.getD (bz (ByteArray.mk #[42])) 0 0) then dr' != 0 else hasZ (bz (ByteArray.extract s 0 (Int.toNat (IntKind.wrap .i64 ((↑(ByteArray.size s) : Int) - 2))))) (List.getD (bz (ByteArray.mk #[90])) 0 0) && dr' != 0 then R (.tuple (.mk [.pointer none, B false])) [] else ∀ (cap : Nat), Nat.ble (ByteArray.size (ByteArray.extract s 0 (Int.toNat (IntKind.wrap .i64 ((↑(ByteArray.size s) : Int) - 2))))) cap = true → bif goodL [(344, 400)] (Lib.strCells (ByteArray.extract s 0 (Int.toNat (IntKind.wrap .i64 ((↑(ByteArray.size s) : Int) - 2))))) && true && true && (idsLt 410 (rlbL [(344, 400)] (Lib.strCells (ByteArray.extract s 0 (Int.toNat (IntKind.wrap .i64 ((↑(ByteArray.size s) : Int) - 2)))))) && true) then bif LSpec.pre (LSpecA.toLSpec S133_0) (ByteArray.extract s 0 (Int.toNat (IntKind.wrap .i64 ((↑(ByteArray.size s) : Int) - 2))), false, 0, false, rlbL [(344, 400)] (Lib.strCells (ByteArray.extract s 0 (Int.toNat (IntKind.wrap .i64 ((↑(ByteArray.size s) : Int) - 2))))), ByteArray.size (ByteArray.extract s 0 (Int.toNat (IntKind.wrap .i64 ((↑(ByteArray.size s) : Int) - 2)))), cap, natO (ByteArray.size (ByteArray.extract s 0 (Int.toNat (IntKind.wrap .i64 ((↑(ByteArray.size s) : Int) - 2))))), 0, s, 0, 0, 0, Rw.nil, dr', f', true, 0) then bif Prod.fst (plGo (rolesP dr' f' (List.drop (Int.toNat 0) (zc (rlbL [(344, 400)] (Lib.strCells (ByteArray.extract s 0 (Int.toNat (IntKind.wrap .i64 ((↑(ByteArray.size s) : Int) - 2)))))) (ByteArray.size (ByteArray.extract s 0 (Int.toNat (IntKind.wrap .i64 ((↑(ByteArray.size s) : Int) - 2))))))) 0) (PlS.mk 0 false 0 0 0 0)) then (Rw.is Rw.nil = false → List.drop (Int.toNat 0) (zc (rlbL [(344, 400)] (Lib.strCells (ByteArray.extract s 0 (Int.toNat (IntKind.wrap .i64 ((↑(ByteArray.size s) : Int) - 2)))))) (ByteArray.size (ByteArray.extract s 0 (Int.toNat (IntKind.wrap .i64 ((↑(ByteArray.size s) : Int) - 2)))))) = [] → bif idsLt 410 (rlbL [(344, 400)] (Lib.strCells (ByteArray.extract s 0 (Int.toNat (IntKind.wrap .i64 ((↑(ByteArray.size s) : Int) - 2)))))) && true then ∀ (x : Tmps), R (.tuple (.mk [.pointer none, B false])) [] else False) ∧ ∀ (pts' : Int) (bh' : Bool) (w' dg' q' fm' : Int) (d' : List Value) (m' cap' : Nat), rowIOK d' m' cap' = true → zc d' m' = Rw.z Rw.nil ++ rolesP dr' f' (List.drop (Int.toNat 0) (zc (rlbL [(344, 400)] (Lib.strCells (ByteArray.extract s 0 (Int.toNat (IntKind.wrap .i64 ((↑(ByteArray.size s) : Int) - 2)))))) (ByteArray.size (ByteArray.extract s 0 (Int.toNat (IntKind.wrap .i64 ((↑(ByteArray.size s) : Int) - 2))))))) 0 → plGo (rolesP dr' f' (List.drop (Int.toNat 0) (zc (rlbL [(344, 400)] (Lib.strCells (ByteArray.extract s 0 (Int.toNat (IntKind.wrap .i64 ((↑(ByteArray.size s) : Int) - 2)))))) (ByteArray.size (ByteArray.extract s 0 (Int.toNat (IntKind.wrap .i64 ((↑(ByteArray.size s) : Int) - 2))))))) 0) (PlS.mk 0 false 0 0 0 0) = (true, PlS.mk pts' bh' w' dg' q' fm') → bif idsLt 410 (rlbL [(344, 400)] (Lib.strCells (ByteArray.extract s 0 (Int.toNat (IntKind.wrap .i64 ((↑(ByteArray.size s) : Int) - 2)))))) && (idsLt 410 d' && true) then ∀ (x : Tmps), bif bif decide (pts' ≤ 1) then bif decide (dg' ≥ 1) then bif decide (dg' ≤ 9) then bh' || true else true else true else true then bif !(decide (pts' ≤ 1) && (decide (dg' ≥ 1) && (decide (dg' ≤ 9) && bif bh' then !decide (fm' > 0) else !false))) then R (.tuple (.mk [.pointer none, B false])) [] else bif goodL [] d' && true && true && (idsLt 520 (rlbL [] d') && true) then bif LSpec.pre (LSpecA.toLSpec S134_0) (ByteArray.extract s 0 (Int.toNat (IntKind.wrap .i64 ((↑(ByteArray.size s) : Int) - 2))), false, (↑(ByteArray.size (ByteArray.extract s 0 (Int.toNat (IntKind.wrap .i64 ((↑(ByteArray.size s) : Int) - 2))))) : Int), -1, m', cap', natO m', 0, s, w', dg', q', rlbL [] d', m', cap', dr', f', true, fm') then ∀ (lo' hi' : Int), loGo f' (List.drop (Int.toNat 0) (zc (rlbL [] d') m')) 0 (↑(ByteArray.size (ByteArray.extract s 0 (Int.toNat (IntKind.wrap .i64 ((↑(ByteArray.size s) : Int) - 2))))) : Int) = lo' → hiGo f' (List.drop (Int.toNat 0) (zc (rlbL [] d') m')) 0 (-1) = hi' → bif idsLt 520 (rlbL [] d') && true then ∀ (x : Tmps), bif goodL [] (rlbL [] d') && true && true && (idsLt 560 (rlbL [] (rlbL [] d')) && true) then bif LSpec.pre (LSpecA.toLSpec S134_2) (ByteArray.extract s 0 (Int.toNat (IntKind.wrap .i64 ((↑(ByteArray.size s) : Int) - 2))), false, lo', hi', m', cap', natO m', 0, s, w', dg', q', rlbL [] (rlbL [] d'), m', cap', dr', f', true, fm') then bif stP f' lo' hi' (List.drop (Int.toNat 0) (zc (rlbL [] (rlbL [] d')) m')) 0 then bif idsLt 560 (rlbL [] (rlbL [] d')) && true then ∀ (x : Tmps) (cap : Nat), Nat.ble (ByteArray.size (ByteArray.extract s 0 (Int.toNat (IntKind.wrap .i64 ((↑(ByteArray.size s) : Int) - 2))))) cap = true → bif goodL [(569, 600)] (Lib.strCells (ByteArray.extract s 0 (Int.toNat (IntKind.wrap .i64 ((↑(ByteArray.size s) : Int) - 2))))) && (goodL [(569, 600)] (rlbL [] (rlbL [] d')) && true) && true && (idsLt 610 (rlbL [(569, 600)] (Lib.strCells (ByteArray.extract s 0 (Int.toNat (IntKind.wrap .i64 ((↑(ByteArray.size s) : Int) - 2)))))) && (idsLt 610 (rlbL [(569, 600)] (rlbL [] (rlbL [] d'))) && true)) then bif LSpec.pre (LSpecA.toLSpec S135_0) (ByteArray.extract s 0 (Int.toNat (IntKind.wrap .i64 ((↑(ByteArray.size s) : Int) - 2))), 0, 0, rlbL [(569, 600)] (Lib.strCells (ByteArray.extract s 0 (Int.toNat (IntKind.wrap .i64 ((↑(ByteArray.size s) : Int) - 2))))), ByteArray.size (ByteArray.extract s 0 (Int.toNat (IntKind.wrap .i64 ((↑(ByteArray.size s) : Int) - 2)))), cap, natO (ByteArray.size (ByteArray.extract s 0 (Int.toNat (IntKind.wrap .i64 ((↑(ByteArray.size s) : Int) - 2))))), 0, s, w', dg', q', rlbL [(569, 600)] (rlbL [] (rlbL [] d')), m', cap', dr', f', true, fm') then ∀ (n' : Int), 0 + siGo (List.drop (Int.toNat 0) (zc (rlbL [(569, 600)] (Lib.strCells (ByteArray.extract s 0 (Int.toNat (IntKind.wrap .i64 ((↑(ByteArray.size s) : Int) - 2)))))) (ByteArray.size (ByteArray.extract s 0 (Int.toNat (IntKind.wrap .i64 ((↑(ByteArray.size s) : Int) - 2))))))) (List.drop (Int.toNat 0) (zc (rlbL [(569, 600)] (rlbL [] (rlbL [] d'))) m')) = n' → bif idsLt 610 (rlbL [(569, 600)] (Lib.strCells (ByteArray.extract s 0 (Int.toNat (IntKind.wrap .i64 ((↑(ByteArray.size s) : Int) - 2)))))) && (idsLt 610 (rlbL [(569, 600)] (rlbL [] (rlbL [] d'))) && true) then ∀ (x : Tmps), bif decide (IntKind.wrap .i64 (n' + 1) > 1) then R (.tuple (.mk [.pointer none, B false])) [] else bif hasZ (bz (ByteArray.extract s 0 (Int.toNat (IntKind.wrap .i64 ((↑(ByteArray.size s) : Int) - 2))))) (List.getD (bz (ByteArray.mk #[42])) 0 0) then bif Nat.beq (List.length (rlbL [(569, 600)] (rlbL [] (rlbL [] d')))) (cap' * 1) && Nat.ble m' cap' && Nat.ble cap' 9223372036854775807 && true && fitsA (m' + 2) 8 then ∀ (cap : Nat) (tail : List Value), tailOK tail cap (m' + 2) 1 = true → R (.tuple (.mk [.pointer (some (.mk 3 0 (some 0))), B true])) [some (.mk [S s, B true, I (IntKind.wrap .i64 (w' + 2)), I dg', I q', B (IntKind.wrap .i64 (n' + 1) == 1), .slice (some (.mk 644 0 (some 1))) (m' + 2) cap, .int .u8 dr', I f', B true, .int .u8 42, I fm'] 156 true), some (.mk (List.take (m' * 1) (rlbL [(569, 600)] (rlbL [] (rlbL [] d'))) ++ [I 4, I 4] ++ tail) 251 true)] else False else bif Nat.beq (List.length (rlbL [(569, 600)] (rlbL [] (rlbL [] d')))) (cap' * 1) && Nat.ble m' cap' && Nat.ble cap' 9223372036854775807 && true && fitsA (m' + 2) 8 then ∀ (cap : Nat) (tail : List Value), tailOK tail cap (m' + 2) 1 = true → R (.tuple (.mk [.pointer (some (.mk 3 0 (some 0))), B true])) [some (.mk [S s, B true, I (IntKind.wrap .i64 (w' + 2)), I dg', I q', B (IntKind.wrap .i64 (n' + 1) == 1), .slice (some (.mk 640 0 (some 1))) (m' + 2) cap, .int .u8 dr', I f', B true, .int .u8 32, I fm'] 156 true), some (.mk (List.take (m' * 1) (rlbL [(569, 600)] (rlbL [] (rlbL [] d'))) ++ [I 4, I 4] ++ tail) 251 true)] else False else False else False else False else False else ∀ (i' : Int), bif idsLt 560 (rlbL [] (rlbL [] d')) && true then ∀ (x : Tmps), R (.tuple (.mk [.pointer none, B false])) [] else False else False else False else False else False else False else False else False else ∀ (pts' : Int) (bh' : Bool) (i' w' dg' q' fm' : Int) (d' : List Value) (m' cap' : Nat), rowIOK d' m' cap' = true → bif idsLt 410 (rlbL [(344, 400)] (Lib.strCells (ByteArray.extract s 0 (Int.toNat (IntKind.wrap .i64 ((↑(ByteArray.size s) : Int) - 2)))))) && (idsLt 410 d' && true) then ∀ (x : Tmps), R (.tuple (.mk [.pointer none, B false])) [] else False else False else False else False else ∀ (i' dr' f' : Int) (x : Tmps), R (.tuple (.mk [.pointer none, B false])) [] else False else False else False else bif decide (ByteArray.size s ≤ 1000) && (decide (ByteArray.size (ByteArray.mk #[65, 88, 67, 68]) ≤ 1000) && (asc (bz s) && asc (bz (ByteArray.mk #[65, 88, 67, 68])))) then bif anyZ (bz s) (bz (ByteArray.mk #[65, 88, 67, 68])) then R (.tuple (.mk [.pointer none, B false])) [] else bif LSpec.pre (LSpecA.toLSpec S131_0) (s, false, natO 4, 0, s, 0, -1, false) then bif Prod.fst (drfGo [36, 83, 43, 45] (bz s) 0 (-1)) then ∀ (dr' f' : Int), drfGo [36, 83, 43, 45] (bz s) 0 (-1) = (true, dr', f') → ∀ (x : Tmps), bif bif hasZ (bz s) (List.getD (bz (ByteArray.mk #[42])) 0 0) then hasZ (bz s) (List.getD (bz (ByteArray.mk #[90])) 0 0) || (hasZ (bz s) (List.getD (bz (ByteArray.mk #[42])) 0 0) || (hasZ (bz s) (List.getD (bz (ByteArray.mk #[90])) 0 0) || true)) else hasZ (bz s) (List.getD (bz (ByteArray.mk #[42])) 0 0) || (hasZ (bz s) (List.getD (bz (ByteArray.mk #[90])) 0 0) || true) then bif bif hasZ (bz s) (List.getD (bz (ByteArray.mk #[42])) 0 0) then hasZ (bz s) (List.getD (bz (ByteArray.mk #[90])) 0 0) || bif hasZ (bz s) (List.getD (bz (ByteArray.mk #[42])) 0 0) then dr' != 0 else hasZ (bz s) (List.getD (bz (ByteArray.mk #[90])) 0 0) && dr' != 0 else bif hasZ (bz s) (List.getD (bz (ByteArray.mk #[42])) 0 0) then dr' != 0 else hasZ (bz s) (List.getD (bz (ByteArray.mk #[90])) 0 0) && dr' != 0 then R (.tuple (.mk [.pointer none, B false])) [] else ∀ (cap : Nat), Nat.ble (ByteArray.size s) cap = true → bif goodL [(344, 400)] (Lib.strCells s) && true && true && (idsLt 410 (rlbL [(344, 400)] (Lib.strCells s)) && true) then bif LSpec.pre (LSpecA.toLSpec S133_0) (s, false, 0, false, rlbL [(344, 400)] (Lib.strCells s), ByteArray.size s, cap, natO (ByteArray.size s), 0, s, 0, 0, 0, Rw.nil, dr', f', false, 0) then bif Prod.fst (plGo (rolesP dr' f' (List.drop (Int.toNat 0) (zc (rlbL [(344, 400)] (Lib.strCells s)) (ByteArray.size s))) 0) (PlS.mk 0 false 0 0 0 0)) then (Rw.is Rw.nil = false → List.drop (Int.toNat 0) (zc (rlbL [(344, 400)] (Lib.strCells s)) (ByteArray.size s)) = [] → bif idsLt 410 (rlbL [(344, 400)] (Lib.strCells s)) && true then ∀ (x : Tmps), R (.tuple (.mk [.pointer none, B false])) [] else False) ∧ ∀ (pts' : Int) (bh' : Bool) (w' dg' q' fm' : Int) (d' : List Value) (m' cap' : Nat), rowIOK d' m' cap' = true → zc d' m' = Rw.z Rw.nil ++ rolesP dr' f' (List.drop (Int.toNat 0) (zc (rlbL [(344, 400)] (Lib.strCells s)) (ByteArray.size s))) 0 → plGo (rolesP dr' f' (List.drop (Int.toNat 0) (zc (rlbL [(344, 400)] (Lib.strCells s)) (ByteArray.size s))) 0) (PlS.mk 0 false 0 0 0 0) = (true, PlS.mk pts' bh' w' dg' q' fm') → bif idsLt 410 (rlbL [(344, 400)] (Lib.strCells s)) && (idsLt 410 d' && true) then ∀ (x : Tmps), bif bif decide (pts' ≤ 1) then bif decide (dg' ≥ 1) then bif decide (dg' ≤ 9) then bh' || true else true else true else true then bif !(decide (pts' ≤ 1) && (decide (dg' ≥ 1) && (decide (dg' ≤ 9) && bif bh' then !decide (fm' > 0) else !false))) then R (.tuple (.mk [.pointer none, B false])) [] else bif goodL [] d' && true && true && (idsLt 520 (rlbL [] d') && true) then bif LSpec.pre (LSpecA.toLSpec S134_0) (s, false, (↑(ByteArray.size s) : Int), -1, m', cap', natO m', 0, s, w', dg', q', rlbL [] d', m', cap', dr', f', false, fm') then ∀ (lo' hi' : Int), loGo f' (List.drop (Int.toNat 0) (zc (rlbL [] d') m')) 0 (↑(ByteArray.size s) : Int) = lo' → hiGo f' (List.drop (Int.toNat 0) (zc (rlbL [] d') m')) 0 (-1) = hi' → bif idsLt 520 (rlbL [] d') && true then ∀ (x : Tmps), bif goodL [] (rlbL [] d') && true && true && (idsLt 560 (rlbL [] (rlbL [] d')) && true) then bif LSpec.pre (LSpecA.toLSpec S134_2) (s, false, lo', hi', m', cap', natO m', 0, s, w', dg', q', rlbL [] (rlbL [] d'), m', cap', dr', f', false, fm') then bif stP f' lo' hi' (List.drop (Int.toNat 0) (zc (rlbL [] (rlbL [] d')) m')) 0 then bif idsLt 560 (rlbL [] (rlbL [] d')) && true then ∀ (x : Tmps) (cap : Nat), Nat.ble (ByteArray.size s) cap = true → bif goodL [(569, 600)] (Lib.strCells s) && (goodL [(569, 600)] (rlbL [] (rlbL [] d')) && true) && true && (idsLt 610 (rlbL [(569, 600)] (Lib.strCells s)) && (idsLt 610 (rlbL [(569, 600)] (rlbL [] (rlbL [] d'))) && true)) then bif LSpec.pre (LSpecA.toLSpec S135_0) (s, 0, 0, rlbL [(569, 600)] (Lib.strCells s), ByteArray.size s, cap, natO (ByteArray.size s), 0, s, w', dg', q', rlbL [(569, 600)] (rlbL [] (rlbL [] d')), m', cap', dr', f', false, fm') then ∀ (n' : Int), 0 + siGo (List.drop (Int.toNat 0) (zc (rlbL [(569, 600)] (Lib.strCells s)) (ByteArray.size s))) (List.drop (Int.toNat 0) (zc (rlbL [(569, 600)] (rlbL [] (rlbL [] d'))) m')) = n' → bif idsLt 610 (rlbL [(569, 600)] (Lib.strCells s)) && (idsLt 610 (rlbL [(569, 600)] (rlbL [] (rlbL [] d'))) && true) then ∀ (x : Tmps), bif decide (n' > 1) then R (.tuple (.mk [.pointer none, B false])) [] else bif hasZ (bz s) (List.getD (bz (ByteArray.mk #[42])) 0 0) then R (.tuple (.mk [.pointer (some (.mk 3 0 (some 0))), B true])) [some (.mk [S s, B true, I w', I dg', I q', B (n' == 1), .slice (some (.mk 401 0 (some 1))) m' cap', .int .u8 dr', I f', B false, .int .u8 42, I fm'] 156 true), some (.mk (rlbL [(569, 600)] (rlbL [] (rlbL [] d'))) 251 true)] else R (.tuple (.mk [.pointer (some (.mk 3 0 (some 0))), B true])) [some (.mk [S s, B true, I w', I dg', I q', B (n' == 1), .slice (some (.mk 401 0 (some 1))) m' cap', .int .u8 dr', I f', B false, .int .u8 32, I fm'] 156 true), some (.mk (rlbL [(569, 600)] (rlbL [] (rlbL [] d'))) 251 true)] else False else False else False else False else ∀ (i' : Int), bif idsLt 560 (rlbL [] (rlbL [] d')) && true then ∀ (x : Tmps), R (.tuple (.mk [.pointer none, B false])) [] else False else False else False else False else False else False else False else False else ∀ (pts' : Int) (bh' : Bool) (i' w' dg' q' fm' : Int) (d' : List Value) (m' cap' : Nat), rowIOK d' m' cap' = true → bif idsLt 410 (rlbL [(344, 400)] (Lib.strCells s)) && (idsLt 410 d' && true) then ∀ (x : Tmps), R (.tuple (.mk [.pointer none, B false])) [] else False else False else False else False else ∀ (i' dr' f' : Int) (x : Tmps), R (.tuple (.mk [.pointer none, B false])) [] else False else False else False) := by kernel_rfl
theorem w103 (s : ByteArray) (hs : s.size ≤ 32) (ha : asc (bz s) = true) (R : Value → List (Option Blk) → Prop)
    (hn : numQ (bodyZ (bz s)) (crZ (bz s)) = false → R (.tuple ⟨[.pointer none, .bool false]⟩) [])
    (hy : numQ (bodyZ (bz s)) (crZ (bz s)) = true → ∀ (x m cap : Nat) (d : List Value), RowI d m cap → zc d m = nRoles s (crZ (bz s)) →
      R (.tuple ⟨[.pointer (some ⟨3, 0, some 0⟩), .bool true]⟩) [some ⟨formC s (crZ (bz s)) x m cap, 156, true⟩, some ⟨d, 251, true⟩]) :
    DoesM Tryz.prog G25 noL Tryz.f204 [.string s] (fun _ => none) 0 (fun v m _ => R v (look m v)) := by
  rw [DoesM, v103]
  have k67 : bz ⟨#[67, 82]⟩ = [67, 82] := rfl
  have k68 : bz ⟨#[68, 66]⟩ = [68, 66] := rfl
  rw [k67, k68, cr_suf]
  refine c_t (by rw [decide_eq_true (show s.size ≤ 9223372036854775807 by omega)]; simp) (cond_intro (fun hcr => ?_) (fun hcr => ?_))
  · rw [hcr] at hn hy
    have hb := body_at hcr
    have h2 : 2 ≤ s.size := by
      have : 2 ≤ (bz s).length := by
        simp only [crZ, Bool.and_eq_true, decide_eq_true_eq] at hcr
        exact hcr.1
      rwa [bz_length] at this
    rw [w64 (n := (s.size : Int) - 2) (by omega)]
    refine c_t (decide_eq_true (by omega)) ?_
    have hb : bz (s.extract 0 ((s.size : Int) - 2).toNat) = bodyZ (bz s) := by
      rw [hb, bz_extract, cond_true, bz_length, List.drop_zero]
      congr 1
      omega
    have hay : asc (bz (s.extract 0 ((s.size : Int) - 2).toNat)) = true := by
      rw [hb, body_at hcr]
      exact asc_take ha _
    have hys : (s.extract 0 ((s.size : Int) - 2).toNat).size ≤ 32 := by
      rw [← bz_length, hb, body_at hcr, cond_true, List.length_take, bz_length]
      omega
    generalize s.extract 0 ((s.size : Int) - 2).toNat = y at *
    have k1 : bz ⟨#[65, 88, 67, 68]⟩ = [65, 88, 67, 68] := rfl
    have k2 : (bz ⟨#[42]⟩).getD 0 0 = 42 := rfl
    have k3 : (bz ⟨#[90]⟩).getD 0 0 = 90 := rfl
    rw [k1, k2, k3]
    have ey := hb
    refine c_t (by rw [decide_eq_true (show y.size ≤ 1000 by omega), hay]; rfl) (cond_intro (fun hA => hn (by rw [← hb]; simp only [numQ, hA, Bool.not_true, Bool.false_and])) (fun hA => c_t ?_ (cond_intro (fun hB dr' f' hD x => ?_) (fun hB _ _ _ _ => hn (by rw [← hb, numQ, nD, hB, hA]; rfl)))))
    · simp only [S131_0, decide_eq_true_eq]
      exact ⟨natO_eq 4, by omega, by omega, by omega, by omega, by omega⟩
    have hD' : nD (bz y) = (true, dr', f') := hD
    have e1 : (nD (bz y)).1 = true := by rw [hD']
    have e2 : (nD (bz y)).2.1 = dr' := by rw [hD']
    have e3 : (nD (bz y)).2.2 = f' := by rw [hD']
    have eS : (bif hasZ (bz y) 42 then hasZ (bz y) 90 || bif hasZ (bz y) 42 then dr' != 0 else hasZ (bz y) 90 && dr' != 0 else bif hasZ (bz y) 42 then dr' != 0 else hasZ (bz y) 90 && dr' != 0) = nSt (bz y) := by
      rw [nSt, e2]
      cases hasZ (bz y) 42 <;> cases hasZ (bz y) 90 <;> cases dr' != 0 <;> rfl
    rw [eS]
    refine c_t (by simp) (cond_intro (fun hC => hn (by rw [← hb, numQ, hA, e1, hC]; rfl)) (fun hC cap _ => ?_))
    obtain ⟨v1, v2⟩ := vw_str y
    have v3 := vwOK_iff.2 v1
    have g1 := v1.good
    have g2 := v1.rlb
    have g3 := ids_plainB v1.plain
    have g4 : ∀ ps, goodL ps (Lib.strCells y) = true := fun ps => goodL_plain v1.plain
    simp only [g2]
    generalize Lib.strCells y = d0 at *
    simp only [Int.toNat_zero, List.drop_zero, v2]
    have eR : rolesP dr' f' (bz y) 0 = nR (bz y) := by rw [nR, e2, e3]
    rw [eR]
    have eP : plGo (nR (bz y)) ⟨0, false, 0, 0, 0, 0⟩ = nP (bz y) := rfl
    rw [eP]
    have hl := roles_len dr' f' (bz y) 0
    rw [eR, bz_length] at hl
    refine c_t (by rw [g1, g3]; rfl) (c_t ?_ (cond_intro (fun hE => ⟨fun _ hnil => c_t (by rw [g3]; rfl) fun _ => ?_, fun pts' bh' w' dg' q' fm' d' m' cap' r1 r2 r3 => ?_⟩) (fun hE _ _ _ _ _ _ _ d' m' cap' r1 => c_t (by rw [g3, ids_plainB (rowIOK_iff.1 r1).plain]; rfl) fun _ => hn (by rw [← hb, numQ, hA, e1, hC, nPok, hE]; rfl))))
    · simp only [S133_0, Rw.oki, Rw.z, List.length_nil, Bool.true_and, Bool.and_eq_true, decide_eq_true_eq]
      exact ⟨v3, decide_eq_true ⟨by omega, by omega, by omega, natO_eq _, by omega, by omega, by omega, by omega, by omega, by omega, by omega, by omega, by omega, by omega, by omega⟩⟩
    · have : nP (bz y) = (true, ⟨0, false, 0, 0, 0, 0⟩) := by
        rw [nP, nR, hnil]
        rfl
      exact hn (by rw [← hb, numQ, hA, e1, hC, nPok, this]; rfl)
    have r1 := rowIOK_iff.1 r1
    have hz := zi_length r1
    have r2 : zc d' m' = nR (bz y) := r2
    have pr := pl_rng (nR (bz y)) ⟨0, false, 0, 0, 0, 0⟩
    rw [eP, r3] at pr
    simp only at pr
    have hm : m' = y.size := by rw [← hz, r2, hl]
    refine c_t (by rw [g3, ids_plainB r1.plain]; rfl) fun _ => c_t (by cases decide (pts' ≤ 1) <;> cases decide (dg' ≥ 1) <;> cases decide (dg' ≤ 9) <;> simp) ?_
    have ePok : (decide (pts' ≤ 1) && (decide (dg' ≥ 1) && (decide (dg' ≤ 9) && bif bh' then !decide (fm' > 0) else !false))) = nPok (bz y) := by
      rw [nPok, r3]
      cases bh' <;> rfl
    rw [ePok]
    refine cond_intro (fun hF => hn (by rw [← hb, numQ, hA, e1, hC]; rw [Bool.not_eq_true'] at hF; rw [hF]; rfl)) (fun hF => ?_)
    have hF : nPok (bz y) = true := by simpa using hF
    have gd : ∀ ps, rlbL ps d' = d' := r1.rlb
    have gg : ∀ ps, goodL ps d' = true := r1.good
    have gi := ids_plainB r1.plain
    simp only [gd, r2]
    refine c_t (by rw [gg, gi]; rfl) (c_t ?_ (fun lo' hi' h1 h2 => c_t (by rw [gi]; rfl) fun _ => c_t (by rw [gg, gi]; rfl) (c_t ?_ ?_)))
    · simp only [S134_0, Bool.and_eq_true, decide_eq_true_eq]
      exact ⟨rowIOK_iff.2 r1, by omega, by omega, by omega, natO_eq _, trivial⟩
    · simp only [S134_2, Bool.and_eq_true, decide_eq_true_eq]
      exact ⟨rowIOK_iff.2 r1, by omega, by omega, by omega, natO_eq _, trivial⟩
    have eSt : stP f' lo' hi' (nR (bz y)) 0 = nS (bz y) := by rw [nS, e3, bz_length, h1, h2]
    rw [eSt]
    refine cond_intro (fun hG => ?_) (fun hG _ => c_t (by rw [gi]; rfl) fun _ => hn (by rw [← hb, numQ, hA, e1, hC, hF, hG]; rfl))
    refine c_t (by rw [gi]; rfl) fun _ cap2 _ => c_t (by rw [g4, gg, gi, g3]; rfl) (c_t ?_ (fun n' h3 => c_t (by rw [gi, g3]; rfl) fun _ => ?_))
    · simp only [S135_0, Bool.and_eq_true, decide_eq_true_eq]
      exact ⟨rowIOK_iff.2 r1, v3, by omega, by omega, hm, by omega, natO_eq _, by omega, by omega⟩
    have sr := si_rng (bz y) (nR (bz y))
    rw [bz_length] at sr
    rw [Int.zero_add] at h3
    rw [w64 (n := n' + 1) (by omega), w64 (n := w' + 2) (by omega)]
    have eN : nG (bz y) true = n' + 1 := by rw [nG, h3]; rfl
    refine cond_intro (fun hH => hn (by rw [← hb, numQ, hA, e1, hC, hF, hG, eN]; have : ¬ n' + 1 ≤ 1 := by have := of_decide_eq_true hH; omega
                                        rw [decide_eq_false this]; rfl)) (fun hH => ?_)
    have hq : numQ (bodyZ (bz s)) true = true := by
      rw [← hb, numQ, hA, e1, hC, hF, hG, eN]
      have : n' + 1 ≤ 1 := by have := of_decide_eq_false hH; omega
      rw [decide_eq_true this]; rfl
    have eF : ∀ x k c, formC s true x k c = [Value.string s, Value.bool true, Value.int IntKind.i64 (w' + 2), Value.int IntKind.i64 dg', Value.int IntKind.i64 q', Value.bool (n' + 1 == 1), Value.slice (some ⟨x, 0, some 1⟩) k c, Value.int IntKind.u8 dr', Value.int IntKind.i64 f', Value.bool true, Value.int IntKind.u8 (bif hasZ (bz y) 42 then 42 else 32), Value.int IntKind.i64 fm'] := fun x k c => by
      rw [formC, ← hb, r3, e2, e3, eN]; rfl
    have hf := hy hq
    simp only [eF, nRoles, ← hb] at hf
    refine cond_intro (fun hI => ?_) (fun hI => ?_)
    · rw [hI] at hf
      refine c_t (r1.ask (k := 2) (by omega)) (fun cap3 tail ht => ?_)
      obtain ⟨a1, a2⟩ := r1.app [4, 4] ht
      rw [Nat.mul_one]
      exact hf _ _ _ _ a1 (a2.trans (by rw [r2]; rfl))
    · rw [hI] at hf
      refine c_t (r1.ask (k := 2) (by omega)) (fun cap3 tail ht => ?_)
      obtain ⟨a1, a2⟩ := r1.app [4, 4] ht
      rw [Nat.mul_one]
      exact hf _ _ _ _ a1 (a2.trans (by rw [r2]; rfl))
  · rw [hcr] at hn hy
    have hb : bz s = bodyZ (bz s) := by rw [body_at hcr]; rfl
    have hay := ha
    have k1 : bz ⟨#[65, 88, 67, 68]⟩ = [65, 88, 67, 68] := rfl
    have k2 : (bz ⟨#[42]⟩).getD 0 0 = 42 := rfl
    have k3 : (bz ⟨#[90]⟩).getD 0 0 = 90 := rfl
    rw [k1, k2, k3]
    have ey := hb
    refine c_t (by rw [decide_eq_true (show s.size ≤ 1000 by omega), hay]; rfl) (cond_intro (fun hA => hn (by rw [← hb]; simp only [numQ, hA, Bool.not_true, Bool.false_and])) (fun hA => c_t ?_ (cond_intro (fun hB dr' f' hD x => ?_) (fun hB _ _ _ _ => hn (by rw [← hb, numQ, nD, hB, hA]; rfl)))))
    · simp only [S131_0, decide_eq_true_eq]
      exact ⟨natO_eq 4, by omega, by omega, by omega, by omega, by omega⟩
    have hD' : nD (bz s) = (true, dr', f') := hD
    have e1 : (nD (bz s)).1 = true := by rw [hD']
    have e2 : (nD (bz s)).2.1 = dr' := by rw [hD']
    have e3 : (nD (bz s)).2.2 = f' := by rw [hD']
    have eS : (bif hasZ (bz s) 42 then hasZ (bz s) 90 || bif hasZ (bz s) 42 then dr' != 0 else hasZ (bz s) 90 && dr' != 0 else bif hasZ (bz s) 42 then dr' != 0 else hasZ (bz s) 90 && dr' != 0) = nSt (bz s) := by
      rw [nSt, e2]
      cases hasZ (bz s) 42 <;> cases hasZ (bz s) 90 <;> cases dr' != 0 <;> rfl
    rw [eS]
    refine c_t (by simp) (cond_intro (fun hC => hn (by rw [← hb, numQ, hA, e1, hC]; rfl)) (fun hC cap _ => ?_))
    obtain ⟨v1, v2⟩ := vw_str s
    have v3 := vwOK_iff.2 v1
    have g1 := v1.good
    have g2 := v1.rlb
    have g3 := ids_plainB v1.plain
    have g4 : ∀ ps, goodL ps (Lib.strCells s) = true := fun ps => goodL_plain v1.plain
    simp only [g2]
    generalize Lib.strCells s = d0 at *
    simp only [Int.toNat_zero, List.drop_zero, v2]
    have eR : rolesP dr' f' (bz s) 0 = nR (bz s) := by rw [nR, e2, e3]
    rw [eR]
    have eP : plGo (nR (bz s)) ⟨0, false, 0, 0, 0, 0⟩ = nP (bz s) := rfl
    rw [eP]
    have hl := roles_len dr' f' (bz s) 0
    rw [eR, bz_length] at hl
    refine c_t (by rw [g1, g3]; rfl) (c_t ?_ (cond_intro (fun hE => ⟨fun _ hnil => c_t (by rw [g3]; rfl) fun _ => ?_, fun pts' bh' w' dg' q' fm' d' m' cap' r1 r2 r3 => ?_⟩) (fun hE _ _ _ _ _ _ _ d' m' cap' r1 => c_t (by rw [g3, ids_plainB (rowIOK_iff.1 r1).plain]; rfl) fun _ => hn (by rw [← hb, numQ, hA, e1, hC, nPok, hE]; rfl))))
    · simp only [S133_0, Rw.oki, Rw.z, List.length_nil, Bool.true_and, Bool.and_eq_true, decide_eq_true_eq]
      exact ⟨v3, decide_eq_true ⟨by omega, by omega, by omega, natO_eq _, by omega, by omega, by omega, by omega, by omega, by omega, by omega, by omega, by omega, by omega, by omega⟩⟩
    · have : nP (bz s) = (true, ⟨0, false, 0, 0, 0, 0⟩) := by
        rw [nP, nR, hnil]
        rfl
      exact hn (by rw [← hb, numQ, hA, e1, hC, nPok, this]; rfl)
    have r1 := rowIOK_iff.1 r1
    have hz := zi_length r1
    have r2 : zc d' m' = nR (bz s) := r2
    have pr := pl_rng (nR (bz s)) ⟨0, false, 0, 0, 0, 0⟩
    rw [eP, r3] at pr
    simp only at pr
    have hm : m' = s.size := by rw [← hz, r2, hl]
    refine c_t (by rw [g3, ids_plainB r1.plain]; rfl) fun _ => c_t (by cases decide (pts' ≤ 1) <;> cases decide (dg' ≥ 1) <;> cases decide (dg' ≤ 9) <;> simp) ?_
    have ePok : (decide (pts' ≤ 1) && (decide (dg' ≥ 1) && (decide (dg' ≤ 9) && bif bh' then !decide (fm' > 0) else !false))) = nPok (bz s) := by
      rw [nPok, r3]
      cases bh' <;> rfl
    rw [ePok]
    refine cond_intro (fun hF => hn (by rw [← hb, numQ, hA, e1, hC]; rw [Bool.not_eq_true'] at hF; rw [hF]; rfl)) (fun hF => ?_)
    have hF : nPok (bz s) = true := by simpa using hF
    have gd : ∀ ps, rlbL ps d' = d' := r1.rlb
    have gg : ∀ ps, goodL ps d' = true := r1.good
    have gi := ids_plainB r1.plain
    simp only [gd, r2]
    refine c_t (by rw [gg, gi]; rfl) (c_t ?_ (fun lo' hi' h1 h2 => c_t (by rw [gi]; rfl) fun _ => c_t (by rw [gg, gi]; rfl) (c_t ?_ ?_)))
    · simp only [S134_0, Bool.and_eq_true, decide_eq_true_eq]
      exact ⟨rowIOK_iff.2 r1, by omega, by omega, by omega, natO_eq _, trivial⟩
    · simp only [S134_2, Bool.and_eq_true, decide_eq_true_eq]
      exact ⟨rowIOK_iff.2 r1, by omega, by omega, by omega, natO_eq _, trivial⟩
    have eSt : stP f' lo' hi' (nR (bz s)) 0 = nS (bz s) := by rw [nS, e3, bz_length, h1, h2]
    rw [eSt]
    refine cond_intro (fun hG => ?_) (fun hG _ => c_t (by rw [gi]; rfl) fun _ => hn (by rw [← hb, numQ, hA, e1, hC, hF, hG]; rfl))
    refine c_t (by rw [gi]; rfl) fun _ cap2 _ => c_t (by rw [g4, gg, gi, g3]; rfl) (c_t ?_ (fun n' h3 => c_t (by rw [gi, g3]; rfl) fun _ => ?_))
    · simp only [S135_0, Bool.and_eq_true, decide_eq_true_eq]
      exact ⟨rowIOK_iff.2 r1, v3, by omega, by omega, hm, by omega, natO_eq _, by omega, by omega⟩
    have sr := si_rng (bz s) (nR (bz s))
    rw [bz_length] at sr
    rw [Int.zero_add] at h3
    have eN : nG (bz s) false = n' := by rw [nG, h3]; exact Int.add_zero _
    refine cond_intro (fun hH => hn (by rw [← hb, numQ, hA, e1, hC, hF, hG, eN]; have : ¬ n' ≤ 1 := by have := of_decide_eq_true hH; omega
                                        rw [decide_eq_false this]; rfl)) (fun hH => ?_)
    have hq : numQ (bodyZ (bz s)) false = true := by
      rw [← hb, numQ, hA, e1, hC, hF, hG, eN]
      have : n' ≤ 1 := by have := of_decide_eq_false hH; omega
      rw [decide_eq_true this]; rfl
    have eF : ∀ x k c, formC s false x k c = [Value.string s, Value.bool true, Value.int IntKind.i64 w', Value.int IntKind.i64 dg', Value.int IntKind.i64 q', Value.bool (n' == 1), Value.slice (some ⟨x, 0, some 1⟩) k c, Value.int IntKind.u8 dr', Value.int IntKind.i64 f', Value.bool false, Value.int IntKind.u8 (bif hasZ (bz s) 42 then 42 else 32), Value.int IntKind.i64 fm'] := fun x k c => by
      rw [formC, ← hb, r3, e2, e3, eN, cond_false, Int.add_zero]
    have hf := hy hq
    simp only [eF, nRoles, ← hb] at hf
    refine cond_intro (fun hI => ?_) (fun hI => ?_)
    · rw [hI] at hf
      exact hf _ _ _ _ r1 (by rw [r2]; simp)
    · rw [hI] at hf
      exact hf _ _ _ _ r1 (by rw [r2]; simp)
end Go.Px
end
section
namespace Go.Px
open Go Go.Ab Go.Proofs
theorem last_mem {l : List Int} {c : Int} : lastZ l c = -1 ↔ c ∉ l := by
 rcases lastZ_spec c l with ⟨e, h⟩ | ⟨i, hi, e, hc, h⟩
 ·refine ⟨fun _ hm => ?_, fun _ => e⟩
  obtain ⟨j, hj, hv⟩ := List.mem_iff_getElem.1 hm
  exact h j hj (by rw [List.getD_eq_getElem?_getD, List.getElem?_eq_getElem hj]; exact hv)
 ·refine ⟨fun q => by omega, fun q => absurd ?_ q⟩
  rw [List.getD_eq_getElem?_getD, List.getElem?_eq_getElem hi] at hc
  exact hc ▸ List.getElem_mem hi
def flg (s : List Int) (c : Int) : Bool := hasZ [36, 83, 43, 45] c && decide (2 ≤ cntZ s c)
theorem df1_all (s : List Int) (dr : Int) : ∀ (r : List Int) (i f l : Int), (df1 s dr r i f l).1 = r.all fun c => c == dr || !flg s c
 | [], _, _, _ => rfl
 | c :: r, i, f, l => by
  rw [df1, List.all_cons]
  cases h : c == dr with
  | true => rw [cond_true, df1_all s dr r]; rfl
  | false =>
   rw [cond_false]
   have e : (hasZ [36, 83, 43, 45] c && decide (2 ≤ cntZ s c)) = flg s c := rfl
   rw [e]
   cases flg s c with
   | true => rfl
   | false => rw [cond_false, df1_all s dr r]; rfl
theorem df1_fl (s : List Int) (dr : Int) : ∀ (r : List Int) (i f l : Int), 0 ≤ i → (df1 s dr r i f l).1 = true →
  (df1 s dr r i f l).2.1 = (if f < 0 then (if dr ∈ r then i + idxZ r dr else f) else f) ∧ (df1 s dr r i f l).2.2 = (if dr ∈ r then i + lastZ r dr else l)
 | [], i, f, l, _, _ => by simp [df1]
 | c :: r, i, f, l, hi, h => by
  rw [df1] at h ⊢
  have hlr := last_mem (l := r) (c := dr)
  cases hc : c == dr with
  | true =>
   have hc' : c = dr := eq_of_beq hc
   rw [hc, cond_true] at h
   rw [cond_true]
   obtain ⟨q1, q2⟩ := df1_fl s dr r _ _ _ (by omega) h
   rw [q1, q2, hc']
   have h1 : ¬ (if f < 0 then i else f) < 0 := by split <;> omega
   rw [if_neg h1, if_pos (List.mem_cons_self ..), if_pos (List.mem_cons_self ..), idxZ, if_pos rfl, lastZ]
   refine ⟨by split <;> omega, ?_⟩
   by_cases hm : dr ∈ r
   ·rw [if_pos hm, if_neg (fun q => hlr.1 q hm)]; omega
   ·rw [if_neg hm, if_pos (hlr.2 hm), if_pos rfl]; omega
  | false =>
   have hc' : ¬ c = dr := by simpa using hc
   rw [hc, cond_false] at h
   rw [cond_false]
   cases hf : (hasZ [36, 83, 43, 45] c && decide (2 ≤ cntZ s c)) with
   | true => rw [hf] at h; cases h
   | false =>
    rw [hf, cond_false] at h
    rw [cond_false]
    obtain ⟨q1, q2⟩ := df1_fl s dr r _ _ _ (by omega) h
    have hmm : dr ∈ c :: r ↔ dr ∈ r := by
     rw [List.mem_cons]
     exact ⟨fun q => q.resolve_left fun e => hc' e.symm, .inr⟩
    rw [q1, q2]
    simp only [hmm, idxZ, lastZ, if_neg hc']
    by_cases hm : dr ∈ r
    ·have i1 := idx_lt dr hm
     rw [if_pos hm, if_pos hm, if_pos hm, if_pos hm, if_neg (show ¬ idxZ r dr = -1 by omega), if_neg (fun q => hlr.1 q hm)]
     exact ⟨by split <;> omega, by omega⟩
    ·rw [if_neg hm, if_neg hm, if_neg hm, if_neg hm]
     exact ⟨rfl, rfl⟩
theorem d2_app (dr f : Int) : ∀ (x y : List Int) (i : Int), d2Go dr f (x ++ y) i = (d2Go dr f x i && d2Go dr f y (i + x.length))
 | [], y, i => by simp [d2Go]
 | c :: x, y, i => by
  rw [List.cons_append, d2Go, d2Go, d2_app dr f x y, List.length_cons, Bool.and_assoc, Bool.and_assoc]
  congr 4
  omega
theorem d2_before (dr f : Int) : ∀ (r : List Int) (i : Int), i + r.length ≤ f → d2Go dr f r i = !hasZ r 86
 | [], _, _ => rfl
 | c :: r, i, h => by
  rw [List.length_cons] at h
  rw [d2Go, d2_before dr f r (i + 1) (by omega), decide_eq_true (show i < f by omega), decide_eq_false (show ¬ i > f by omega)]
  simp only [hasZ, List.any_cons, Bool.true_and, Bool.false_and, Bool.not_false, Bool.not_or]
theorem d2_after (dr f : Int) : ∀ (r : List Int) (i : Int), f < i → d2Go dr f r i = drP dr r
 | [], _, _ => rfl
 | c :: r, i, h => by
  rw [d2Go, d2_after dr f r (i + 1) (by omega), decide_eq_false (show ¬ i < f by omega), decide_eq_true (show i > f by omega)]
  simp only [drP, List.all_cons, Bool.true_and, Bool.false_and, Bool.not_false, Bool.not_and, Bool.not_not, bne]
  rfl
theorem take_split (b : List Int) {f l : Nat} (h : f ≤ l) : b.take l = b.take f ++ (b.take l).drop f := by
 have := List.take_append_drop f (b.take l)
 rw [List.take_take, Nat.min_eq_left h] at this
 exact this.symm
theorem drop_take_cons (b : List Int) {f l : Nat} (h : f < l) (hb : f < b.length) : (b.take l).drop f = b.getD f 0 :: (b.take l).drop (f + 1) := by
 rw [getD_drop (b.take l) f (by rw [List.length_take]; omega)]
 congr 1
 simp only [List.getD_eq_getElem?_getD, List.getElem?_take]
 rw [if_pos h]
theorem idx_get (c : Int) : ∀ {l : List Int}, c ∈ l → l.getD (idxZ l c).toNat 0 = c
 | b :: l, h => by
  simp only [idxZ]
  by_cases hb : b = c
  ·rw [if_pos hb]; simpa using hb
  ·rw [if_neg hb]
   have hm : c ∈ l := by rcases List.mem_cons.1 h with q | q; exact absurd q.symm hb; exact q
   have := idx_lt c hm
   rw [if_neg (by omega), show (idxZ l c + 1).toNat = (idxZ l c).toNat + 1 by omega, List.getD_cons_succ]
   exact idx_get c hm
theorem last_get (c : Int) {l : List Int} (h : c ∈ l) : l.getD (lastZ l c).toNat 0 = c := by
 rcases lastZ_spec c l with ⟨e, _⟩ | ⟨i, hi, e, hc, _⟩
 ·exact absurd h (last_mem.1 e)
 ·rw [e]; exact hc
theorem take_snoc (b : List Int) {l : Nat} (h : l < b.length) : b.take (l + 1) = b.take l ++ [b.getD l 0] := by
 rw [List.take_add_one, List.getD_eq_getElem?_getD, List.getElem?_eq_getElem h]
 rfl
theorem d2_drC {b : List Int} {c : Int} (h : c ∈ b) : d2Go c (idxZ b c) (b.take (lastZ b c).toNat) 0 = drC b c := by
 have i1 := idx_lt c h
 have i2 := idx_last c h
 have i3 := last_rng b c
 have g1 := idx_get c h
 have g2 := last_get c h
 obtain ⟨f, hf⟩ : ∃ f : Nat, idxZ b c = f := ⟨(idxZ b c).toNat, by omega⟩
 obtain ⟨l, hl⟩ : ∃ l : Nat, lastZ b c = l := ⟨(lastZ b c).toNat, by omega⟩
 unfold drC
 rw [hf] at i1 i2 g1
 rw [hl] at i2 i3 g2
 rw [hf, hl]
 rw [Int.toNat_natCast] at g1 g2 ⊢
 rw [Int.toNat_natCast]
 rw [show ((l : Int) + 1).toNat = l + 1 by omega, take_snoc b (by omega), g2, List.drop_append_of_le_length (by rw [List.length_take]; omega)]
 rw [take_split b (show f ≤ l by omega), d2_app, d2_before _ _ _ _ (by rw [List.length_take]; omega)]
 congr 1
 ·rw [← take_split b (show f ≤ l by omega)]
  rw [List.length_take, Nat.min_eq_left (by omega)]
  have hs : drP c ((b.take l).drop f ++ [c]) = drP c ((b.take l).drop f) := by
   simp [drP]
  rw [hs]
  by_cases hfl : f < l
  ·rw [drop_take_cons b hfl (by omega), g1, d2Go, d2_after _ _ _ _ (by omega)]
   simp [drP]
  ·rw [List.drop_eq_nil_of_le (by rw [List.length_take]; omega)]
   rfl
theorem drf_none {b : List Int} {d f : Int} : ∀ {cs : List Int}, (∀ c ∈ cs, (cntZ b c : Int) < 2) → drfGo cs b d f = (true, d, f)
 | [], _ => rfl
 | c :: cs, h => by
  rw [drfGo, decide_eq_true (h c (List.mem_cons_self ..)), cond_true]
  exact drf_none fun x hx => h x (List.mem_cons_of_mem _ hx)
theorem drf_many {b : List Int} {d f : Int} (hd : d ≠ 0) : ∀ {cs : List Int}, (∃ c ∈ cs, ¬ (cntZ b c : Int) < 2) → (drfGo cs b d f).1 = false
 | c :: cs, h => by
  rw [drfGo]
  cases hc : decide ((cntZ b c : Int) < 2) with
  | true =>
   rw [cond_true]
   refine drf_many hd ?_
   obtain ⟨x, hx, hxc⟩ := h
   rcases List.mem_cons.1 hx with rfl | hx
   ·exact absurd (of_decide_eq_true hc) hxc
   ·exact ⟨x, hx, hxc⟩
  | false =>
   rw [cond_false]
   have : (d != 0) = true := by simpa using hd
   rw [this]
   rfl
 | [], ⟨_, h, _⟩ => by cases h
theorem drf_two {b : List Int} {d f : Int} : ∀ {cs : List Int} {c1 c2 : Int}, (∀ c ∈ cs, c ≠ 0) → c1 ∈ cs → c2 ∈ cs → c1 ≠ c2 → ¬ (cntZ b c1 : Int) < 2 → ¬ (cntZ b c2 : Int) < 2 → (drfGo cs b d f).1 = false
 | c :: cs, c1, c2, h0, m1, m2, hne, h1, h2 => by
  rw [drfGo]
  cases hc : decide ((cntZ b c : Int) < 2) with
  | true =>
   have hc := of_decide_eq_true hc
   rw [cond_true]
   refine drf_two (fun x hx => h0 x (List.mem_cons_of_mem _ hx)) ?_ ?_ hne h1 h2
   ·rcases List.mem_cons.1 m1 with rfl | q
    ·exact absurd hc h1
    ·exact q
   ·rcases List.mem_cons.1 m2 with rfl | q
    ·exact absurd hc h2
    ·exact q
  | false =>
   rw [cond_false]
   cases d != 0 with
   | true => rfl
   | false =>
    rw [cond_false]
    cases drC b c with
    | false => rfl
    | true =>
     rw [cond_true]
     refine drf_many (h0 c (List.mem_cons_self ..)) ?_
     by_cases e : c1 = c
     ·rcases List.mem_cons.1 m2 with q | q
      ·exact absurd (e.trans q.symm) hne
      ·exact ⟨c2, q, h2⟩
     ·rcases List.mem_cons.1 m1 with q | q
      ·exact absurd q e
      ·exact ⟨c1, q, h1⟩
theorem drf_one {b : List Int} {f : Int} : ∀ {cs : List Int} {c : Int}, cs.Nodup → c ∈ cs → ¬ (cntZ b c : Int) < 2 → (∀ x ∈ cs, x ≠ c → (cntZ b x : Int) < 2) → drfGo cs b 0 f = bif drC b c then (true, c, idxZ b c) else (false, 0, 0)
 | x :: cs, c, hn, hm, h1, h2 => by
  have hn' := List.nodup_cons.1 hn
  rw [drfGo]
  by_cases e : x = c
  ·subst e
   rw [decide_eq_false h1, cond_false]
   have : ((0 : Int) != 0) = false := rfl
   rw [this, cond_false]
   cases drC b x with
   | false => rfl
   | true =>
    rw [cond_true, cond_true]
    exact drf_none fun y hy => h2 y (List.mem_cons_of_mem _ hy) fun q => hn'.1 (q ▸ hy)
  ·rw [decide_eq_true (h2 x (List.mem_cons_self ..) e), cond_true]
   exact drf_one hn'.2 (by rcases List.mem_cons.1 hm with q | q; exact absurd q.symm e; exact q) h1 fun y hy => h2 y (List.mem_cons_of_mem _ hy)
theorem drGo_spec (s : List Int) : ∀ r : List Int, drGo s r = 0 ∨ (flg s (drGo s r) = true ∧ drGo s r ∈ r)
 | [] => .inl rfl
 | c :: r => by
  rw [drGo]
  split
  ·rename_i h
   exact .inr ⟨by simp only [flg, Bool.and_eq_true, decide_eq_true_eq]; exact h, List.mem_cons_self ..⟩
  ·rcases drGo_spec s r with h | ⟨h1, h2⟩
   ·exact .inl h
   ·exact .inr ⟨h1, List.mem_cons_of_mem _ h2⟩
theorem drGo_ne (s : List Int) {c : Int} (hf : flg s c = true) : ∀ r : List Int, c ∈ r → drGo s r ≠ 0
 | x :: r, h => by
  rw [drGo]
  split
  ·rename_i h
   have : hasZ [36, 83, 43, 45] x = true := h.1
   rw [has_dr] at this
   omega
  ·rename_i hx
   rcases List.mem_cons.1 h with rfl | h
   ·simp only [flg, Bool.and_eq_true, decide_eq_true_eq] at hf
    exact absurd hf hx
   ·exact drGo_ne s hf r h
theorem flg_iff {s : List Int} {c : Int} (h : c ∈ [36, 83, 43, 45]) : flg s c = true ↔ ¬ (cntZ s c : Int) < 2 := by
 simp only [flg, Bool.and_eq_true, decide_eq_true_eq, hasZ_iff]
 exact ⟨fun q => by omega, fun q => ⟨h, by omega⟩⟩
theorem flg_mem {s : List Int} {c : Int} (h : flg s c = true) : c ∈ [36, 83, 43, 45] ∧ ¬ (cntZ s c : Int) < 2 := by
 simp only [flg, Bool.and_eq_true, decide_eq_true_eq, hasZ_iff] at h
 exact ⟨h.1, by omega⟩
theorem nD_law (b : List Int) : (nD b).1 = driftsZ b ∧ (driftsZ b = true → (nD b).2.1 = drZ b ∧ (nD b).2.2 = if drZ b = 0 then -1 else idxZ b (drZ b)) := by
 have h4 : ∀ c ∈ [36, 83, 43, (45 : Int)], c ≠ 0 := by decide
 by_cases hd : drZ b = 0
 ·have hn : nD b = (true, 0, -1) := drf_none fun c hc => by
   cases hq : decide ((cntZ b c : Int) < 2) with
   | true => exact of_decide_eq_true hq
   | false =>
    have hf := (flg_iff hc).2 (of_decide_eq_false hq)
    exact absurd hd (drGo_ne b hf b (cnt_mem (flg_mem hf).2))
  have hz : driftsZ b = true := by rw [driftsZ, hd]; rfl
  rw [hn, hz, hd]
  exact ⟨rfl, fun _ => ⟨rfl, rfl⟩⟩
 ·obtain ⟨hf, hm⟩ := (drGo_spec b b).resolve_left hd
  have hf : flg b (drZ b) = true := hf
  have hm : drZ b ∈ b := hm
  obtain ⟨m1, m2⟩ := flg_mem hf
  have hz : driftsZ b = ((df1 b (drZ b) b 0 (-1) (-1)).1 && d2Go (drZ b) (df1 b (drZ b) b 0 (-1) (-1)).2.1 (b.take (df1 b (drZ b) b 0 (-1) (-1)).2.2.toNat) 0) := by
   have : (drZ b == 0) = false := by simpa using hd
   rw [driftsZ, this, Bool.false_or]
  by_cases ho : ∃ x ∈ [36, 83, 43, (45 : Int)], x ≠ drZ b ∧ ¬ (cntZ b x : Int) < 2
  ·obtain ⟨x, x1, x2, x3⟩ := ho
   have e1 : (nD b).1 = false := drf_two h4 x1 m1 x2 x3 m2
   have e2 : (df1 b (drZ b) b 0 (-1) (-1)).1 = false := by
    rw [df1_all, List.all_eq_false]
    refine ⟨x, cnt_mem x3, ?_⟩
    rw [(flg_iff x1).2 x3]
    simpa using x2
   rw [hz, e1, e2]
   exact ⟨rfl, fun q => by cases q⟩
  ·have ho : ∀ x ∈ [36, 83, 43, (45 : Int)], x ≠ drZ b → (cntZ b x : Int) < 2 := fun x x1 x2 => by
    cases hq : decide ((cntZ b x : Int) < 2) with
    | true => exact of_decide_eq_true hq
    | false => exact absurd ⟨x, x1, x2, of_decide_eq_false hq⟩ ho
   have e1 : nD b = bif drC b (drZ b) then (true, drZ b, idxZ b (drZ b)) else (false, 0, 0) := drf_one (by decide) m1 m2 ho
   have e2 : (df1 b (drZ b) b 0 (-1) (-1)).1 = true := by
    rw [df1_all, List.all_eq_true]
    intro x _
    by_cases q : x = drZ b
    ·rw [q]; simp
    ·have : flg b x = false := by
      cases hh : flg b x with
      | false => rfl
      | true => obtain ⟨a1, a2⟩ := flg_mem hh; exact absurd (ho x a1 q) a2
     rw [this]
     simp
   obtain ⟨q1, q2⟩ := df1_fl b (drZ b) b 0 (-1) (-1) (by omega) e2
   rw [if_pos (by omega), if_pos hm, Int.zero_add] at q1
   rw [if_pos hm, Int.zero_add] at q2
   rw [hz, e1, e2, q1, q2, d2_drC hm, Bool.true_and]
   cases drC b (drZ b) with
   | false => exact ⟨rfl, fun q => by cases q⟩
   | true => exact ⟨rfl, fun _ => ⟨rfl, by rw [if_neg hd]; rfl⟩⟩
end Go.Px
end
section
namespace Go.Px
open Go Go.Ab Go.Proofs
def rmk (r : Int) : Int := [100, 99, 118, 105, 115, 109].getD r.toNat 0
theorem ro_rng (d f c i : Int) : 0 ≤ roP d f c i ∧ roP d f c i ≤ 5 := by
 unfold roP
 cases hasZ [57, 89, 84, 73, 82] c <;> cases (c == 90 || (c == 42 || (c == d && i != f))) <;> cases c == 86 <;> cases c == 36 <;> cases (c == 83 || (c == 43 || c == 45)) <;> simp
theorem idx_app (d : Int) : ∀ x y : List Int, idxZ (x ++ y) d = if d ∈ x then idxZ x d else if d ∈ y then x.length + idxZ y d else -1
 | [], y => by
  simp only [List.nil_append, List.not_mem_nil, if_false, List.length_nil]
  split
  ·omega
  ·rename_i h
   have h : ¬ 0 ≤ idxZ y d := fun q => h ((idx_has d y).2.1 q)
   have := (idx_has d y).1
   omega
 | c :: x, y => by
  have ih := idx_app d x y
  rw [List.cons_append, idxZ, idxZ]
  by_cases hc : c = d
  ·rw [if_pos hc, if_pos hc, if_pos (by rw [hc]; exact List.mem_cons_self ..)]
  ·rw [if_neg hc, if_neg hc, ih]
   have hm : d ∈ c :: x ↔ d ∈ x := by
    rw [List.mem_cons]
    exact ⟨fun q => q.resolve_left fun e => hc e.symm, .inr⟩
   simp only [hm]
   by_cases hx : d ∈ x
   ·rw [if_pos hx, if_pos hx]
   ·rw [if_neg hx, if_neg hx]
    by_cases hy : d ∈ y
    ·have := idx_lt d hy
     rw [if_pos hy, if_pos hy, if_neg (by omega)]
     simp only [List.length_cons]
     omega
    ·rw [if_neg hy, if_neg hy, if_pos rfl]
structure DrP (b : List Int) (d f : Int) : Prop where
 zero : ∀ c ∈ b, c ≠ 0
 at_ : d = 0 ∧ f = -1 ∨ d ≠ 0 ∧ d ∈ b ∧ f = idxZ b d ∧ d ∈ [36, 83, 43, (45 : Int)]
theorem DrP.eq {b pre r : List Int} {c d f : Int} (h : DrP b d f) (hb : b = pre ++ c :: r) : (c = d ∧ (pre.length : Int) ≠ f ↔ c = d ∧ d ≠ 0 ∧ d ∈ pre) ∧ ((pre.length : Int) = f ↔ c = d ∧ d ∉ pre) := by
 have hc0 := h.zero c (by rw [hb]; simp)
 rcases h.at_ with ⟨rfl, rfl⟩ | ⟨h1, h2, h3, _⟩
 ·exact ⟨⟨fun q => absurd q.1 hc0, fun q => absurd q.1 hc0⟩, ⟨fun q => by omega, fun q => absurd q.1 hc0⟩⟩
 ·rw [hb, idx_app] at h3
  by_cases hp : d ∈ pre
  ·rw [if_pos hp] at h3
   have := idx_lt d hp
   exact ⟨⟨fun q => ⟨q.1, h1, hp⟩, fun q => ⟨q.1, by omega⟩⟩, ⟨fun q => by omega, fun q => absurd hp q.2⟩⟩
  ·rw [if_neg hp] at h3
   rw [hb] at h2
   have hd : d ∈ c :: r := by rcases List.mem_append.1 h2 with q | q; exact absurd q hp; exact q
   rw [if_pos hd, idxZ] at h3
   by_cases hc : c = d
   ·rw [if_pos hc] at h3
    exact ⟨⟨fun q => absurd h3 (by omega), fun q => absurd q.2.2 hp⟩, ⟨fun _ => ⟨hc, hp⟩, fun _ => by omega⟩⟩
   ·rw [if_neg hc] at h3
    have hr : d ∈ r := by rcases List.mem_cons.1 hd with q | q; exact absurd q.symm hc; exact q
    have := idx_lt d hr
    rw [if_neg (by omega)] at h3
    exact ⟨⟨fun q => absurd q.1 hc, fun q => absurd q.1 hc⟩, ⟨fun q => by omega, fun q => absurd q.1 hc⟩⟩
theorem mk_ro {b pre r : List Int} {c d f : Int} (h : DrP b d f) (hb : b = pre ++ c :: r) : rmk (roP d f c pre.length) = mk1 d (d != 0 && decide (d ∈ pre)) c := by
 have e : (c == 90 || (c == 42 || (c == d && (pre.length : Int) != f))) = (hasZ [90, 42] c || (d != 0 && (c == d && (d != 0 && decide (d ∈ pre))))) := by
  have := (h.eq hb).1
  rw [Bool.eq_iff_iff]
  simp only [Bool.or_eq_true, Bool.and_eq_true, beq_iff_eq, bne_iff_ne, decide_eq_true_eq, hasZ_iff, List.mem_cons, List.not_mem_nil, or_false]
  rw [this]
  constructor
  ·rintro (q | q | ⟨q1, q2, q3⟩)
   ·exact .inl (.inl q)
   ·exact .inl (.inr q)
   ·exact .inr ⟨q2, q1, q2, q3⟩
  ·rintro ((q | q) | ⟨q2, q1, _, q3⟩)
   ·exact .inl q
   ·exact .inr (.inl q)
   ·exact .inr (.inr ⟨q1, q2, q3⟩)
 have e2 : (c == 83 || (c == 43 || c == 45)) = hasZ [83, 43, 45] c := by
  rw [Bool.eq_iff_iff]
  simp only [Bool.or_eq_true, beq_iff_eq, hasZ_iff, List.mem_cons, List.not_mem_nil, or_false]
 unfold roP mk1
 rw [e, e2]
 cases hasZ [57, 89, 84, 73, 82] c <;> cases (hasZ [90, 42] c || (d != 0 && (c == d && (d != 0 && decide (d ∈ pre))))) <;> cases c == 86 <;> cases c == 36 <;> cases hasZ [83, 43, 45] c <;> rfl
theorem roles_marks {b : List Int} {d f : Int} (h : DrP b d f) : ∀ r pre : List Int, b = pre ++ r → (rolesP d f r pre.length).map rmk = mkGo d (d != 0 && decide (d ∈ pre)) r
 | [], _, _ => rfl
 | c :: r, pre, hb => by
  rw [rolesP, List.map_cons, mkGo, mk_ro h hb]
  congr 1
  have ih := roles_marks h r (pre ++ [c]) (by rw [hb]; simp)
  have e : ((pre ++ [c]).length : Int) = pre.length + 1 := by simp
  have e2 : (d != 0 && decide (d ∈ pre ++ [c])) = (d != 0 && decide (d ∈ pre) || (d != 0 && c == d)) := by
   rw [Bool.eq_iff_iff]
   simp only [Bool.or_eq_true, Bool.and_eq_true, beq_iff_eq, bne_iff_ne, decide_eq_true_eq, List.mem_append, List.mem_cons, List.not_mem_nil, or_false]
   constructor
   ·rintro ⟨q, q2 | q2⟩
    ·exact .inl ⟨q, q2⟩
    ·exact .inr ⟨q, q2.symm⟩
   ·rintro (⟨q, q2⟩ | ⟨q, q2⟩)
    ·exact ⟨q, .inl q2⟩
    ·exact ⟨q, .inr q2.symm⟩
  rw [e, e2] at ih
  exact ih
def okR (rs : List Int) : Prop := ∀ r ∈ rs, 0 ≤ r ∧ r ≤ 5
theorem roles_ok (d f : Int) : ∀ (l : List Int) (i : Int), okR (rolesP d f l i)
 | [], _ => fun r h => by cases h
 | c :: l, i => fun r h => by
  rw [rolesP] at h
  rcases List.mem_cons.1 h with rfl | h
  ·exact ro_rng _ _ _ _
  ·exact roles_ok d f l _ r h
theorem rmk_cases {r : Int} (h : 0 ≤ r ∧ r ≤ 5) : r = 0 ∨ r = 1 ∨ r = 2 ∨ r = 3 ∨ r = 4 ∨ r = 5 := by omega
def qgo : List Int → Int → Int
 | [], _ => 0
 | m :: r, p => bif m == 118 then qgo r (p + 1) else (bif isP m then p else 0) + qgo r p
theorem pl_ld : ∀ (rs : List Int) (a : PlS), okR rs → 0 ≤ a.pts → 0 ≤ a.fm →
  (plGo rs a).1 = (ldGo (rs.map rmk) (decide (a.fm > 0)) a.bh (decide (a.pts > 0)) a.dg).1 ∧
  ((plGo rs a).1 = true → (plGo rs a).2.dg = (ldGo (rs.map rmk) (decide (a.fm > 0)) a.bh (decide (a.pts > 0)) a.dg).2.2.2 ∧ (plGo rs a).2.bh = (ldGo (rs.map rmk) (decide (a.fm > 0)) a.bh (decide (a.pts > 0)) a.dg).2.2.1 ∧
   decide ((plGo rs a).2.fm > 0) = (ldGo (rs.map rmk) (decide (a.fm > 0)) a.bh (decide (a.pts > 0)) a.dg).2.1 ∧ (plGo rs a).2.pts = a.pts + cntZ (rs.map rmk) 118 ∧ (plGo rs a).2.w = a.w + nv (rs.map rmk) ∧
   (plGo rs a).2.q = a.q + qgo (rs.map rmk) a.pts ∧ (plGo rs a).2.fm = a.fm + cntZ (rs.map rmk) 100)
 | [], a, _, _, _ => by simp [plGo, ldGo, cntZ, nv, qgo]
 | r :: rs, a, hok, hp, hf => by
  have hr := hok r (List.mem_cons_self ..)
  have hrs : okR rs := fun x hx => hok x (List.mem_cons_of_mem _ hx)
  have i1 := pl_ld rs ⟨a.pts + 1, a.bh, a.w, a.dg, a.q, a.fm⟩ hrs (by simp only; omega) hf
  have i2 := pl_ld rs ⟨a.pts, a.bh, a.w + 1, a.dg + 1, a.q + a.pts, a.fm + 1⟩ hrs hp (by simp only; omega)
  have i3 := pl_ld rs ⟨a.pts, a.bh || decide (a.pts > 0), a.w + 1, a.dg + 1, a.q + a.pts, a.fm⟩ hrs hp hf
  have i4 := pl_ld rs ⟨a.pts, a.bh, a.w + 1, a.dg, a.q, a.fm⟩ hrs hp hf
  have cc : ∀ (m x : Int), (cntZ (m :: rs.map rmk) x : Int) = (if m = x then 1 else 0) + cntZ (rs.map rmk) x := fun m x => by
   unfold cntZ
   rw [List.filter_cons]
   by_cases h : m = x
   ·rw [if_pos (by simpa using h), if_pos h, List.length_cons]; omega
   ·rw [if_neg (by simpa using h), if_neg h]; omega
  have cn : ∀ m : Int, (nv (m :: rs.map rmk) : Int) = (if m = 118 then 0 else 1) + nv (rs.map rmk) := fun m => by
   rw [nv_cons]; split <;> omega
  rw [List.map_cons, cc, cc, cn]
  rcases rmk_cases hr with rfl | rfl | rfl | rfl | rfl | rfl
  ·have e : rmk 0 = 100 := rfl
   rw [e]
   simp only [decide_eq_true (show a.fm + 1 > 0 by omega)] at i2
   refine ⟨i2.1, fun h => ?_⟩
   obtain ⟨q1, q2, q3, q4, q5, q6, q7⟩ := i2.2 h
   refine ⟨q1, q2, q3, ?_, ?_, ?_, ?_⟩
   ·exact q4.trans (by simp)
   ·exact q5.trans (by simp; omega)
   ·refine q6.trans ?_
    show a.q + a.pts + qgo (rs.map rmk) a.pts = a.q + (a.pts + qgo (rs.map rmk) a.pts)
    omega
   ·exact q7.trans (by simp; omega)
  ·have e : rmk 1 = 99 := rfl
   rw [e]
   have e1 : plGo (1 :: rs) a = bif decide (a.fm > 0) then (false, a) else plGo rs ⟨a.pts, a.bh || decide (a.pts > 0), a.w + 1, a.dg + 1, a.q + a.pts, a.fm⟩ := rfl
   have e2 : ldGo (99 :: rs.map rmk) (decide (a.fm > 0)) a.bh (decide (a.pts > 0)) a.dg = bif decide (a.fm > 0) then (false, false, false, 0) else ldGo (rs.map rmk) (decide (a.fm > 0)) (a.bh || decide (a.pts > 0)) (decide (a.pts > 0)) (a.dg + 1) := rfl
   rw [e1, e2]
   cases hd : decide (a.fm > 0) with
   | true => exact ⟨rfl, fun h => by cases h⟩
   | false =>
    simp only [hd] at i3
    refine ⟨i3.1, fun h => ?_⟩
    obtain ⟨q1, q2, q3, q4, q5, q6, q7⟩ := i3.2 h
    refine ⟨q1, q2, q3, ?_, ?_, ?_, ?_⟩
    ·exact q4.trans (by simp)
    ·exact q5.trans (by simp; omega)
    ·refine q6.trans ?_
     show a.q + a.pts + qgo (rs.map rmk) a.pts = a.q + (a.pts + qgo (rs.map rmk) a.pts)
     omega
    ·exact q7.trans (by simp)
  ·have e : rmk 2 = 118 := rfl
   rw [e]
   simp only [decide_eq_true (show a.pts + 1 > 0 by omega)] at i1
   refine ⟨i1.1, fun h => ?_⟩
   obtain ⟨q1, q2, q3, q4, q5, q6, q7⟩ := i1.2 h
   refine ⟨q1, q2, q3, ?_, ?_, q6, ?_⟩
   ·exact q4.trans (by simp; omega)
   ·exact q5.trans (by simp)
   ·exact q7.trans (by simp)
  all_goals
   refine ⟨i4.1, fun h => ?_⟩
   obtain ⟨q1, q2, q3, q4, q5, q6, q7⟩ := i4.2 h
   refine ⟨q1, q2, q3, ?_, ?_, ?_, ?_⟩
   ·exact q4.trans (by simp [rmk])
   ·exact q5.trans (by simp [rmk]; omega)
   ·refine q6.trans ?_
    show a.q + qgo (rs.map rmk) a.pts = a.q + (0 + qgo (rs.map rmk) a.pts)
    omega
   ·exact q7.trans (by simp [rmk])
end Go.Px
end
section
namespace Go.Px
open Go Go.Ab Go.Proofs
theorem ro_isJ {b pre r : List Int} {c d f : Int} (h : DrP b d f) (hb : b = pre ++ c :: r) : (rmk (roP d f c pre.length) == 100 || (rmk (roP d f c pre.length) == 99 || c == d)) = (roP d f c pre.length == 0 || (roP d f c pre.length == 1 || (pre.length : Int) == f)) := by
 obtain ⟨h1, h2⟩ := h.eq hb
 have hr := ro_rng d f c pre.length
 have e100 : (rmk (roP d f c pre.length) == 100) = (roP d f c pre.length == 0) := by
  rcases rmk_cases hr with q | q | q | q | q | q <;> rw [q] <;> rfl
 have e99 : (rmk (roP d f c pre.length) == 99) = (roP d f c pre.length == 1) := by
  rcases rmk_cases hr with q | q | q | q | q | q <;> rw [q] <;> rfl
 rw [e100, e99]
 by_cases hf : (pre.length : Int) = f
 ·obtain ⟨q1, _⟩ := h2.1 hf
  have a1 : ((pre.length : Int) == f) = true := by simpa using hf
  have a2 : (c == d) = true := by simpa using q1
  rw [a1, a2]
 ·have a1 : ((pre.length : Int) == f) = false := by simpa using hf
  rw [a1]
  by_cases hc : c = d
  ·-- then a leader
   by_cases h0 : (roP d f c pre.length == 0) = true
   ·rw [h0]; rfl
   ·have hl : roP d f c pre.length = 1 := by
     have e : (c == 90 || (c == 42 || (c == d && (pre.length : Int) != f))) = true := by
      have a3 : ((pre.length : Int) != f) = true := by simpa using hf
      have a2 : (c == d) = true := by simpa using hc
      rw [a2, a3]; simp
     unfold roP at h0 ⊢
     rw [e] at h0 ⊢
     cases hq : hasZ [57, 89, 84, 73, 82] c with
     | true => rw [hq] at h0; exact absurd rfl h0
     | false => rfl
    rw [hl]; simp
  ·have a2 : (c == d) = false := by simpa using hc
   rw [a2]
theorem st_in {b : List Int} {d f x : Int} (h : DrP b d f) : ∀ (r pre : List Int) (lo hi : Int), b = pre ++ r →
  stIn d x r ((rolesP d f r pre.length).map rmk) pre.length (decide (lo < x)) (decide (hi > x)) = (decide (loGo f (rolesP d f r pre.length) pre.length lo < x), decide (hiGo f (rolesP d f r pre.length) pre.length hi > x))
 | [], pre, lo, hi, _ => by simp [stIn, rolesP, loGo, hiGo]
 | c :: r, pre, lo, hi, hb => by
  have ih := fun lo hi => st_in (x := x) h r (pre ++ [c]) lo hi (by rw [hb]; simp)
  have e : ((pre ++ [c]).length : Int) = pre.length + 1 := by simp
  rw [e] at ih
  rw [rolesP, List.map_cons, stIn, loGo, hiGo, ro_isJ h hb]
  cases (roP d f c pre.length == 0 || (roP d f c pre.length == 1 || (pre.length : Int) == f)) with
  | false => rw [cond_false, cond_false, cond_false, ih]
  | true =>
   rw [cond_true, cond_true, cond_true, ← ih]
   have e1 : (decide (lo < x) || decide ((pre.length : Int) < x)) = decide (imin lo pre.length < x) := by
    rw [Bool.eq_iff_iff]
    simp only [Bool.or_eq_true, decide_eq_true_eq]
    unfold imin
    split <;> omega
   have e2 : (decide (hi > x) || decide ((pre.length : Int) > x)) = decide (imax hi pre.length > x) := by
    rw [Bool.eq_iff_iff]
    simp only [Bool.or_eq_true, decide_eq_true_eq]
    unfold imax
    split <;> omega
   rw [e1, e2]
theorem ro_still {b pre r : List Int} {c d f : Int} (h : DrP b d f) (hb : b = pre ++ c :: r) : ((roP d f c pre.length == 4 || roP d f c pre.length == 5) && (pre.length : Int) != f) = (hasZ [36, 83, 43, 45] c && !(c == d)) := by
 obtain ⟨h1, h2⟩ := h.eq hb
 by_cases hc : c = d
 ·have a2 : (c == d) = true := by simpa using hc
  rw [a2, Bool.not_true, Bool.and_false]
  by_cases hf : (pre.length : Int) = f
  ·have a1 : ((pre.length : Int) != f) = false := by simpa using hf
   rw [a1, Bool.and_false]
  ·have a3 : ((pre.length : Int) != f) = true := by simpa using hf
   have e : (c == 90 || (c == 42 || (c == d && (pre.length : Int) != f))) = true := by rw [a2, a3]; simp
   unfold roP
   rw [e]
   cases hasZ [57, 89, 84, 73, 82] c <;> rfl
 ·have a2 : (c == d) = false := by simpa using hc
  have hf : ¬ (pre.length : Int) = f := fun q => hc (h2.1 q).1
  have a3 : ((pre.length : Int) != f) = true := by simpa using hf
  rw [a2, a3, Bool.and_true, Bool.not_false, Bool.and_true]
  have e : (c == 90 || (c == 42 || (c == d && (pre.length : Int) != f))) = (c == 90 || c == 42) := by rw [a2]; simp
  unfold roP
  rw [e]
  by_cases m : c ∈ [36, 83, 43, (45 : Int)]
  ·have : c = 36 ∨ c = 83 ∨ c = 43 ∨ c = 45 := by simpa using m
   rcases this with rfl | rfl | rfl | rfl <;> rfl
  ·have hm : hasZ [36, 83, 43, 45] c = false := by
    cases q : hasZ [36, 83, 43, 45] c with
    | false => rfl
    | true => exact absurd (hasZ_iff.1 q) m
   rw [hm]
   simp only [List.mem_cons, List.not_mem_nil, or_false, not_or] at m
   have b1 : (c == 36) = false := by simpa using m.1
   have b2 : (c == 83 || (c == 43 || c == 45)) = false := by simp [m.2.1, m.2.2.1, m.2.2.2]
   rw [b1, b2]
   cases hasZ [57, 89, 84, 73, 82] c <;> cases (c == 90 || c == 42) <;> cases c == 86 <;> rfl
theorem st_law {b ms : List Int} {d f lo hi : Int} (h : DrP b d f) (hin : ∀ x : Int, 0 ≤ x → x ≤ b.length → stIn d x b ms 0 false false = (decide (lo < x), decide (hi > x))) : ∀ (r pre : List Int), b = pre ++ r →
  stP f lo hi (rolesP d f r pre.length) pre.length = stGo d b ms r pre.length
 | [], _, _ => rfl
 | c :: r, pre, hb => by
  have ih := st_law h hin r (pre ++ [c]) (by rw [hb]; simp)
  have e : ((pre ++ [c]).length : Int) = pre.length + 1 := by simp
  rw [e] at ih
  have hl : (b.length : Int) = pre.length + 1 + r.length := by rw [hb]; simp; omega
  rw [rolesP, stP, stGo, ih, hin _ (by omega) (by omega)]
  congr 1
  have s := ro_still h hb
  have e3 : ((roP d f c pre.length == 4 || roP d f c pre.length == 5) && ((pre.length : Int) != f && (decide ((pre.length : Int) > lo) && decide ((pre.length : Int) < hi)))) = (((roP d f c pre.length == 4 || roP d f c pre.length == 5) && (pre.length : Int) != f) && (decide (lo < (pre.length : Int)) && decide (hi > (pre.length : Int)))) := by
   rw [Bool.and_assoc]
  rw [e3, s]
  cases hasZ [36, 83, 43, 45] c <;> cases (c == d) <;> rfl
theorem cnt_cons (c x : Int) (l : List Int) : (cntZ (c :: l) x : Int) = (if c = x then 1 else 0) + cntZ l x := by
 unfold cntZ
 rw [List.filter_cons]
 by_cases h : c = x
 ·rw [if_pos (by simpa using h), if_pos h, List.length_cons]; omega
 ·rw [if_neg (by simpa using h), if_neg h]; omega
theorem has_cons (c x : Int) (l : List Int) : hasZ (c :: l) x = (c == x || hasZ l x) := rfl
def sgX (d x : Int) (pre r : List Int) : Int := if x = d then (if d ∈ pre then 0 else b2i (hasZ r x)) else cntZ r x
theorem sgX_cons {d x c : Int} {pre r : List Int} : sgX d x pre (c :: r) = (if c = x ∧ ¬ (x = d ∧ d ∈ pre) then 1 else 0) + sgX d x (pre ++ [c]) r := by
 unfold sgX
 by_cases hx : x = d
 ·rw [if_pos hx, if_pos hx]
  by_cases hp : d ∈ pre
  ·have hp2 : d ∈ pre ++ [c] := List.mem_append.2 (.inl hp)
   rw [if_pos hp, if_pos hp2, if_neg (fun q => q.2 ⟨hx, hp⟩)]
   rfl
  ·rw [if_neg hp, has_cons]
   by_cases hc : c = x
   ·have hp2 : d ∈ pre ++ [c] := List.mem_append.2 (.inr (by rw [hc, hx]; exact List.mem_singleton.2 rfl))
    rw [if_pos ⟨hc, fun q => hp q.2⟩, if_pos hp2]
    have : (c == x) = true := by simpa using hc
    rw [this]
    rfl
   ·have : (c == x) = false := by simpa using hc
    have hp2 : d ∉ pre ++ [c] := fun q => by
     rcases List.mem_append.1 q with q | q
     ·exact hp q
     ·exact hc (by rw [hx]; exact (List.mem_singleton.1 q).symm)
    rw [if_neg (fun q => hc q.1), if_neg hp2, this, Bool.false_or]
    omega
 ·rw [if_neg hx, if_neg hx, cnt_cons]
  by_cases hc : c = x
  ·rw [if_pos hc, if_pos ⟨hc, fun q => hx q.1⟩]
  ·rw [if_neg hc, if_neg (fun q => hc q.1)]
theorem si_law {b : List Int} {d f : Int} (h : DrP b d f) : ∀ (r pre : List Int), b = pre ++ r →
  siGo r (rolesP d f r pre.length) = sgX d 83 pre r + sgX d 43 pre r + sgX d 45 pre r + cntZ r 84 + cntZ r 73 + cntZ r 82
 | [], pre, _ => by
  have : ∀ x, sgX d x pre [] = 0 := fun x => by unfold sgX; split <;> (try split) <;> rfl
  rw [this, this, this]
  rfl
 | c :: r, pre, hb => by
  have ih := si_law h r (pre ++ [c]) (by rw [hb]; simp)
  have e : ((pre ++ [c]).length : Int) = pre.length + 1 := by simp
  rw [e] at ih
  rw [rolesP, siGo, ih, sgX_cons, sgX_cons, sgX_cons, cnt_cons, cnt_cons, cnt_cons]
  have key : (bif roP d f c pre.length == 4 || hasZ [84, 73, 82] c then (1 : Int) else 0) = (if c = 83 ∧ ¬ ((83 : Int) = d ∧ d ∈ pre) then 1 else 0) + (if c = 43 ∧ ¬ ((43 : Int) = d ∧ d ∈ pre) then 1 else 0) + (if c = 45 ∧ ¬ ((45 : Int) = d ∧ d ∈ pre) then 1 else 0) + (if c = 84 then 1 else 0) + (if c = 73 then 1 else 0) + (if c = 82 then 1 else 0) := by
   obtain ⟨h1, h2⟩ := h.eq hb
   by_cases m : c = 83 ∨ c = 43 ∨ c = 45
   ·-- a sign
    have hc0 : c ≠ 0 := by omega
    have hl : (c = d ∧ (pre.length : Int) ≠ f) ↔ (c = d ∧ d ∈ pre) := by
     rw [h1]
     exact ⟨fun q => ⟨q.1, q.2.2⟩, fun q => ⟨q.1, by rw [← q.1]; exact hc0, q.2⟩⟩
    by_cases hs : c = d ∧ d ∈ pre
    ·have hq := hl.2 hs
     have e1 : (c == d && (pre.length : Int) != f) = true := by simpa using hq
     have hr : roP d f c pre.length = 1 := by
      unfold roP
      rw [e1]
      rcases m with rfl | rfl | rfl <;> simp <;> rfl
     rw [hr]
     rcases m with rfl | rfl | rfl
     ·rw [if_neg (fun q => q.2 hs)]; rfl
     ·rw [if_neg (fun q => by omega), if_neg (fun q => q.2 hs)]; rfl
     ·rw [if_neg (fun q => by omega), if_neg (fun q => by omega), if_neg (fun q => q.2 hs)]; rfl
    ·have hq : ¬ (c = d ∧ (pre.length : Int) ≠ f) := fun q => hs (hl.1 q)
     have e1 : (c == d && (pre.length : Int) != f) = false := by
      cases q : (c == d && (pre.length : Int) != f) with
      | false => rfl
      | true => exact absurd (by simpa using q) hq
     have hr : roP d f c pre.length = 4 := by
      unfold roP
      rw [e1]
      rcases m with rfl | rfl | rfl <;> rfl
     rw [hr]
     rcases m with rfl | rfl | rfl
     ·rw [if_pos ⟨rfl, hs⟩]; rfl
     ·rw [if_neg (fun q => by omega), if_pos ⟨rfl, hs⟩]; rfl
     ·rw [if_neg (fun q => by omega), if_neg (fun q => by omega), if_pos ⟨rfl, hs⟩]; rfl
   ·have hr : (roP d f c pre.length == 4) = false := by
     have e2 : (c == 83 || (c == 43 || c == 45)) = false := by simp; omega
     unfold roP
     rw [e2]
     cases hasZ [57, 89, 84, 73, 82] c <;> cases (c == 90 || (c == 42 || (c == d && (pre.length : Int) != f))) <;> cases c == 86 <;> cases c == 36 <;> rfl
    rw [hr, Bool.false_or, if_neg (fun q => by omega), if_neg (fun q => by omega), if_neg (fun q => by omega)]
    by_cases k : c = 84 ∨ c = 73 ∨ c = 82
    ·rcases k with rfl | rfl | rfl <;> rfl
    ·have : hasZ [84, 73, 82] c = false := by
      cases q : hasZ [84, 73, 82] c with
      | false => rfl
      | true => rw [hasZ_iff] at q; simp at q; omega
     rw [this, if_neg (by omega), if_neg (by omega), if_neg (by omega)]
     rfl
  rw [key]
  omega
end Go.Px
end
section
namespace Go.Px
open Go Go.Ab Go.Proofs
theorem cnt_app' (a b : List Int) (c : Int) : (cntZ (a ++ b) c : Int) = cntZ a c + cntZ b c := by rw [cnt_app]; omega
theorem mk_118 {dr : Int} (hd : dr = 0 ∨ hasZ [36, 83, 43, 45] dr = true) : ∀ (l : List Int) (seen : Bool), (cntZ (mkGo dr seen l) 118 : Int) = cntZ l 86
 | [], _ => rfl
 | c :: r, seen => by
  have hm := mk1_pt hd seen c
  rw [mkGo, cnt_cons, cnt_cons, mk_118 hd r]
  by_cases h : c = 86
  ·rw [if_pos h, if_pos (hm.2 h)]
  ·rw [if_neg h, if_neg fun e => h (hm.1 e)]
theorem has_cnt {l : List Int} {c : Int} (h : (cntZ l c : Int) ≤ 1) : (cntZ l c : Int) = b2i (hasZ l c) := by
 induction l with
 | nil => rfl
 | cons x l ih =>
  rw [cnt_cons] at h ⊢
  rw [has_cons]
  by_cases hx : x = c
  ·have : (x == c) = true := by simpa using hx
   rw [if_pos hx] at h ⊢
   rw [this, Bool.true_or]
   have : (cntZ l c : Int) = 0 := by omega
   rw [this]
   rfl
  ·have : (x == c) = false := by simpa using hx
   rw [if_neg hx] at h ⊢
   rw [this, Bool.false_or, Int.zero_add]
   exact ih (by omega)
theorem q_law {dr : Int} (hd : dr = 0 ∨ hasZ [36, 83, 43, 45] dr = true) {l t : List Int} : ∀ (r pre : List Int) (seen : Bool), l = pre ++ r ++ t → (cntZ (pre ++ r) 86 : Int) ≤ 1 →
  qgo (mkGo dr seen r) (cntZ pre 86) = pqGo l (mkGo dr seen r) pre.length
 | [], _, _, _, _ => rfl
 | c :: r, pre, seen, hl, hc => by
  have ih := q_law hd (l := l) (t := t) r (pre ++ [c]) (seen || (dr != 0 && c == dr)) (by rw [hl]; simp) (by simpa using hc)
  have hm := mk1_pt hd seen c
  have e : ((pre ++ [c]).length : Int) = pre.length + 1 := by simp
  have hk : (cntZ pre 86 : Int) ≤ 1 := by
   rw [cnt_app'] at hc
   omega
  have ht : l.take (pre.length : Int).toNat = pre := by
   rw [hl, Int.toNat_natCast, List.append_assoc]
   simp
  rw [cnt_app', e] at ih
  have e1 : (cntZ [c] 86 : Int) = if c = 86 then 1 else 0 := by
   have := cnt_cons c 86 []
   rw [this]
   have : (cntZ [] 86 : Int) = 0 := rfl
   omega
  rw [e1] at ih
  rw [mkGo, qgo, pqGo, ht, ← ih]
  by_cases h : c = 86
  ·have hm2 := hm.2 h
   rw [hm2]
   have : isP 118 = false := rfl
   rw [this, if_pos h]
   show qgo _ _ = 0 + qgo _ _
   rw [Int.zero_add]
  ·have hn : (mk1 dr seen c == 118) = false := by
    cases q : (mk1 dr seen c == 118) with
    | false => rfl
    | true => exact absurd (hm.1 (eq_of_beq q)) h
   rw [hn, cond_false, if_neg h, Int.add_zero, has_cnt hk]
   cases isP (mk1 dr seen c) <;> cases hasZ pre 86 <;> rfl
theorem pq_app (s : List Int) : ∀ (a b : List Int) (i : Int), pqGo s (a ++ b) i = pqGo s a i + pqGo s b (i + a.length)
 | [], b, i => by simp [pqGo]
 | m :: a, b, i => by
  rw [List.cons_append, pqGo, pqGo, pq_app s a b, List.length_cons]
  have : i + 1 + (a.length : Int) = i + ((a.length + 1 : Nat) : Int) := by omega
  rw [this]
  omega
theorem char_any {l : List Int} (h : (bodyZ l).any (hasZ [65, 88, 67, 68]) = false) : charZ l = false := by
 cases hc : charZ l with
 | false => rfl
 | true =>
  exfalso
  simp only [charZ, Bool.and_eq_true, List.all_eq_true, Bool.or_eq_true] at hc
  obtain ⟨h1, h2⟩ := hc
  have hcr : crZ l = false := by
   cases q : crZ l with
   | false => rfl
   | true =>
    exfalso
    simp only [crZ, Bool.and_eq_true, Bool.or_eq_true, decide_eq_true_eq] at q
    rcases q.2 with q | q
    ·have hm : (67 : Int) ∈ l.drop (l.length - 2) := by rw [q]; simp
     exact absurd (h1 _ (List.mem_of_mem_drop hm)) (by decide)
    ·have hm : (68 : Int) ∈ l.drop (l.length - 2) := by rw [q]; simp
     exact absurd (h1 _ (List.mem_of_mem_drop hm)) (by decide)
  have hb : bodyZ l = l := by rw [body_at hcr]; rfl
  rw [hb, List.any_eq_false] at h
  rcases h2 with q | q
  ·exact h 65 (hasZ_iff.1 q) (by decide)
  ·exact h 88 (hasZ_iff.1 q) (by decide)
structure NumL (l : List Int) : Prop where
 drP : DrP (bodyZ l) (drZ (bodyZ l)) (nD (bodyZ l)).2.2
 d : (nD (bodyZ l)).2.1 = drZ (bodyZ l)
 roles : (nR (bodyZ l)).map rmk = mkGo (drZ (bodyZ l)) false (bodyZ l)
 ok : okR (nR (bodyZ l))
 w : (nP (bodyZ l)).2.w + (bif crZ l then 2 else 0) = l.length - cntZ l 86
 dg : (nP (bodyZ l)).2.dg = pdGo (marksZ l)
 q : (nP (bodyZ l)).2.q = pqGo l (marksZ l) 0
 g : nG (bodyZ l) (crZ l) = signsZ l
 fm : (nP (bodyZ l)).2.fm = cntZ (mkGo (drZ (bodyZ l)) false (bodyZ l)) 100
theorem num_law {l : List Int} (hz : ∀ c ∈ bodyZ l, c ≠ 0) : numQ (bodyZ l) (crZ l) = numV l ∧ (numV l = true → NumL l) := by
 cases hA : anyZ (bodyZ l) [65, 88, 67, 68] with
 | true =>
  have hA' : (bodyZ l).any (hasZ [65, 88, 67, 68]) = true := hA
  have e1 : numQ (bodyZ l) (crZ l) = false := by rw [numQ, hA]; rfl
  have e2 : numV l = false := by rw [numV, hA']; cases charZ l <;> rfl
  rw [e1, e2]
  exact ⟨rfl, fun h => by cases h⟩
 | false =>
  have hA' : (bodyZ l).any (hasZ [65, 88, 67, 68]) = false := hA
  have hch := char_any hA'
  obtain ⟨d1, d2⟩ := nD_law (bodyZ l)
  cases hD : driftsZ (bodyZ l) with
  | false =>
   have e1 : numQ (bodyZ l) (crZ l) = false := by rw [numQ, d1, hD]; simp
   have e2 : numV l = false := by rw [numV, hD]; simp
   rw [e1, e2]
   exact ⟨rfl, fun h => by cases h⟩
  | true =>
   obtain ⟨d2, d3⟩ := d2 hD
   have hP : DrP (bodyZ l) (drZ (bodyZ l)) (nD (bodyZ l)).2.2 := by
    refine ⟨hz, ?_⟩
    by_cases h0 : drZ (bodyZ l) = 0
    ·rw [if_pos h0] at d3
     exact .inl ⟨h0, d3⟩
    ·rw [if_neg h0] at d3
     obtain ⟨f1, f2⟩ := (drGo_spec (bodyZ l) (bodyZ l)).resolve_left h0
     exact .inr ⟨h0, f2, d3, (flg_mem f1).1⟩
   have hd : drZ (bodyZ l) = 0 ∨ hasZ [36, 83, 43, 45] (drZ (bodyZ l)) = true := (dr_sign _ _).imp id And.left
   have eR : nR (bodyZ l) = rolesP (drZ (bodyZ l)) (nD (bodyZ l)).2.2 (bodyZ l) 0 := by rw [nR, d2]
   have hroles : (nR (bodyZ l)).map rmk = mkGo (drZ (bodyZ l)) false (bodyZ l) := by
    have := roles_marks hP (bodyZ l) [] rfl
    rw [eR]
    simpa using this
   have hok : okR (nR (bodyZ l)) := by rw [eR]; exact roles_ok _ _ _ _
   obtain ⟨p1, p2⟩ := pl_ld (nR (bodyZ l)) ⟨0, false, 0, 0, 0, 0⟩ hok (by simp only; omega) (by simp only; omega)
   simp only [hroles] at p1 p2
   have z0 : decide ((0 : Int) > 0) = false := rfl
   rw [z0] at p1 p2
   rw [mk_118 hd] at p2
   have p1 : (nP (bodyZ l)).1 = (ldGo (mkGo (drZ (bodyZ l)) false (bodyZ l)) false false false 0).1 := p1
   have eSt : nSt (bodyZ l) = (hasZ (bodyZ l) 90 && hasZ (bodyZ l) 42 || (hasZ (bodyZ l) 90 || hasZ (bodyZ l) 42) && drZ (bodyZ l) != 0) := by
    rw [nSt, d2]
    cases hasZ (bodyZ l) 42 <;> cases hasZ (bodyZ l) 90 <;> rfl
   have eS : nS (bodyZ l) = statsZ (bodyZ l) (mkGo (drZ (bodyZ l)) false (bodyZ l)) := by
    have hin : ∀ x : Int, 0 ≤ x → x ≤ (bodyZ l).length → stIn (drZ (bodyZ l)) x (bodyZ l) (mkGo (drZ (bodyZ l)) false (bodyZ l)) 0 false false =
      (decide (loGo (nD (bodyZ l)).2.2 (nR (bodyZ l)) 0 (bodyZ l).length < x), decide (hiGo (nD (bodyZ l)).2.2 (nR (bodyZ l)) 0 (-1) > x)) := fun x h0 h1 => by
     have := st_in (x := x) hP (bodyZ l) [] (bodyZ l).length (-1) rfl
     rw [decide_eq_false (show ¬ ((bodyZ l).length : Int) < x by omega), decide_eq_false (show ¬ (-1 : Int) > x by omega)] at this
     rw [← hroles, eR]
     exact this
    rw [nS, statsZ]
    have := st_law hP hin (bodyZ l) [] rfl
    rw [eR]
    rw [eR] at this
    exact this
   have eG : nG (bodyZ l) (crZ l) = signsZ l := by
    have hs := si_law hP (bodyZ l) [] rfl
    have one : ∀ x ∈ [36, 83, 43, (45 : Int)], x ≠ drZ (bodyZ l) → (cntZ (bodyZ l) x : Int) ≤ 1 := fun x hx hne => by
     cases hq : decide ((cntZ (bodyZ l) x : Int) < 2) with
     | true => have := of_decide_eq_true hq; omega
     | false =>
      have hf := (flg_iff hx).2 (of_decide_eq_false hq)
      have hm := cnt_mem (flg_mem hf).2
      have h0 : drZ (bodyZ l) ≠ 0 := drGo_ne (bodyZ l) hf (bodyZ l) hm
      have h0' : (drZ (bodyZ l) == 0) = false := by simpa using h0
      rw [driftsZ, h0', Bool.false_or, Bool.and_eq_true, df1_all, List.all_eq_true] at hD
      have := hD.1 x hm
      rw [hf] at this
      simp only [Bool.not_true, Bool.or_false, beq_iff_eq] at this
      exact absurd this hne
    have sx : ∀ x ∈ [36, 83, 43, (45 : Int)], sgX (drZ (bodyZ l)) x [] (bodyZ l) = b2i (hasZ (bodyZ l) x) := fun x hx => by
     unfold sgX
     split
     ·simp
     ·rename_i hne
      exact has_cnt (one x hx hne)
    rw [sx 83 (by simp), sx 43 (by simp), sx 45 (by simp)] at hs
    rw [nG, signsZ, eR]
    have hs' : siGo (bodyZ l) (rolesP (drZ (bodyZ l)) (nD (bodyZ l)).2.2 (bodyZ l) 0) = _ := hs
    rw [hs']
    cases crZ l <;> simp [b2i] <;> omega
   have eQ : numQ (bodyZ l) (crZ l) = numV l := by
    rw [numQ, numV, hA, hA', hch, d1, hD, eG, eS, eSt, marks_body hA', leadsZ, nPok, p1]
    cases hl : (ldGo (mkGo (drZ (bodyZ l)) false (bodyZ l)) false false false 0).1 with
    | false => cases hasZ (bodyZ l) 90 <;> cases hasZ (bodyZ l) 42 <;> cases drZ (bodyZ l) != 0 <;> simp
    | true =>
     obtain ⟨g1, g2, g3, g4, g5, g6, g7⟩ := p2 (p1.trans hl)
     have g1 : (nP (bodyZ l)).2.dg = _ := g1
     have g2 : (nP (bodyZ l)).2.bh = _ := g2
     have g3 : decide ((nP (bodyZ l)).2.fm > 0) = _ := g3
     have g4 : (nP (bodyZ l)).2.pts = _ := g4
     rw [g1, g2, g3, g4]
     simp only [Int.zero_add]
     generalize (ldGo (mkGo (drZ (bodyZ l)) false (bodyZ l)) false false false 0).2.2.2 = dg
     generalize (ldGo (mkGo (drZ (bodyZ l)) false (bodyZ l)) false false false 0).2.2.1 = bh
     generalize (ldGo (mkGo (drZ (bodyZ l)) false (bodyZ l)) false false false 0).2.1 = fm
     cases hasZ (bodyZ l) 90 <;> cases hasZ (bodyZ l) 42 <;> cases drZ (bodyZ l) != 0 <;> cases decide ((cntZ (bodyZ l) 86 : Int) ≤ 1) <;> cases decide (dg ≥ 1) <;> cases decide (dg ≤ 9) <;> cases bh <;> cases fm <;> cases decide (signsZ l ≤ 1) <;> cases statsZ (bodyZ l) (mkGo (drZ (bodyZ l)) false (bodyZ l)) <;> rfl
   refine ⟨eQ, fun hV => ?_⟩
   have hN := numV_iff.1 hV
   have hl : (ldGo (mkGo (drZ (bodyZ l)) false (bodyZ l)) false false false 0).1 = true := by
    have := hN.ld
    unfold leadsZ at this
    cases h1 : (hasZ (bodyZ l) 90 && hasZ (bodyZ l) 42) with
    | true => rw [h1] at this; cases this
    | false =>
     rw [h1, cond_false] at this
     cases h2 : ((hasZ (bodyZ l) 90 || hasZ (bodyZ l) 42) && drZ (bodyZ l) != 0) with
     | true => rw [h2] at this; cases this
     | false =>
      rw [h2, cond_false] at this
      simp only [Bool.and_eq_true] at this
      exact this.1
   obtain ⟨g1, g2, g3, g4, g5, g6, g7⟩ := p2 (p1.trans hl)
   simp only [Int.zero_add] at g5 g6 g7
   have eM : marksZ l = mkGo (drZ (bodyZ l)) false (bodyZ l) ++ (if crZ l = true then [115, 115] else []) := rfl
   refine ⟨hP, d2, hroles, hok, ?_, ?_, ?_, eG, g7⟩
   ·have := marks_nv l
    rw [eM, nv_app] at this
    have h5 : (nP (bodyZ l)).2.w = _ := g5
    rw [h5]
    cases hc : crZ l with
    | false => rw [hc] at this; have e0 : nv (if (false : Bool) = true then [115, 115] else []) = 0 := rfl; rw [e0] at this; simp only [cond_false]; omega
    | true => rw [hc] at this; have e0 : nv (if (true : Bool) = true then [115, 115] else []) = 2 := rfl; rw [e0] at this; simp only [cond_true]; omega
   ·have h1 : (nP (bodyZ l)).2.dg = _ := g1
    rw [h1, ld_cnt _ _ _ _ _ hl, eM, pd_app]
    cases crZ l <;> simp [pdGo, isP]
   ·have h6 : (nP (bodyZ l)).2.q = _ := g6
    rw [h6, eM, pq_app]
    obtain ⟨t, h, ht⟩ := body_app l
    have := q_law hd (l := l) (t := t) (bodyZ l) [] false (by simpa using h) (by simpa using hN.one)
    have e0 : ((cntZ [] 86 : Nat) : Int) = 0 := rfl
    rw [e0] at this
    have e1 : (([] : List Int).length : Int) = 0 := rfl
    rw [e1] at this
    rw [this]
    cases crZ l with
    | false => simp [pqGo]
    | true => simp [pqGo, isP]
end Go.Px
end
noncomputable section
namespace Go.Px
open Go Go.Ab Go.Proofs Go.Shelf
section
variable {P : Program} {G : Env} {L : Nat → Option LoopH} {f : FuncId} {fn : Func}
theorem gen_newR {h : List Value → Lk → Nat → (Value → Lk → Nat → Prop) → Prop} (hG : EnvOK P G) (hm : P.follows .mixedOrders = true) (hf : Fn1 P f fn) (hL : LOKf P L fn)
  (H : ∀ args m n K, h args m n K → ∃ (args' : List Value) (m0 : Lk) (n0 : Nat) (ρ : Nat → Nat) (R : Value → List (Option Blk) → Prop), SubM m ρ m0 n0 ∧ (∀ ι : Nm, args'.map (ren fun j => ι (ρ j)) = args.map (ren ι)) ∧ args'.length ≤ fn.ntmps ∧ (∀ v ∈ args', ∀ j ∈ ids v, j < n0) ∧
   DoesM P G L fn args' m0 n0 (fun v' m' _ => R v' (look m' v')) ∧
   ∀ v' m', R v' (look m' v') → ∃ v mm nn σ, ((∀ k b, m k = some b → k < n) → NewM m n m' mm nn σ) ∧ (∀ i ∈ ids v, n ≤ i ∧ i < nn) ∧ (∀ ι' ι'' : Nm, (∀ i, n ≤ i → ι'' i = ι' (σ i)) → ren ι'' v = ren ι' v') ∧ K v mm nn) : GenOK P f h := by
 obtain ⟨h1, h2, h3, h4⟩ := hf
 cases hb : fn.body with
 | none => rw [hb] at h2; cases h2
 | some c =>
  simp only [hb] at h4
  simp only [LOKf, hb] at hL
  refine ⟨⟨fn, h1, h3, by rw [hb]; rfl⟩, fun args m n K hh N w0 ι w hrel hwf hargs => ?_⟩
  obtain ⟨args', m0, n0, ρ, R, hs, ha, hlen, hids, hd, hR⟩ := H _ _ _ _ hh
  rw [DoesM] at hd
  rw [← ha ι]
  refine (bodyQ_sound (N := w.heap.size) (w0 := w) (ι := fun j => ι (ρ j)) hG hm h1 hb h4 hL hlen hd (hs.rel hrel) hs.lt hids).mono fun e w' ⟨v', m', n', ι', he, hv', _, _, hm', _, _⟩ => ?_
  obtain ⟨v, mm, nn, σ, hn, hvi, hvr, hk⟩ := hR v' m' hv'
  have hn := hn fun k b hk => (hwf k b hk).1
  obtain ⟨q1, q2⟩ := hn.rel hrel hwf hm'
  refine ⟨v, mm, nn, _, ?_, hk, hn.le, fun k hk => nmJ_old hk, q1, q2, fun j hj => (hvi j hj).2⟩
  rw [he, hvr ι' _ fun i hi => nmJ_new hi]
end
theorem sub_none (m : Lk) (ρ : Nat → Nat) (n : Nat) : SubM m ρ (fun _ => none) n := ⟨fun _ _ h => (by cases h), fun _ _ h => (by cases h)⟩
theorem new_none {m : Lk} {n : Nat} (hwf : ∀ k b, m k = some b → k < n) (m' : Lk) (σ : Nat → Nat) : NewM m n m' m n σ :=
 ⟨Nat.le_refl _, fun _ _ => rfl, fun j b h hj => by have := hwf j b hj; omega, fun j j' b b' h _ hj => by have := hwf j b hj; omega⟩
theorem new_one {m : Lk} {n : Nat} (hwf : ∀ k b, m k = some b → k < n) {m' : Lk} {a : Nat} {c : List Value} {ty : TypeId} (ha : m' a = some ⟨c, ty, true⟩) (hc : plainL c = true) (hit : Nat.ble itTy ty = false) :
  NewM m n m' (m.upd n ⟨c, ty, true⟩) (n + 1) (fun _ => a) := by
 have hget : ∀ j b, n ≤ j → m.upd n ⟨c, ty, true⟩ j = some b → j = n ∧ b = ⟨c, ty, true⟩ := fun j b hj h => by
  by_cases e : j = n
  ·subst e
   rw [Lk.upd_same] at h
   cases h
   exact ⟨rfl, rfl⟩
  ·rw [Lk.upd_other _ _ e] at h
   have := hwf j b h
   omega
 refine ⟨by omega, fun j hj => Lk.upd_other _ _ (by omega), fun j b hj h => ?_, fun j j' b b' hj hj' h h' hne => ?_⟩
 ·obtain ⟨rfl, rfl⟩ := hget j b hj h
  exact ⟨by omega, fun i hi => (by rw [ids_plainL hc] at hi; cases hi), rfl, hit, ⟨c, ty, true⟩, ha, rfl, rfl, fun ι' ι'' _ => renMap_congr fun k hk => by rw [ids_plainL hc] at hk; cases hk⟩
 ·have e1 := (hget j b hj h).1
  have e2 := (hget j' b' hj' h').1
  omega
theorem new_form {m : Lk} {n : Nat} (hwf : ∀ k b, m k = some b → k < n) {m' : Lk} {a x k cap : Nat} {A B d : List Value} {ty ty2 : TypeId} (ha : m' a = some ⟨A ++ .slice (some ⟨x, 0, some 1⟩) k cap :: B, ty, true⟩)
  (hx : m' x = some ⟨d, ty2, true⟩) (hA : plainL A = true) (hB : plainL B = true) (hd : plainL d = true) (hit : Nat.ble itTy ty = false) (hit2 : Nat.ble itTy ty2 = false) (hne : a ≠ x) :
  NewM m n m' ((m.upd n ⟨A ++ .slice (some ⟨n + 1, 0, some 1⟩) k cap :: B, ty, true⟩).upd (n + 1) ⟨d, ty2, true⟩) (n + 2) (fun j => if j = n then a else x) := by
 have hget : ∀ j b, n ≤ j → ((m.upd n ⟨A ++ .slice (some ⟨n + 1, 0, some 1⟩) k cap :: B, ty, true⟩).upd (n + 1) ⟨d, ty2, true⟩) j = some b →
   (j = n ∧ b = ⟨A ++ .slice (some ⟨n + 1, 0, some 1⟩) k cap :: B, ty, true⟩) ∨ (j = n + 1 ∧ b = ⟨d, ty2, true⟩) := fun j b hj h => by
  by_cases e : j = n + 1
  ·subst e
   rw [Lk.upd_same] at h
   cases h
   exact .inr ⟨rfl, rfl⟩
  ·rw [Lk.upd_other _ _ e] at h
   by_cases e2 : j = n
   ·subst e2
    rw [Lk.upd_same] at h
    cases h
    exact .inl ⟨rfl, rfl⟩
   ·rw [Lk.upd_other _ _ e2] at h
    have := hwf j b h
    omega
 have hids : ∀ y i, i ∈ idsL (A ++ Value.slice (some ⟨y, 0, some 1⟩) k cap :: B) → i = y := fun y i hi => by
  obtain ⟨v, hv, hi⟩ := mem_idsL.1 hi
  rcases List.mem_append.1 hv with hv | hv
  ·rw [ids_plain (plainL_iff.1 hA v hv)] at hi; cases hi
  ·rcases List.mem_cons.1 hv with rfl | hv
   ·simpa [ids] using hi
   ·rw [ids_plain (plainL_iff.1 hB v hv)] at hi; cases hi
 refine ⟨by omega, fun j hj => by rw [Lk.upd_other _ _ (by omega), Lk.upd_other _ _ (by omega)], fun j b hj h => ?_, fun j j' b b' hj hj' h h' hn => ?_⟩
 ·rcases hget j b hj h with ⟨rfl, rfl⟩ | ⟨rfl, rfl⟩
  ·refine ⟨by omega, fun i hi => by have := hids _ i hi; omega, rfl, hit, ⟨A ++ .slice (some ⟨x, 0, some 1⟩) k cap :: B, ty, true⟩, by rw [if_pos rfl]; exact ha, rfl, rfl, fun ι' ι'' hι => ?_⟩
   rw [List.map_append, List.map_append, List.map_cons, List.map_cons]
   have e1 : A.map (ren ι'') = A.map (ren ι') := renMap_congr fun k hk => by rw [ids_plainL hA] at hk; cases hk
   have e2 : B.map (ren ι'') = B.map (ren ι') := renMap_congr fun k hk => by rw [ids_plainL hB] at hk; cases hk
   have e3 : ι'' (j + 1) = ι' x := by rw [hι (j + 1) (by omega), if_neg (by omega)]
   rw [e1, e2]
   simp [ren, ren1, e3]
  ·refine ⟨by omega, fun i hi => (by rw [ids_plainL hd] at hi; cases hi), rfl, hit2, ⟨d, ty2, true⟩, (by rw [if_neg (by omega)]; exact hx), rfl, rfl, fun ι' ι'' _ => renMap_congr fun k hk => by rw [ids_plainL hd] at hk; cases hk⟩
 ·rcases hget j b hj h with ⟨rfl, rfl⟩ | ⟨rfl, rfl⟩ <;> rcases hget j' b' hj' h' with ⟨rfl, rfl⟩ | ⟨rfl, rfl⟩
  ·exact absurd rfl hn
  ·rw [if_pos rfl, if_neg (by omega)]; exact hne
  ·rw [if_neg (by omega), if_pos rfl]; exact hne.symm
  ·exact absurd rfl hn
theorem look_form {m : Lk} {a x k cap : Nat} {c d : List Value} {ty ty2 : TypeId} (hc : c[6]? = some (.slice (some ⟨x, 0, some 1⟩) k cap))
  (h : look m (.tuple ⟨[.pointer (some ⟨a, 0, some 0⟩), .bool true]⟩) = [some ⟨c, ty, true⟩, some ⟨d, ty2, true⟩]) : m a = some ⟨c, ty, true⟩ ∧ m x = some ⟨d, ty2, true⟩ := by
 simp only [look] at h
 cases ha : m a with
 | none => rw [ha] at h; cases h
 | some b =>
  rw [ha] at h
  simp only at h
  split at h
  ·rename_i a' l' c' hc'
   simp only [List.cons.injEq, and_true] at h
   obtain ⟨h1, h2⟩ := h
   cases h1
   rw [hc] at hc'
   cases hc'
   exact ⟨rfl, h2⟩
  ·cases h
def frm (l : List Int) (x k cap : Nat) : List Value := [.string (sz l), .bool true, .int .i64 (l.length - cntZ l 86), .int .i64 (pdGo (marksZ l)), .int .i64 (pqGo l (marksZ l) 0), .bool (signsZ l == 1)] ++
 .slice (some ⟨x, 0, some 1⟩) k cap :: [.int .u8 (drZ (bodyZ l)), .int .i64 (nD (bodyZ l)).2.2, .bool (crZ l), .int .u8 (fdFl l), .int .i64 (cntZ (mkGo (drZ (bodyZ l)) false (bodyZ l)) 100)]
def rolF (l : List Int) : List Int := nR (bodyZ l) ++ (bif crZ l then [4, 4] else [])
def allK (l : List Int) : Bool := l.all (hasZ kL)
theorem allK_spec {l : List Int} (h : allK l = true) : asc l = true ∧ ∀ c ∈ l, c ≠ 0 := by
 simp only [allK, List.all_eq_true] at h
 refine ⟨?_, fun c hc => ?_⟩
 ·simp only [asc, List.all_eq_true, decide_eq_true_eq]
  exact fun c hc => (kL_lt (h c hc)).2
 ·rintro rfl
  exact absurd (h 0 hc) (by decide)
theorem body_sub {l : List Int} {c : Int} (h : c ∈ bodyZ l) : c ∈ l := by
 unfold bodyZ at h
 split at h
 ·exact List.mem_of_mem_take h
 ·exact h
theorem star_body (l : List Int) : hasZ (bodyZ l) 42 = hasZ l 42 := by
 obtain ⟨t, h, ht⟩ := body_app l
 have e : hasZ l 42 = (hasZ (bodyZ l) 42 || hasZ t 42) := by
  conv => lhs; rw [h]
  simp [hasZ]
 rw [e]
 rcases ht with ⟨rfl, _⟩ | ⟨rfl | rfl, _⟩
 ·simp [hasZ]
 ·have : hasZ [67, 82] 42 = false := by decide
  rw [this, Bool.or_false]
 ·have : hasZ [68, 66] 42 = false := by decide
  rw [this, Bool.or_false]
theorem form_frm {s : ByteArray} (h : NumL (bz s)) (x k cap : Nat) : formC s (crZ (bz s)) x k cap = frm (bz s) x k cap := by
 have e : (bif hasZ (bodyZ (bz s)) 42 then (42 : Int) else 32) = fdFl (bz s) := by
  rw [star_body, fdFl]
  cases hasZ (bz s) 42 <;> rfl
 rw [formC, h.w, h.dg, h.q, h.g, h.d, h.fm, e, frm, sz_bz]
 rfl
def h103 : List Value → Lk → Nat → (Value → Lk → Nat → Prop) → Prop := fun args m n K => match args with
 | [.string s] => match cnd (decide (s.size ≤ 32) && allK (bz s)) with
  | true => bif numV (bz s) then ∀ (k cap : Nat) (d : List Value), rowIOK d k cap = true → zc d k = rolF (bz s) → K (.tuple ⟨[.pointer (some ⟨n, 0, some 0⟩), .bool true]⟩) ((m.upd n ⟨frm (bz s) (n + 1) k cap, 156, true⟩).upd (n + 1) ⟨d, 251, true⟩) (n + 2)
   else K (.tuple ⟨[.pointer none, .bool false]⟩) m n
  | false => False
 | _ => False
def R103 (s : ByteArray) (v : Value) (bs : List (Option Blk)) : Prop := (numV (bz s) = false ∧ v = .tuple ⟨[.pointer none, .bool false]⟩) ∨ (numV (bz s) = true ∧ v = .tuple ⟨[.pointer (some ⟨3, 0, some 0⟩), .bool true]⟩ ∧ ∃ x k cap d, RowI d k cap ∧ zc d k = rolF (bz s) ∧ bs = [some ⟨frm (bz s) x k cap, 156, true⟩, some ⟨d, 251, true⟩])
theorem w103' (s : ByteArray) (hs : s.size ≤ 32) (hk : allK (bz s) = true) : DoesM Tryz.prog G25 noL Tryz.f204 [.string s] (fun _ => none) 0 (fun v m _ => R103 s v (look m v)) := by
 obtain ⟨ha, h0⟩ := allK_spec hk
 obtain ⟨q1, q2⟩ := num_law (l := bz s) fun c hm => h0 c (body_sub hm)
 have A1 : numQ (bodyZ (bz s)) (crZ (bz s)) = false → R103 s (.tuple ⟨[.pointer none, .bool false]⟩) [] := fun hn => .inl ⟨by rw [← q1]; exact hn, rfl⟩
 have A2 : numQ (bodyZ (bz s)) (crZ (bz s)) = true → ∀ (x m cap : Nat) (d : List Value), RowI d m cap → zc d m = nRoles s (crZ (bz s)) →
   R103 s (.tuple ⟨[.pointer (some ⟨3, 0, some 0⟩), .bool true]⟩) [some ⟨formC s (crZ (bz s)) x m cap, 156, true⟩, some ⟨d, 251, true⟩] := fun hy x k cap d r1 r2 => by
  rw [q1] at hy
  rw [form_frm (q2 hy)]
  exact .inr ⟨hy, rfl, x, k, cap, d, r1, r2, rfl⟩
 exact w103 s hs ha (R103 s) A1 A2
theorem fn103 : Fn1 Tryz.prog 204 Tryz.f204 := ⟨Tryz.func204, by kernel_rfl, by kernel_rfl, by kernel_rfl⟩
theorem h103_ok : GenOK Tryz.prog 204 h103 := by
 refine gen_newR ok_G25 hmix fn103 lokf_none fun args m n K h => ?_
 unfold h103 at h
 split at h
 case h_2 => exact h.elim
 rename_i s
 split at h
 case h_2 => exact h.elim
 rename_i hc
 simp only [cnd, Bool.and_eq_true, decide_eq_true_eq] at hc
 refine ⟨[.string s], fun _ => none, 0, id, R103 s, sub_none _ _ _, fun ι => by simp [ren], Nat.le_of_ble_eq_true (by kernel_rfl), fun v hv j hj => ?_, w103' s hc.1 hc.2, fun v' m' hR => ?_⟩
 ·simp at hv; subst hv; simp [ids] at hj
 ·rcases hR with ⟨hv, rfl⟩ | ⟨hv, rfl, x, k, cap, d, r1, r2, hbs⟩
  ·rw [hv] at h
   exact ⟨_, m, n, id, fun hwf => new_none hwf _ _, by simp [ids, idsL], fun _ _ _ => by simp [ren, renL], h⟩
  ·rw [hv] at h
   obtain ⟨a1, a2⟩ := look_form (x := x) (k := k) (cap := cap) rfl hbs
   refine ⟨_, _, _, fun j => if j = n then 3 else x, fun hwf => new_form hwf a1 a2 rfl rfl r1.plain rfl rfl ?_, ?_, fun ι' ι'' hι => ?_, h k cap d (rowIOK_iff.2 r1) r2⟩
   ·rintro rfl
    rw [a1] at a2
    cases a2
   ·intro i hi
    have : i = n := by simpa [ids, idsL] using hi
    omega
   ·have e := hι n (Nat.le_refl _)
    simp only [if_true] at e
    simp [ren, renL, ren1, e]
def G26 : Env := (((Env.nil.add 203 (sp2 s102)).add 55 (sp2 s89)).add 188 (sp1 s80)).addG 204 h103
theorem ok_G26 : EnvOK Tryz.prog G26 := env_addG (env_add (env_add (env_add env_nil ok102) ok89) ok80) h103_ok
theorem dropW_nil {p : Int → Bool} : ∀ {l : List Int}, l.dropWhile p = [] ↔ ∀ c ∈ l, p c = true
 | [] => by simp
 | c :: l => by
  rw [List.dropWhile_cons]
  cases h : p c with
  | true => simp only [if_true]; rw [dropW_nil (l := l)]; simp [h]
  | false => simp [h]
theorem trim_nil {l cs : List Int} : trimZ l cs = [] ↔ ∀ c ∈ l, hasZ cs c = true := by
 unfold trimZ
 rw [dropW_nil]
 constructor
 ·intro h c hc
  cases hq : hasZ cs c with
  | true => rfl
  | false =>
   exfalso
   -- c stays in what is left
   have : ∀ r : List Int, c ∈ r → c ∈ r.dropWhile (hasZ cs) := by
    intro r
    induction r with
    | nil => exact fun h => by cases h
    | cons x r ih =>
     intro hx
     rw [List.dropWhile_cons]
     cases hh : hasZ cs x with
     | false => simpa using hx
     | true =>
      rw [if_pos rfl]
      rcases List.mem_cons.1 hx with rfl | hx
      ·rw [hq] at hh; cases hh
      ·exact ih hx
   have hm := this l.reverse (by simpa using hc)
   have := h c (by simpa using hm)
   rw [hq] at this
   cases this
 ·intro h c hc
  have : c ∈ l.reverse.dropWhile (hasZ cs) := by simpa using hc
  exact h c (by simpa using List.dropWhile_sublist _ |>.subset this)
theorem xp_kL : ∀ (l : List Int) (st n : Int) (out : List Int), allK out = true → allK (xpGo l st n out).1 = true
 | [], _, _, _, h => h
 | c :: r, st, n, out, h => by
  rw [xpGo]
  generalize (if st = 2 then n else 1) = k
  split
  ·split
   ·split
    ·exact xp_kL r _ _ _ h
    ·rfl
   ·split
    ·exact xp_kL r _ _ _ h
    ·rfl
  ·split
   ·rfl
   ·split
    ·exact xp_kL r _ _ _ h
    ·split
     ·rename_i hq
      refine xp_kL r _ _ _ ?_
      simp only [allK, List.all_append, Bool.and_eq_true]
      refine ⟨h, ?_⟩
      rw [List.all_eq_true]
      intro x hx
      rw [List.eq_of_mem_replicate hx]
      exact hq.1
     ·rfl
theorem ex_kL (l : List Int) : allK (exZ l) = true := by
 unfold exZ
 split
 ·exact xp_kL l 0 0 [] rfl
 ·rfl
def frmP (l : List Int) (x k cap : Nat) : List Value := [.string (sz (pS l)), .bool true, .int .i64 (pW l), .int .i64 (pD l), .int .i64 (pQ l), .bool (pG l)] ++
 .slice (some ⟨x, 0, some 1⟩) k cap :: [.int .u8 (drZ (bodyZ (pS l))), .int .i64 (nD (bodyZ (pS l))).2.2, .bool (crZ (pS l)), .int .u8 (fdFl (pS l)), .int .i64 (cntZ (mkGo (drZ (bodyZ (pS l))) false (bodyZ (pS l))) 100)]
def chrP (l : List Int) : List Value := [.string (sz (pS l)), .bool false, .int .i64 (pW l), .int .i64 0, .int .i64 0, .bool false, .slice none 0 0, .int .u8 0, .int .i64 0, .bool false, .int .u8 0, .int .i64 0]
theorem frm_P {l : List Int} (h : pN l = true) (x k cap : Nat) : frm (exZ l) x k cap = frmP l x k cap := by
 have hv := pN_vOK h
 have hc := (pN_num h).nch
 unfold frm frmP
 rw [pS, if_pos hv, pW, if_pos hv, if_neg (by rw [hc]; simp), pD, if_pos h, pQ, if_pos h, pG, h, Bool.true_and]
def h70 : List Value → Lk → Nat → (Value → Lk → Nat → Prop) → Prop := fun args m n K => match args with
 | [.string s] => match cnd (decide (s.size ≤ 9223372036854775807)) with
  | true => bif vOK (bz s) then (bif pN (bz s) then ∀ (k cap : Nat) (d : List Value), rowIOK d k cap = true → zc d k = rolF (pS (bz s)) → K (.tuple ⟨[.pointer (some ⟨n, 0, some 0⟩), .bool true]⟩) ((m.upd n ⟨frmP (bz s) (n + 1) k cap, 156, true⟩).upd (n + 1) ⟨d, 251, true⟩) (n + 2)
    else K (.tuple ⟨[.pointer (some ⟨n, 0, some 0⟩), .bool true]⟩) (m.upd n ⟨chrP (bz s), 156, true⟩) (n + 1))
   else K (.tuple ⟨[.pointer none, .bool false]⟩) m n
  | false => False
 | _ => False
def h62 : List Value → Lk → Nat → (Value → Lk → Nat → Prop) → Prop := fun args m n K => match args with
 | [.string s] => match cnd (decide (s.size ≤ 9223372036854775807)) with
  | true => bif pN (bz s) then ∀ (k cap : Nat) (d : List Value), rowIOK d k cap = true → zc d k = rolF (pS (bz s)) → K (.tuple ⟨[.pointer (some ⟨n, 0, some 0⟩), .bool true]⟩) ((m.upd n ⟨frmP (bz s) (n + 1) k cap, 156, true⟩).upd (n + 1) ⟨d, 251, true⟩) (n + 2)
   else K (.tuple ⟨[.pointer none, .bool false]⟩) m n
  | false => False
 | _ => False
def Rfm (c : Bool) (s : ByteArray) (v : Value) (bs : List (Option Blk)) : Prop :=
 (pN (bz s) = true ∧ ∃ a x k cap d, v = .tuple ⟨[.pointer (some ⟨a, 0, some 0⟩), .bool true]⟩ ∧ RowI d k cap ∧ zc d k = rolF (pS (bz s)) ∧ bs = [some ⟨frmP (bz s) x k cap, 156, true⟩, some ⟨d, 251, true⟩]) ∨
 (c = true ∧ vOK (bz s) = true ∧ pN (bz s) = false ∧ ∃ a, v = .tuple ⟨[.pointer (some ⟨a, 0, some 0⟩), .bool true]⟩ ∧ bs = [some ⟨chrP (bz s), 156, true⟩]) ∨
 (pN (bz s) = false ∧ (c = true → vOK (bz s) = false) ∧ v = .tuple ⟨[.pointer none, .bool false]⟩)
theorem rfm_new {c : Bool} {s : ByteArray} {v' : Value} {m m' : Lk} {n : Nat} {K : Value → Lk → Nat → Prop} (hR : Rfm c s v' (look m' v'))
  (h1 : pN (bz s) = true → ∀ (k cap : Nat) (d : List Value), rowIOK d k cap = true → zc d k = rolF (pS (bz s)) → K (.tuple ⟨[.pointer (some ⟨n, 0, some 0⟩), .bool true]⟩) ((m.upd n ⟨frmP (bz s) (n + 1) k cap, 156, true⟩).upd (n + 1) ⟨d, 251, true⟩) (n + 2))
  (h2 : c = true → vOK (bz s) = true → pN (bz s) = false → K (.tuple ⟨[.pointer (some ⟨n, 0, some 0⟩), .bool true]⟩) (m.upd n ⟨chrP (bz s), 156, true⟩) (n + 1))
  (h3 : pN (bz s) = false → (c = true → vOK (bz s) = false) → K (.tuple ⟨[.pointer none, .bool false]⟩) m n) :
  ∃ v mm nn σ, ((∀ k b, m k = some b → k < n) → NewM m n m' mm nn σ) ∧ (∀ i ∈ ids v, n ≤ i ∧ i < nn) ∧ (∀ ι' ι'' : Nm, (∀ i, n ≤ i → ι'' i = ι' (σ i)) → ren ι'' v = ren ι' v') ∧ K v mm nn := by
 rcases hR with ⟨hv, a, x, k, cap, d, rfl, r1, r2, hbs⟩ | ⟨hc, hv, hp, a, rfl, hbs⟩ | ⟨hv, hc, rfl⟩
 ·obtain ⟨a1, a2⟩ := look_form (x := x) (k := k) (cap := cap) rfl hbs
  refine ⟨_, _, _, fun j => if j = n then a else x, fun hwf => new_form hwf a1 a2 rfl rfl r1.plain rfl rfl ?_, ?_, fun ι' ι'' hι => ?_, h1 hv k cap d (rowIOK_iff.2 r1) r2⟩
  ·rintro rfl
   rw [a1] at a2
   cases a2
  ·intro i hi
   have : i = n := by simpa [ids, idsL] using hi
   omega
  ·have e := hι n (Nat.le_refl _)
   simp only [if_true] at e
   simp [ren, renL, ren1, e]
 ·have ha : m' a = some ⟨chrP (bz s), 156, true⟩ := by
   simp only [look] at hbs
   cases ha : m' a with
   | none => rw [ha] at hbs; cases hbs
   | some b =>
    rw [ha] at hbs
    simp only at hbs
    split at hbs
    ·cases hbs
    ·cases hbs; rfl
  refine ⟨_, _, _, fun j => a, fun hwf => new_one hwf ha rfl rfl, ?_, fun ι' ι'' hι => ?_, h2 hc hv hp⟩
  ·intro i hi
   have : i = n := by simpa [ids, idsL] using hi
   omega
  ·have e := hι n (Nat.le_refl _)
   simp [ren, renL, ren1, e]
 ·exact ⟨_, m, n, id, fun hwf => new_none hwf _ _, by simp [ids, idsL], fun _ _ _ => by simp [ren, renL], h3 hv hc⟩
theorem v70 (s : ByteArray) (R : Value → List (Option Blk) → Prop) : (bodyQ Tryz.prog G26 noL Tryz.f145 [S s] (fun _ => none) 0 (fun v m _ => R v (look m v))) = ( bif decide (ByteArray.size s ≤ 9223372036854775807) then bif !exOK (bz s) then R (.tuple (.mk [.pointer none, B false])) [] else bif decide (ByteArray.size (sz (Prod.fst (xpGo (bz s) 0 0 []))) ≤ 1000) && (decide (ByteArray.size (ByteArray.mk #[65, 88, 57]) ≤ 1000) && asc (bz (ByteArray.mk #[65, 88, 57]))) && bif ByteArray.toList (szO (trimZ (bz (sz (Prod.fst (xpGo (bz s) 0 0 [])))) (bz (ByteArray.mk #[65, 88, 57])))) == ByteArray.toList (ByteArray.mk #[]) then decide (ByteArray.size (sz (Prod.fst (xpGo (bz s) 0 0 []))) ≤ 1000) && (decide (ByteArray.size (ByteArray.mk #[65, 88]) ≤ 1000) && (asc (bz (sz (Prod.fst (xpGo (bz s) 0 0 [])))) && asc (bz (ByteArray.mk #[65, 88])))) && true else true then bif ByteArray.toList (szO (trimZ (bz (sz (Prod.fst (xpGo (bz s) 0 0 [])))) (bz (ByteArray.mk #[65, 88, 57])))) == ByteArray.toList (ByteArray.mk #[]) && anyZ (bz (sz (Prod.fst (xpGo (bz s) 0 0 [])))) (bz (ByteArray.mk #[65, 88])) then R (.tuple (.mk [.pointer (some (.mk 23 0 (some 0))), B true])) [some (.mk [S (sz (Prod.fst (xpGo (bz s) 0 0 []))), B false, I (↑(ByteArray.size (sz (Prod.fst (xpGo (bz s) 0 0 [])))) : Int), I 0, I 0, B false, .slice none 0 0, .int .u8 0, I 0, B false, .int .u8 0, I 0] 156 true)] else bif decide (ByteArray.size (sz (Prod.fst (xpGo (bz s) 0 0 []))) ≤ 32) && allK (bz (sz (Prod.fst (xpGo (bz s) 0 0 [])))) then bif numV (bz (sz (Prod.fst (xpGo (bz s) 0 0 [])))) then ∀ (k cap : Nat) (d : List Value), rowIOK d k cap = true → zc d k = rolF (bz (sz (Prod.fst (xpGo (bz s) 0 0 [])))) → R (.tuple (.mk [.pointer (some (.mk 20 0 (some 0))), B true])) [some (.mk [S (sz (bz (sz (Prod.fst (xpGo (bz s) 0 0 []))))), B true, I ((↑(List.length (bz (sz (Prod.fst (xpGo (bz s) 0 0 []))))) : Int) - (↑(cntZ (bz (sz (Prod.fst (xpGo (bz s) 0 0 [])))) 86) : Int)), I (pdGo (marksZ (bz (sz (Prod.fst (xpGo (bz s) 0 0 [])))))), I (pqGo (bz (sz (Prod.fst (xpGo (bz s) 0 0 [])))) (marksZ (bz (sz (Prod.fst (xpGo (bz s) 0 0 []))))) 0), B (signsZ (bz (sz (Prod.fst (xpGo (bz s) 0 0 [])))) == 1), .slice (some (.mk 21 0 (some 1))) k cap, .int .u8 (drZ (bodyZ (bz (sz (Prod.fst (xpGo (bz s) 0 0 [])))))), I (Prod.snd (Prod.snd (nD (bodyZ (bz (sz (Prod.fst (xpGo (bz s) 0 0 [])))))))), B (crZ (bz (sz (Prod.fst (xpGo (bz s) 0 0 []))))), .int .u8 (fdFl (bz (sz (Prod.fst (xpGo (bz s) 0 0 []))))), I (↑(cntZ (mkGo (drZ (bodyZ (bz (sz (Prod.fst (xpGo (bz s) 0 0 [])))))) false (bodyZ (bz (sz (Prod.fst (xpGo (bz s) 0 0 [])))))) 100) : Int)] 156 true), some (.mk d 251 true)] else R (.tuple (.mk [.pointer none, B false])) [] else False else False else False) := by kernel_rfl
theorem fn70 : Fn1 Tryz.prog 145 Tryz.f145 := ⟨Tryz.func145, by kernel_rfl, by kernel_rfl, by kernel_rfl⟩
theorem w70 (s : ByteArray) (hs : s.size ≤ 9223372036854775807) : DoesM Tryz.prog G26 noL Tryz.f145 [.string s] (fun _ => none) 0 (fun v m _ => Rfm true s v (look m v)) := by
 rw [DoesM, v70]
 have hN : pN (bz s) = false → vOK (bz s) = false → Rfm true s (.tuple ⟨[.pointer none, .bool false]⟩) [] := fun h1 h2 => .inr (.inr ⟨h1, fun _ => h2, rfl⟩)
 refine c_t (decide_eq_true hs) (cond_intro (fun h => ?_) (fun h => ?_))
 ·have h : exOK (bz s) = false := by simpa using h
  exact hN (by rw [pN, h]; rfl) (by rw [vOK, h]; rfl)
 have h : exOK (bz s) = true := by simpa using h
 have e : (xpGo (bz s) 0 0 []).1 = exZ (bz s) := by rw [exZ, if_pos h]
 obtain ⟨x1, x2⟩ := ex_rng s
 have k1 : bz ⟨#[65, 88, 57]⟩ = [65, 88, 57] := rfl
 have k2 : bz ⟨#[65, 88]⟩ = [65, 88] := rfl
 rw [e, bz_sz x1, sz_size, k1, k2, szO_eq, toList_beq, bz_sz (l := trimZ (exZ (bz s)) [65, 88, 57])]
 rotate_left
 ·intro c hc
  refine x1 c ?_
  unfold trimZ at hc
  have := List.dropWhile_sublist _ |>.subset hc
  have : c ∈ (exZ (bz s)).reverse.dropWhile (hasZ [65, 88, 57]) := by simpa using this
  simpa using List.dropWhile_sublist _ |>.subset this
 have hk := allK_spec (ex_kL (bz s))
 have k3 : bz ⟨#[]⟩ = [] := rfl
 rw [k3]
 have eC : (decide (trimZ (exZ (bz s)) [65, 88, 57] = []) && anyZ (exZ (bz s)) [65, 88]) = charZ (exZ (bz s)) := by
  rw [charZ, Bool.eq_iff_iff]
  simp only [Bool.and_eq_true, decide_eq_true_eq, trim_nil, List.all_eq_true, anyZ, List.any_eq_true, Bool.or_eq_true, hasZ_iff]
  refine and_congr Iff.rfl ⟨?_, ?_⟩
  ·rintro ⟨c, h1, h2⟩
   simp at h2
   rcases h2 with rfl | rfl
   ·exact .inl h1
   ·exact .inr h1
  ·rintro (h1 | h1)
   ·exact ⟨65, h1, by simp⟩
   ·exact ⟨88, h1, by simp⟩
 rw [eC]
 refine c_t ?_ (cond_intro (fun hc => ?_) (fun hc => c_t ?_ (cond_intro (fun hn k cap d r1 r2 => ?_) (fun hn => ?_))))
 ·have a1 : decide ((exZ (bz s)).length ≤ 1000) = true := decide_eq_true (by omega)
  rw [a1, hk.1]
  cases decide (trimZ (exZ (bz s)) [65, 88, 57] = []) <;> rfl
 ·have hv : vOK (bz s) = true := by rw [vOK, h, hc]; rfl
  have hp : pN (bz s) = false := by rw [pN, h, numV, hc]; rfl
  refine .inr (.inl ⟨rfl, hv, hp, 23, rfl, ?_⟩)
  have e1 : pS (bz s) = exZ (bz s) := by rw [pS, if_pos hv]
  have e2 : pW (bz s) = (exZ (bz s)).length := by rw [pW, if_pos hv, if_pos hc]
  rw [chrP, e1, e2]
 ·rw [decide_eq_true (show (exZ (bz s)).length ≤ 32 by omega), ex_kL]
  rfl
 ·have hp : pN (bz s) = true := by rw [pN, h, hn]; rfl
  have e1 : pS (bz s) = exZ (bz s) := by rw [pS, if_pos (pN_vOK hp)]
  refine .inl ⟨hp, 20, 21, k, cap, d, rfl, rowIOK_iff.1 r1, by rw [e1]; exact r2, ?_⟩
  rw [← frm_P hp]
  rfl
 ·exact hN (by rw [pN, h, hn]; rfl) (by rw [vOK, h, hc, hn]; rfl)
theorem h70_ok : GenOK Tryz.prog 145 h70 := by
 refine gen_newR ok_G26 hmix fn70 lokf_none fun args m n K h => ?_
 unfold h70 at h
 split at h
 case h_2 => exact h.elim
 rename_i s
 split at h
 case h_2 => exact h.elim
 rename_i hc
 have hc : s.size ≤ 9223372036854775807 := of_decide_eq_true hc
 refine ⟨[.string s], fun _ => none, 0, id, Rfm true s, sub_none _ _ _, fun ι => by simp [ren], Nat.le_of_ble_eq_true (by kernel_rfl), fun v hv j hj => ?_, w70 s hc, fun v' m' hR => ?_⟩
 ·simp at hv; subst hv; simp [ids] at hj
 ·refine rfm_new hR (fun hp => ?_) (fun _ hv hp => ?_) (fun hp hv => ?_)
  ·rw [pN_vOK hp, hp] at h; exact h
  ·rw [hv, hp] at h; exact h
  ·rw [hv rfl] at h; exact h
def G27 : Env := Env.nil.addG 145 h70
theorem ok_G27 : EnvOK Tryz.prog G27 := env_addG env_nil h70_ok
theorem v62 (s : ByteArray) (R : Value → List (Option Blk) → Prop) : (bodyQ Tryz.prog G27 noL Tryz.f136 [S s] (fun _ => none) 0 (fun v m _ => R v (look m v))) = ( bif decide (ByteArray.size s ≤ 9223372036854775807) then bif vOK (bz s) then bif pN (bz s) then ∀ (k cap : Nat) (d : List Value), rowIOK d k cap = true → zc d k = rolF (pS (bz s)) → R (.tuple (.mk [.pointer (some (.mk 4 0 (some 0))), B true])) [some (.mk [S (sz (pS (bz s))), B true, I (pW (bz s)), I (pD (bz s)), I (pQ (bz s)), B (pG (bz s)), .slice (some (.mk 5 0 (some 1))) k cap, .int .u8 (drZ (bodyZ (pS (bz s)))), I (Prod.snd (Prod.snd (nD (bodyZ (pS (bz s)))))), B (crZ (pS (bz s))), .int .u8 (fdFl (pS (bz s))), I (↑(cntZ (mkGo (drZ (bodyZ (pS (bz s)))) false (bodyZ (pS (bz s)))) 100) : Int)] 156 true), some (.mk d 251 true)] else R (.tuple (.mk [.pointer none, B false])) [] else R (.tuple (.mk [.pointer none, B false])) [] else False) := by kernel_rfl
theorem fn62 : Fn1 Tryz.prog 136 Tryz.f136 := ⟨Tryz.func136, by kernel_rfl, by kernel_rfl, by kernel_rfl⟩
theorem w62 (s : ByteArray) (hs : s.size ≤ 9223372036854775807) : DoesM Tryz.prog G27 noL Tryz.f136 [.string s] (fun _ => none) 0 (fun v m _ => Rfm false s v (look m v)) := by
 rw [DoesM, v62]
 refine c_t (decide_eq_true hs) (cond_intro (fun h => cond_intro (fun hn k cap d r1 r2 => ?_) (fun hn => ?_)) (fun h => ?_))
 ·exact .inl ⟨hn, 4, 5, k, cap, d, rfl, rowIOK_iff.1 r1, r2, rfl⟩
 ·exact .inr (.inr ⟨hn, fun q => (by cases q), rfl⟩)
 ·refine .inr (.inr ⟨?_, fun q => (by cases q), rfl⟩)
  cases hp : pN (bz s) with
  | false => rfl
  | true => rw [pN_vOK hp] at h; cases h
theorem h62_ok : GenOK Tryz.prog 136 h62 := by
 refine gen_newR ok_G27 hmix fn62 lokf_none fun args m n K h => ?_
 unfold h62 at h
 split at h
 case h_2 => exact h.elim
 rename_i s
 split at h
 case h_2 => exact h.elim
 rename_i hc
 have hc : s.size ≤ 9223372036854775807 := of_decide_eq_true hc
 refine ⟨[.string s], fun _ => none, 0, id, Rfm false s, sub_none _ _ _, fun ι => by simp [ren], Nat.le_of_ble_eq_true (by kernel_rfl), fun v hv j hj => ?_, w62 s hc, fun v' m' hR => ?_⟩
 ·simp at hv; subst hv; simp [ids] at hj
 ·refine rfm_new hR (fun hp => ?_) (fun q _ _ => by cases q) (fun hp _ => ?_)
  ·rw [hp] at h; exact h
  ·rw [hp] at h; exact h
def G28 : Env := (Env.nil.addG 145 h70).addG 136 h62
theorem ok_G28 : EnvOK Tryz.prog G28 := env_addG (env_addG env_nil h70_ok) h62_ok
end Go.Px
end
noncomputable section
namespace Go.Px
open Go Go.Ab Go.Proofs Go.Shelf
def s35 (s : ByteArray) : Bool × Value := (decide (s.size ≤ 9223372036854775807), .tuple ⟨[picV (bz s), .int .i64 (pE (bz s))]⟩)
theorem fn35 : Fn1 Tryz.prog 113 Tryz.f113 := ⟨Tryz.func113, by kernel_rfl, by kernel_rfl, by kernel_rfl⟩
theorem v35 (s : ByteArray) (R : Value → Prop) : bodyQ Tryz.prog G28 noL Tryz.f113 [Enc.enc s] (fun _ => none) 0 (fun v _ _ => R v) = ( bif decide (ByteArray.size s ≤ 9223372036854775807) then bif vOK (bz s) then bif pN (bz s) then ∀ (k cap : Nat) (d : List Value), rowIOK d k cap = true → zc d k = rolF (pS (bz s)) → R (.tuple (.mk [.agg (.mk [S (sz (pS (bz s))), B true, I (pW (bz s)), I (pD (bz s)), I (pQ (bz s)), B (pG (bz s))]), I 0])) else R (.tuple (.mk [.agg (.mk [S (sz (pS (bz s))), B false, I (pW (bz s)), I 0, I 0, B false]), I 0])) else R (.tuple (.mk [.agg (.mk [S (ByteArray.mk #[]), B false, I 0, I 0, I 0, B false]), I 30])) else False) := by kernel_rfl
theorem ok35 : PureOK Tryz.prog 113 (sp1 s35) := by
 refine qure1 ok_G28 hmix fn35 lokf_none (Nat.le_of_ble_eq_true (by kernel_rfl)) fun s hc => ?_
 rw [DoesQ, v35]
 have hc : (s.size ≤ 9223372036854775807) := of_decide_eq_true hc
 try dsimp only [s35]
 refine c_t (decide_eq_true hc) (cond_intro (fun hv => cond_intro (fun hn k cap d _ _ => ?_) (fun hn => ?_)) (fun hv => ?_))
 ·simp [picV, pE, hv, hn]
 ·simp [picV, pE, hv, hn, pD, pQ, pG]
 ·have hn : pN (bz s) = false := by
   cases q : pN (bz s) with
   | false => rfl
   | true => rw [pN_vOK q] at hv; cases hv
  have a1 : pS (bz s) = [] := by rw [pS, if_neg (by rw [hv]; simp)]
  have a2 : pW (bz s) = 0 := by rw [pW, if_neg (by rw [hv]; simp)]
  have a3 : pD (bz s) = 0 := by rw [pD, if_neg (by rw [hn]; simp)]
  have a4 : pQ (bz s) = 0 := by rw [pQ, if_neg (by rw [hn]; simp)]
  have a5 : pG (bz s) = false := by rw [pG, hn]; rfl
  have a6 : pE (bz s) = 30 := by rw [pE, if_neg (by rw [hv]; simp)]
  rw [picV, a1, a2, a3, a4, a5, a6, hn, sz_nil]
def s31 (s : ByteArray) : Bool × Value := (decide (s.size ≤ 9223372036854775807), .bool (pN (bz s)))
theorem fn31 : Fn1 Tryz.prog 59 Tryz.f59 := ⟨Tryz.func59, by kernel_rfl, by kernel_rfl, by kernel_rfl⟩
theorem v31 (s : ByteArray) (R : Value → Prop) : bodyQ Tryz.prog G28 noL Tryz.f59 [Enc.enc s] (fun _ => none) 0 (fun v _ _ => R v) = ( bif decide (ByteArray.size s ≤ 9223372036854775807) then bif pN (bz s) then ∀ (k cap : Nat) (d : List Value), rowIOK d k cap = true → zc d k = rolF (pS (bz s)) → R (B true) else R (B false) else False) := by kernel_rfl
theorem ok31 : PureOK Tryz.prog 59 (sp1 s31) := by
 refine qure1 ok_G28 hmix fn31 lokf_none (Nat.le_of_ble_eq_true (by kernel_rfl)) fun s hc => ?_
 rw [DoesQ, v31]
 have hc : (s.size ≤ 9223372036854775807) := of_decide_eq_true hc
 try dsimp only [s31]
 refine c_t (decide_eq_true hc) (cond_intro (fun h k cap d _ _ => ?_) (fun h => ?_))
 ·rw [h]
 ·rw [h]
def G29 : Env := Env.nil.add 113 (sp1 s35)
theorem ok_G29 : EnvOK Tryz.prog G29 := env_add env_nil ok35
def s33 (s : ByteArray) : Bool × Value := (decide (s.size ≤ 9223372036854775807), .int .i64 (pE (bz s)))
theorem fn33 : Fn1 Tryz.prog 67 Tryz.f67 := ⟨Tryz.func67, by kernel_rfl, by kernel_rfl, by kernel_rfl⟩
theorem v33 (s : ByteArray) (R : Value → Prop) : bodyQ Tryz.prog G29 noL Tryz.f67 [Enc.enc s] (fun _ => none) 0 (fun v _ _ => R v) = ( bif decide (ByteArray.size s ≤ 9223372036854775807) then R (I (pE (bz s))) else False) := by kernel_rfl
theorem ok33 : PureOK Tryz.prog 67 (sp1 s33) := by
 refine qure1 ok_G29 hmix fn33 lokf_none (Nat.le_of_ble_eq_true (by kernel_rfl)) fun s hc => ?_
 rw [DoesQ, v33]
 have hc : (s.size ≤ 9223372036854775807) := of_decide_eq_true hc
 try dsimp only [s33]
 exact c_t (decide_eq_true hc) rfl
def s46 (s : ByteArray) : Bool × Value := (decide (s.size ≤ 9223372036854775807), .tuple ⟨[tyV (bz s), .int .i64 (pE (bz s))]⟩)
theorem fn46 : Fn1 Tryz.prog 61 Tryz.f61 := ⟨Tryz.func61, by kernel_rfl, by kernel_rfl, by kernel_rfl⟩
theorem v46 (s : ByteArray) (R : Value → Prop) : bodyQ Tryz.prog G29 noL Tryz.f61 [Enc.enc s] (fun _ => none) 0 (fun v _ _ => R v) = ( bif decide (ByteArray.size s ≤ 9223372036854775807) then bif pE (bz s) != 0 then R (.tuple (.mk [.agg (.mk [I 0, I 0, I 0, B false, S (ByteArray.mk #[])]), I (pE (bz s))])) else bif pN (bz s) then R (.tuple (.mk [.agg (.mk [I 1, I (pD (bz s)), I (pQ (bz s)), B false, S (ByteArray.mk #[])]), I 0])) else R (.tuple (.mk [.agg (.mk [I 3, I (pW (bz s)), I 0, B false, S (ByteArray.mk #[])]), I 0])) else False) := by kernel_rfl
theorem ok46 : PureOK Tryz.prog 61 (sp1 s46) := by
 refine qure1 ok_G29 hmix fn46 lokf_none (Nat.le_of_ble_eq_true (by kernel_rfl)) fun s hc => ?_
 rw [DoesQ, v46]
 have hc : (s.size ≤ 9223372036854775807) := of_decide_eq_true hc
 try dsimp only [s46]
 rw [pE_ne]
 refine c_t (decide_eq_true hc) (cond_intro (fun h => ?_) (fun h => ?_))
 ·have h : vOK (bz s) = false := by simpa using h
  have hn : pN (bz s) = false := by
   cases q : pN (bz s) with
   | false => rfl
   | true => rw [pN_vOK q] at h; cases h
  simp [tyV, tyK, tyP, pQ, h, hn]
 ·have h : vOK (bz s) = true := by simpa using h
  refine cond_intro (fun hn => ?_) (fun hn => ?_)
  ·simp [tyV, tyK, tyP, pE, h, hn]
  ·simp [tyV, tyK, tyP, pE, pQ, h, hn]
end Go.Px
end
noncomputable section
namespace Go.Px
open Go Go.Ab Go.Proofs Go.Shelf Go.RowKit Go.Sort Go.Lib
theorem laysM284 : LaysM.n284 Tryz.prog Tryz.lays172_ren := { Tryz.lays172 with
 i0 := by kernel_rfl
 i3 := by kernel_rfl
 i4 := by kernel_rfl
 i5 := by kernel_rfl
 i9 := by kernel_rfl
 i46 := by kernel_rfl
 i53 := by kernel_rfl
 i212 := by kernel_rfl
 m17 := by kernel_rfl }
theorem tab_pow {w : World} (h : TabsIn w.heap.size w) : Lib.TabIs Tryz.prog w "internal/strconv.uint64pow10" .u64 Lib.pow10Tab := by
 obtain ⟨_, ty, fr, h2⟩ := h 1 _ rfl
 unfold Lib.TabIs World.var?
 have e : Tryz.prog.globalNamed "internal/strconv.uint64pow10" = some 1 := by kernel_rfl
 rw [e]
 simp only [Option.bind_some, h2]
 rfl
theorem fmt_small (u : Nat) (hu : u < 100) (w : World) : Calls Tryz.prog 155 #[.int .u64 u, .int .i64 10] w fun e w' => e = .returned (.string ⟨(Lib.decDigits u).toArray⟩) ∧ w' = w := by
 have mixed := Tryz.lays172.mixed
 have e142 : ∀ args w, (callFunc 216 args).run Tryz.prog w = .ok (.enter 216 args) w := enters_of Tryz.func216 (by kernel_rfl) rfl
 have hw : IntKind.i64.wrap (u : Int) = (u : Int) := by rw [IntKind.wrap_i64]; omega
 go_enter Tryz.func155, Tryz.ntmps155
 go_wp2_with (go_at_fn 216; refine (Any.internal_strconv_small (ρ := Tryz.lays172_ren) { Tryz.lays172 with } u hu _).mono ?_; rintro e w' ⟨rfl, rfl⟩)
 go_ret
 exact ⟨rfl, rfl⟩
set_option maxHeartbeats 6400000 in
set_option maxRecDepth 100000 in
theorem fmt_big (u : Nat) (hu : 100 ≤ u) (hu64 : u < 18446744073709551616) (w : World) (htab : Lib.TabIs Tryz.prog w "internal/strconv.uint64pow10" .u64 Lib.pow10Tab) :
  Calls Tryz.prog 155 #[.int .u64 u, .int .i64 10] w fun e w' => e = .returned (.string ⟨(Lib.decDigits u).toArray⟩) ∧ ∃ k os, w' = grow (w.drewN k) os := by
 have mixed := Tryz.lays172.mixed
 have e143 : ∀ args w, (callFunc 217 args).run Tryz.prog w = .ok (.enter 217 args) w := enters_of Tryz.func217 (by kernel_rfl) rfl
 have e144 : ∀ args w, (callFunc 218 args).run Tryz.prog w = .ok (.enter 218 args) w := enters_of Tryz.func218 (by kernel_rfl) rfl
 have hu1 : 1 ≤ u := by omega
 have hnd20 : Lib.nDigits u ≤ 20 := by have := Lib.numDigits_eq u hu1 hu64; split at this <;> omega
 have iu : (100 : Int) ≤ (u : Int) := by omega
 have t148 := Tryz.underlying216
 have hal : Tryz.prog.arrayLen 216 = 24 := by simp [Program.arrayLen, Tryz.underlying216]
 have hsl : ∀ W, (Instr.sliceAt 216 (.pointer (some ⟨w.heap.size, 0, none⟩)) none (some (.int .i64 (Lib.nDigits u : Int))) none).run Tryz.prog W = .ok (.slice (some ⟨w.heap.size, 0, none⟩) (Lib.nDigits u) 24) W := fun W => by
  rw [run_sliceAt_array_h W 216 ⟨w.heap.size, 0, none⟩ (by simp [Program.arrayLen, Program.elem, Tryz.underlying216]) .i64 (Lib.nDigits u : Int) (by omega) (by rw [hal]; omega)]
  go_simp
 have hH0 := Lib.holds_zero0 w 216 (Lib.nDigits u) (by omega)
 have hfmt := Any.internal_strconv_formatBase10 (ρ := Tryz.lays172_ren) { Tryz.lays172 with } w.heap.size 0 24 u (Array.replicate (Lib.nDigits u) 0) (w.alloc (.cells Lib.zeros24 216)) hH0 (by rw [Array.size_replicate]; exact Lib.lt_pow_nDigits u) hu64 (by rw [Array.size_replicate]; omega)
 rw [Array.size_replicate] at hfmt
 have HH0 := Lib.hid hH0
 clear hH0 hal
 go_enter Tryz.func155, Tryz.ntmps155
 go_wp2_with (first
  | (go_at_fn 217; refine (Any.internal_strconv_numDigits (ρ := Tryz.lays172_ren) laysM284 u hu1 hu64 _ (Lib.tabIs_alloc htab _)).mono ?_; rintro e w' ⟨rfl, rfl⟩))
 go_at_fn 218
 refine hfmt.mono ?_
 rintro e w' ⟨rfl, k, v', dk, rfl, hF⟩
 have hcv : (convert 96 9 (.slice (some ⟨w.heap.size, 0, none⟩) (Lib.nDigits u) 24)).run Tryz.prog ((putRow (fun (b : UInt8) => Value.int .u8 (b.toNat : Int)) (w.alloc (.cells Lib.zeros24 216)) w.heap.size 0 dk).drewN k) = .ok (.string ⟨(Lib.decDigits u).toArray⟩) ((putRow (fun (b : UInt8) => Value.int .u8 (b.toNat : Int)) (w.alloc (.cells Lib.zeros24 216)) w.heap.size 0 dk).drewN k) := by
  have h := run_convert_bytes_back (P := Tryz.prog) ((putRow (fun (b : UInt8) => Value.int .u8 (b.toNat : Int)) (w.alloc (.cells Lib.zeros24 216)) w.heap.size 0 dk).drewN k) 96 9 5 ⟨w.heap.size, 0, none⟩ 24 (Lib.decDigits u) Tryz.underlying96 Tryz.underlying5 Tryz.underlying9 (fun j hj => by
   rw [Lib.row_is_numeral hF j hj, Lib.add_plain, World.cell?_drewN]
   exact cell?_putRow (fun (b : UInt8) => Value.int .u8 (b.toNat : Int)) _ w.heap.size 0 _ dk HH0.out (by rw [hF.size, Array.size_replicate]) j (by rw [hF.size]; rw [Lib.decDigits_length] at hj; exact hj))
  rw [Lib.decDigits_length] at h
  exact h
 go_wp2
 go_ret
 obtain ⟨os, eo⟩ := Lib.fin_at w (.cells Lib.zeros24 216) dk k 0
 exact ⟨rfl, k, os, eo⟩
def decZ (n : Int) : List Int := zl (Lib.decDigits n.toNat)
theorem c87 : Callable Tryz.prog 81 := cal Tryz.func81 (by kernel_rfl) (by kernel_rfl)
theorem fmt_all (u : Nat) (hu64 : u < 18446744073709551616) (w : World) (ht : TabsIn w.heap.size w) :
  Calls Tryz.prog 155 #[.int .u64 u, .int .i64 10] w fun e w' => e = .returned (.string ⟨(Lib.decDigits u).toArray⟩) ∧ RowKit.Below w.heap.size w w' := by
 by_cases hu : u < 100
 ·exact (fmt_small u hu w).mono fun e w' ⟨h1, h2⟩ => ⟨h1, below_of_eq h2⟩
 ·exact (fmt_big u (by omega) hu64 w (tab_pow ht)).mono fun e w' ⟨h1, k, os, h2⟩ => ⟨h1, by rw [h2]; exact Lib.below_grow _ _ (Nat.le_refl _) _ _⟩
theorem fmt87 (u : Nat) (hu64 : u < 18446744073709551616) (w : World) (ht : TabsIn w.heap.size w) :
  Calls Tryz.prog 81 #[.int .u64 u, .int .i64 10] w fun e w' => e = .returned (.string ⟨(Lib.decDigits u).toArray⟩) ∧ RowKit.Below w.heap.size w w' := by
 have mixed := Tryz.lays172.mixed
 have e115 : ∀ args w, (callFunc 155 args).run Tryz.prog w = .ok (.enter 155 args) w := enters_of Tryz.func155 (by kernel_rfl) rfl
 go_enter Tryz.func81, Tryz.ntmps81
 go_wp2_with (go_at_fn 155; refine (fmt_all u hu64 _ ht).mono ?_; rintro e w' ⟨rfl, hb⟩)
 go_ret
 exact ⟨rfl, hb⟩
def isTen (b : Int) : Bool := b == 10
def s87 (n : U64) (b : Int) : Bool × Value := (decide (0 ≤ n.n ∧ n.n < 18446744073709551616) && isTen b, .string (sz (decZ n.n)))
theorem ok87 : PureOK Tryz.prog 81 (sp2 s87) := shelf2 c87 fun n b hc w ht => by
 simp only [s87, isTen, Bool.and_eq_true, decide_eq_true_eq, beq_iff_eq] at hc
 obtain ⟨⟨h0, h1⟩, rfl⟩ := hc
 have e : Enc.enc n = Value.int .u64 (n.n.toNat : Int) := by
  show Value.int .u64 n.n = _
  rw [Int.toNat_of_nonneg h0]
 rw [e]
 refine (fmt87 n.n.toNat (by omega) w ht).mono fun e w' ⟨h4, h5⟩ => ⟨?_, h5⟩
 rw [h4, sz_zl]
 rfl
end Go.Px
end
section
namespace Go.Fx
open Go Go.Ab
structure Ty where
 k : Int
 p : Int
 q : Int
 v : Bool
 s : ByteArray
structure Vl where
 n : Int
 s : ByteArray
instance : Enc Ty where
 enc t := .agg ⟨[.int .i64 t.k, .int .i64 t.p, .int .i64 t.q, .bool t.v, .string t.s]⟩
 dec | .agg ⟨[.int .i64 k, .int .i64 p, .int .i64 q, .bool v, .string s]⟩ => some ⟨k, p, q, v, s⟩ | _ => none
 dec_some := by
  intro v a h
  split at h
  ·cases h; rfl
  ·cases h
 plain_enc _ := rfl
instance : Enc Vl where
 enc t := .agg ⟨[.int .i64 t.n, .string t.s]⟩
 dec | .agg ⟨[.int .i64 n, .string s]⟩ => some ⟨n, s⟩ | _ => none
 dec_some := by
  intro v a h
  split at h
  ·cases h; rfl
  ·cases h
 plain_enc _ := rfl
abbrev I (n : Int) : Value := .int .i64 n
abbrev B (b : Bool) : Value := .bool b
def e0 : ByteArray := ⟨#[]⟩
def T0 : Ty := ⟨0, 0, 0, false, ⟨#[]⟩⟩
def V0 : Vl := ⟨0, ⟨#[]⟩⟩
abbrev tv (t : Ty) : Value := .agg ⟨[.int .i64 t.k, .int .i64 t.p, .int .i64 t.q, .bool t.v, .string t.s]⟩
abbrev vv (v : Vl) : Value := .agg ⟨[.int .i64 v.n, .string v.s]⟩
abbrev tup (l : List Value) : Value := .tuple ⟨l⟩
def most (k : Int) : Int := if k = 1 then 9 else 31
def Valid (t : Ty) : Prop := (t.k = 1 ∨ t.k = 2) ∧ 1 ≤ t.p ∧ t.p ≤ most t.k ∧ 0 ≤ t.q ∧ t.q ≤ t.p ∧ (t.k = 2 → t.q = 0) ∧ t.v = false ∧ t.s.toList = []
instance (t : Ty) : Decidable (Valid t) := by unfold Valid; infer_instance
def base (k : Int) : Int := if k = 1 then 10 else 2
def pw (b n : Int) : Int := b ^ n.toNat
def bnd (t : Ty) : Int := pw (base t.k) t.p
def check (t : Ty) : Int := if Valid t then 0 else 5
def Fit (v : Vl) (t : Ty) : Prop := v.s.toList = [] ∧ -bnd t < v.n ∧ v.n < bnd t
instance (v : Vl) (t : Ty) : Decidable (Fit v t) := by unfold Fit; infer_instance
def fits (v : Vl) (t : Ty) : Int := if Valid t then (if Fit v t then 0 else 6) else 5
def binT (t : Ty) : Ty := if Valid t then (if t.k = 2 then t else ⟨2, 1 + (t.p * 332 + 99) / 100, 0, false, e0⟩) else T0
def isOp (op : Int) : Bool := decide (5 ≤ op ∧ op ≤ 13)
def unary (op : Int) : Bool := decide (op = 5 ∨ op = 11)
def resQ (op : Int) (a b : Ty) : Int :=
 if a.k = 2 then 0 else if op = 5 ∨ op = 11 then a.q else if op = 8 then min 9 (a.q + b.q) else if op = 9 then max 0 (9 - (a.p - a.q) - b.q) else max a.q b.q
def resD (op : Int) (a b : Ty) : Int :=
 if op = 5 ∨ op = 11 then a.p else if op = 8 then 1 + a.p + b.p else if op = 9 then most a.k else if op = 10 then b.p - b.q + max a.q b.q
 else if op = 12 ∨ op = 13 then max (a.p - a.q) (b.p - b.q) + max a.q b.q else 1 + max (a.p - a.q) (b.p - b.q) + max a.q b.q
def rty (op : Int) (a b : Ty) : Ty := ⟨a.k, min (most a.k) (resD op a b), resQ op a b, false, e0⟩
def resT (op : Int) (a b : Ty) : Ty :=
 if isOp op = false then T0 else if ¬ Valid a then T0 else if unary op then rty op a a else if ¬ Valid b then T0 else if a.k ≠ b.k then T0 else rty op a b
def resE (op : Int) (a b : Ty) : Int :=
 if isOp op = false then 1 else if ¬ Valid a then 5 else if unary op then 0 else if ¬ Valid b then 5 else if a.k ≠ b.k then 5 else 0
def InB (n : Int) (t : Ty) : Prop := -bnd t < n ∧ n < bnd t
instance (n : Int) (t : Ty) : Decidable (InB n t) := by unfold InB; infer_instance
abbrev tyc (t : Ty) : List Value := [.int .i64 t.k, .int .i64 t.p, .int .i64 t.q, .bool t.v, .string t.s]
def fst3 (x y z : Int) : Int := if x ≠ 0 then x else if y ≠ 0 then y else z
def same1 (t a : Ty) : Int := if a.k = t.k then 0 else 5
def R64 (n : Int) : Prop := -9223372036854775808 ≤ n ∧ n ≤ 9223372036854775807
instance (n : Int) : Decidable (R64 n) := by unfold R64; infer_instance
def zer (op b : Int) : Prop := (op = 9 ∨ op = 10) ∧ b = 0
instance (op b : Int) : Decidable (zer op b) := by unfold zer; infer_instance
def Q18 (n : Int) : Prop := -4000000000000000000 ≤ n ∧ n ≤ 4000000000000000000
instance (n : Int) : Decidable (Q18 n) := by unfold Q18; infer_instance
def quoOK (a b up : Int) : Prop := b ≠ 0 ∧ -18 ≤ up ∧ up ≤ 18 ∧ Q18 a ∧ Q18 b ∧ (0 ≤ up → Q18 (a * pw 10 up)) ∧ (up < 0 → Q18 (b * pw 10 (-up)))
instance (a b up : Int) : Decidable (quoOK a b up) := by unfold quoOK; infer_instance
def dvOK (op y : Int) : Prop := op = 10 → y ≠ 0
instance (op y : Int) : Decidable (dvOK op y) := by unfold dvOK; infer_instance
def rOK (n u : Int) : Prop := 1 ≤ u ∧ u ≤ 1000000000 ∧ -4000000000000000000 ≤ n ∧ n ≤ 4000000000000000000
instance (n u : Int) : Decidable (rOK n u) := by unfold rOK; infer_instance
end Go.Fx
end
section
namespace Go.Fx
open Go Go.Ab
theorem w64 {n : Int} (h : -9223372036854775808 ≤ n ∧ n ≤ 9223372036854775807) : IntKind.i64.wrap n = n := by rw [IntKind.wrap_i64]; omega
theorem str0 (s : ByteArray) : (!s.toList == (ByteArray.mk #[]).toList) = !decide (s.toList = []) := by
 have : (ByteArray.mk #[]).toList = [] := by kernel_rfl
 rw [this]
 cases s.toList <;> rfl
end Go.Fx
namespace Go.Fx
open Go Go.Ab
theorem wrap_mul (a b : Int) : IntKind.i64.wrap (IntKind.i64.wrap a * b) = IntKind.i64.wrap (a * b) := by
 simp only [IntKind.wrap_i64]
 have h : ((a + 9223372036854775808) % 18446744073709551616 - 9223372036854775808) * b = a * b + 18446744073709551616 * (-((a + 9223372036854775808) / 18446744073709551616) * b) := by
  have := Int.emod_def (a + 9223372036854775808) 18446744073709551616
  rw [this]
  grind
 rw [h]
 omega
theorem pw_zero (b : Int) {n : Int} (h : n ≤ 0) : pw b n = 1 := by
 rw [pw, show n.toNat = 0 by omega, Int.pow_zero]
theorem pw_succ (b : Int) {n : Int} (h : 0 ≤ n) : pw b (n + 1) = pw b n * b := by
 rw [pw, pw, show (n + 1).toNat = n.toNat + 1 by omega, Int.pow_succ]
theorem pw_add (b : Int) {n m : Int} (h : 0 ≤ n) (h' : 0 ≤ m) : pw b (n + m) = pw b n * pw b m := by
 rw [pw, pw, pw, show (n + m).toNat = n.toNat + m.toNat by omega, Int.pow_add]
theorem pw_pos {b : Int} (hb : 1 ≤ b) (n : Int) : 1 ≤ pw b n := by
 have : 0 < b ^ n.toNat := Int.pow_pos (by omega)
 unfold pw; omega
theorem pw_le {b : Int} (hb : 1 ≤ b) {n m : Int} (h : n ≤ m) : pw b n ≤ pw b m := by
 rcases Int.le_total n 0 with hn | hn
 ·rw [pw_zero b hn]; exact pw_pos hb m
 ·have e : m = n + (m - n) := by omega
  rw [e, pw_add b hn (by omega)]
  have h1 := pw_pos hb n
  have h2 := pw_pos hb (m - n)
  have := Int.mul_le_mul_of_nonneg_left h2 (show 0 ≤ pw b n by omega)
  omega
theorem pw10_18 : pw 10 18 = 1000000000000000000 := by decide
end Go.Fx
namespace Go.Fx
open Go Go.Ab
theorem pw_w64 {b p : Int} (h : b = 10 ∧ p ≤ 18 ∨ b = 2 ∧ p ≤ 62) : IntKind.i64.wrap (pw b p) = pw b p := by
 have h3 : pw 2 62 = 4611686018427387904 := by decide
 have h4 := pw10_18
 rcases h with ⟨rfl, h⟩ | ⟨rfl, h⟩
 ·have h1 := pw_le (b := 10) (by omega) h
  have h2 := pw_pos (b := 10) (by omega) p
  exact w64 (by omega)
 ·have h1 := pw_le (b := 2) (by omega) h
  have h2 := pw_pos (b := 2) (by omega) p
  exact w64 (by omega)
end Go.Fx
namespace Go.Fx
open Go Go.Ab
end Go.Fx
namespace Go.Fx
end Go.Fx
namespace Go.Fx
open Go Go.Ab
theorem imax_max (x y : Int) : imax x y = max x y := by unfold imax; grind
theorem imin_min (x y : Int) : imin x y = min x y := by unfold imin; grind
theorem valid_r {t : Ty} (h : Valid t) : 1 ≤ t.p ∧ t.p ≤ 31 ∧ 0 ≤ t.q ∧ t.q ≤ t.p ∧ t.q ≤ 9 := by grind [Valid, most]
theorem most_r (k : Int) : 9 ≤ most k ∧ most k ≤ 31 := by grind [most]
end Go.Fx
namespace Go.Fx
open Go Go.Ab
theorem bin_tab : ∀ n : Nat, n < 9 → isIntAt .i64 [.int .i64 5, .int .i64 8, .int .i64 11, .int .i64 15, .int .i64 18, .int .i64 21, .int .i64 25, .int .i64 28, .int .i64 31] n = true ∧
  intAt [.int .i64 5, .int .i64 8, .int .i64 11, .int .i64 15, .int .i64 18, .int .i64 21, .int .i64 25, .int .i64 28, .int .i64 31] n = 1 + ((n + 1) * 332 + 99) / 100 := by decide
end Go.Fx
end
section
namespace Go.Cv
def dig (c : Int) : Bool := decide (48 ≤ c ∧ c ≤ 57)
abbrev Num := Bool × List Int × Int
section
variable (normZ : Bool → List Int → Int → Num) (binD : List Int → List Int)
structure Rd where
 neg : Bool := false
 bin : Bool := false
 down : Bool := false
 ds : List Int := []
 sc : Int := 0
 pw : Int := 0
end
section
variable {normZ : Bool → List Int → Int → Num} {binD : List Int → List Int}
end
end Go.Cv
end
section
namespace Go.Cv
end Go.Cv
end
noncomputable section
namespace Go.Cx
open Go Go.Ab Go.Proofs Go.Shelf Go.Px
open Go.Fx (Ty Vl)
structure Nu where
 g : Bool
 d : ByteArray
 c : Int
instance : Enc Nu where
 enc t := .agg ⟨[.bool t.g, .string t.d, .int .i64 t.c]⟩
 dec | .agg ⟨[.bool g, .string d, .int .i64 c]⟩ => some ⟨g, d, c⟩ | _ => none
 dec_some := by
  intro v a h
  split at h
  ·cases h; rfl
  ·cases h
 plain_enc _ := rfl
theorem c154 : Callable Tryz.prog 154 := cal Tryz.func154 (by kernel_rfl) (by kernel_rfl)
theorem c131 : Callable Tryz.prog 131 := cal Tryz.func131 (by kernel_rfl) (by kernel_rfl)
theorem c55 : Callable Tryz.prog 55 := cal Tryz.func55 (by kernel_rfl) (by kernel_rfl)
theorem c30 : Callable Tryz.prog 30 := cal Tryz.func30 (by kernel_rfl) (by kernel_rfl)
theorem c29 : Callable Tryz.prog 29 := cal Tryz.func29 (by kernel_rfl) (by kernel_rfl)
def tlZ (l : List Int) (c : Int) : List Int := l.dropWhile (· == c)
def trZ (l : List Int) (c : Int) : List Int := (l.reverse.dropWhile (· == c)).reverse
noncomputable def s154 (s t : ByteArray) : Bool × Value := (oneB t && asc (bz t), .string (szO (tlZ (bz s) ((bz t).getD 0 0))))
theorem ok154 : PureOK Tryz.prog 154 (sp2 s154) := shelf2 c154 fun s t hc w _ => by
 simp only [s154, Bool.and_eq_true] at hc
 obtain ⟨c, h1, h2⟩ := oneB_spec hc.1
 have hlt : c.toNat < 128 := asc_spec hc.2 0 c (by rw [h1]; rfl)
 have e : Enc.enc t = Value.string ⟨#[c]⟩ := congrArg Value.string h1
 rw [e]
 refine (Any.strings_TrimLeft_one Tryz.lays161 s c hlt w).mono fun e w' ⟨h3, h4⟩ => ⟨?_, below_of_eq h4⟩
 rw [h3, sz_zl]
 simp only [s154, Lib.trimLeftB, szO_eq, tlZ]
 rw [dropW_zl (q := (· == (bz t).getD 0 0)) (fun b => by rw [← h2, Bool.eq_iff_iff, beq_iff_eq, beq_iff_eq, u8_eq]), bz_zl]
noncomputable def s131 (s t : ByteArray) : Bool × Value := (decide (s.size ≤ 9223372036854775807) && (oneB t && asc (bz t)), .string (szO (trZ (bz s) ((bz t).getD 0 0))))
theorem ok131 : PureOK Tryz.prog 131 (sp2 s131) := shelf2 c131 fun s t hc w _ => by
 simp only [s131, Bool.and_eq_true, decide_eq_true_eq] at hc
 obtain ⟨c, h1, h2⟩ := oneB_spec hc.2.1
 have hlt : c.toNat < 128 := asc_spec hc.2.2 0 c (by rw [h1]; rfl)
 have e : Enc.enc t = Value.string ⟨#[c]⟩ := congrArg Value.string h1
 rw [e]
 refine (Any.strings_TrimRight_one Tryz.lays162 s c hlt w hc.1).mono fun e w' ⟨h3, h4⟩ => ⟨?_, below_of_eq h4⟩
 rw [h3, sz_zl]
 simp only [s131, Lib.trimRightB, szO_eq, trZ]
 rw [zl, List.map_reverse]
 have hq : ∀ b : UInt8, (b == c) = ((b.toNat : Int) == (bz t).getD 0 0) := fun b => by rw [← h2, Bool.eq_iff_iff, beq_iff_eq, beq_iff_eq, u8_eq]
 have := dropW_zl (p := (· == c)) (q := (· == (bz t).getD 0 0)) hq s.data.toList.reverse
 rw [zl, zl, List.map_reverse] at this
 rw [this]
 rfl
noncomputable def s55 (s t : ByteArray) : Bool × Value := (decide (s.size ≤ 9223372036854775807) && (decide (t.size ≤ 1000) && asc (bz t)), .string (szO (trimZ (bz s) (bz t))))
theorem ok55 : PureOK Tryz.prog 55 (sp2 s55) := shelf2 c55 fun s t hc w _ => by
 simp only [s55, Bool.and_eq_true, decide_eq_true_eq] at hc
 obtain ⟨h1, h2, h3⟩ := hc
 refine (Any.strings_Trim_laid Tryz.lays160 info128' s t w (by omega) (by omega) (asc_spec h3)).mono fun e w' ⟨h5, h6⟩ => ⟨?_, h6⟩
 rw [h5, sz_zl, trim_zl]
 simp only [s55, szO_eq]
 rfl
def s30 (s : ByteArray) (n : Int) : Bool × Value := (decide (0 ≤ n ∧ n ≤ 1000 ∧ s.size ≤ 1000), .string (szO (repZ (bz s) n.toNat)))
theorem ok30 : PureOK Tryz.prog 30 (sp2 s30) := shelf2 c30 fun s n hc w _ => by
 obtain ⟨h1, h2, h3⟩ := of_decide_eq_true hc
 have e : Enc.enc n = Value.int .i64 (n.toNat : Int) := by
  show Value.int .i64 n = _
  rw [Int.toNat_of_nonneg h1]
 rw [e]
 have hm : s.size * n.toNat ≤ 1000 * 1000 := Nat.mul_le_mul h3 (by omega)
 refine (Any.strings_Repeat Tryz.lays105 Tryz.Builder_Extra_105 s n.toNat w (by omega) (by omega)).mono fun e w' ⟨h4, h5⟩ => ⟨?_, h5⟩
 rw [h4, sz_zl, rep_zl]
 simp only [s30, szO_eq]
 rfl
def itoZ (n : Int) : List Int := zl (Lib.itoa n)
def s29 (n : Int) : Bool × Value := (decide (-9223372036854775808 ≤ n ∧ n ≤ 9223372036854775807), .string (szO (itoZ n)))
theorem ok29 : PureOK Tryz.prog 29 (sp1 s29) := shelf1 c29 fun n hc w ht => by
 obtain ⟨h0, h1⟩ := of_decide_eq_true hc
 refine (Any.strconv_Itoa (ρ := Tryz.laysM171_ren) Tryz.laysM171 n h0 h1 w (tab_pow ht)).mono fun e w' ⟨h2, k, os, h3⟩ => ⟨?_, by rw [h3]; exact Lib.below_grow _ _ (Nat.le_refl _) _ _⟩
 rw [h2, sz_zl]
 simp only [s29, szO_eq]
 rfl
end Go.Cx
end
noncomputable section
set_option maxHeartbeats 3200000
namespace Go.Cx
open Go Go.Ab Go.Proofs Go.Shelf Go.Px Go.Cv
open Go.Fx (Ty Vl check Valid most base pw bnd Fit fits tv vv tup V0 T0 pw_zero pw_succ wrap_mul pw_w64 str0)
def G0 : Env := Env.nil
theorem ok_G0 : EnvOK Tryz.prog G0 := env_nil
theorem empty_iff (s : ByteArray) : (s.toList == (ByteArray.mk #[]).toList) = decide (bz s = []) := by
 rw [toList_beq]
 rfl
def s152 (c : U8) : Bool × Value := (true, B (c.n == 32))
theorem fn152 : Fn1 Tryz.prog 152 Tryz.f152 := ⟨Tryz.func152, by kernel_rfl, by kernel_rfl, by kernel_rfl⟩
theorem v152 (c : U8) (R : Value → Prop) : bodyQ Tryz.prog G0 noL Tryz.f152 [Enc.enc c] (fun _ => none) 0 (fun v _ _ => R v) = ( R (B (U8.n c == 32))) := by kernel_rfl
theorem ok152 : PureOK Tryz.prog 152 (sp1 s152) := by
 refine qure1 ok_G0 hmix fn152 lokf_none (Nat.le_of_ble_eq_true (by kernel_rfl)) fun c hc => ?_
 rw [DoesQ, v152]
 try dsimp only [s152]
def s213 (c : U8) : Bool × Value := (true, B (dig c.n))
theorem fn213 : Fn1 Tryz.prog 213 Tryz.f213 := ⟨Tryz.func213, by kernel_rfl, by kernel_rfl, by kernel_rfl⟩
theorem v213 (c : U8) (R : Value → Prop) : bodyQ Tryz.prog G0 noL Tryz.f213 [Enc.enc c] (fun _ => none) 0 (fun v _ _ => R v) = ( bif decide (U8.n c ≥ 48) || true then R (B (decide (U8.n c ≥ 48) && decide (U8.n c ≤ 57))) else False) := by kernel_rfl
theorem ok213 : PureOK Tryz.prog 213 (sp1 s213) := by
 refine qure1 ok_G0 hmix fn213 lokf_none (Nat.le_of_ble_eq_true (by kernel_rfl)) fun c hc => ?_
 rw [DoesQ, v213]
 try dsimp only [s213]
 refine c_t (by simp) ?_
 show Value.bool _ = Value.bool _
 congr 1
 rw [Bool.eq_iff_iff]
 simp [dig]
def s141 (k : Int) : Bool × Value := (true, I (most k))
theorem fn141 : Fn1 Tryz.prog 141 Tryz.f141 := ⟨Tryz.func141, by kernel_rfl, by kernel_rfl, by kernel_rfl⟩
theorem v141 (k : Int) (R : Value → Prop) : bodyQ Tryz.prog G0 noL Tryz.f141 [Enc.enc k] (fun _ => none) 0 (fun v _ _ => R v) = ( bif k == 1 then R (I 9) else R (I 31)) := by kernel_rfl
theorem ok141 : PureOK Tryz.prog 141 (sp1 s141) := by
 refine qure1 ok_G0 hmix fn141 lokf_none (Nat.le_of_ble_eq_true (by kernel_rfl)) fun k hc => ?_
 rw [DoesQ, v141]
 try dsimp only [s141]
 repeat' refine cond_intro (fun h => ?_) (fun h => ?_)
 all_goals grind [s141, most]
def G1 : Env := Env.nil.add 141 (sp1 s141)
theorem ok_G1 : EnvOK Tryz.prog G1 := env_add env_nil ok141
def s66 (t : Ty) : Bool × Value := (true, I (check t))
theorem fn66 : Fn1 Tryz.prog 66 Tryz.f66 := ⟨Tryz.func66, by kernel_rfl, by kernel_rfl, by kernel_rfl⟩
theorem v66 (t : Ty) (R : Value → Prop) : bodyQ Tryz.prog G1 noL Tryz.f66 [Enc.enc t] (fun _ => none) 0 (fun v _ _ => R v) = ( bif bif !Ty.k t == 1 then !Ty.k t == 2 || (decide (Ty.p t < 1) || (decide (Ty.p t > most (Ty.k t)) || (decide (Ty.q t < 0) || (decide (Ty.q t > Ty.p t) || bif Ty.k t == 2 then Ty.q t != 0 || (Ty.v t || true) else Ty.v t || true)))) else decide (Ty.p t < 1) || (decide (Ty.p t > most (Ty.k t)) || (decide (Ty.q t < 0) || (decide (Ty.q t > Ty.p t) || bif Ty.k t == 2 then Ty.q t != 0 || (Ty.v t || true) else Ty.v t || true))) then bif bif !Ty.k t == 1 then !Ty.k t == 2 || (decide (Ty.p t < 1) || (decide (Ty.p t > most (Ty.k t)) || (decide (Ty.q t < 0) || (decide (Ty.q t > Ty.p t) || bif Ty.k t == 2 then Ty.q t != 0 || (Ty.v t || !ByteArray.toList (Ty.s t) == ByteArray.toList (ByteArray.mk #[])) else Ty.v t || !ByteArray.toList (Ty.s t) == ByteArray.toList (ByteArray.mk #[]))))) else decide (Ty.p t < 1) || (decide (Ty.p t > most (Ty.k t)) || (decide (Ty.q t < 0) || (decide (Ty.q t > Ty.p t) || bif Ty.k t == 2 then Ty.q t != 0 || (Ty.v t || !ByteArray.toList (Ty.s t) == ByteArray.toList (ByteArray.mk #[])) else Ty.v t || !ByteArray.toList (Ty.s t) == ByteArray.toList (ByteArray.mk #[])))) then R (I 5) else R (I 0) else False) := by kernel_rfl
theorem ok66 : PureOK Tryz.prog 66 (sp1 s66) := by
 refine qure1 ok_G1 hmix fn66 lokf_none (Nat.le_of_ble_eq_true (by kernel_rfl)) fun t hc => ?_
 rw [DoesQ, v66]
 try dsimp only [s66]
 repeat' refine cond_intro (fun h => ?_) (fun h => ?_)
 all_goals grind [s66, check, Valid, str0]
def s142 (t : Ty) : Bool × Value := (true, I (check t))
theorem fn142 : Fn1 Tryz.prog 142 Tryz.f142 := ⟨Tryz.func142, by kernel_rfl, by kernel_rfl, by kernel_rfl⟩
theorem v142 (t : Ty) (R : Value → Prop) : bodyQ Tryz.prog G1 noL Tryz.f142 [Enc.enc t] (fun _ => none) 0 (fun v _ _ => R v) = ( bif Ty.v t || true then bif Ty.v t || !ByteArray.toList (Ty.s t) == ByteArray.toList (ByteArray.mk #[]) then R (I 5) else bif bif Ty.k t == 1 then bif decide (Ty.p t ≥ 1) then bif decide (Ty.p t ≤ 9) then decide (Ty.q t ≥ 0) || true else true else true else true then bif Ty.k t == 1 && (decide (Ty.p t ≥ 1) && (decide (Ty.p t ≤ 9) && (decide (Ty.q t ≥ 0) && decide (Ty.q t ≤ Ty.p t)))) then R (I 0) else bif bif Ty.k t == 2 then bif decide (Ty.p t ≥ 1) then decide (Ty.p t ≤ 31) || true else true else true then bif Ty.k t == 2 && (decide (Ty.p t ≥ 1) && (decide (Ty.p t ≤ 31) && Ty.q t == 0)) then R (I 0) else R (I 5) else False else False else False) := by kernel_rfl
theorem ok142 : PureOK Tryz.prog 142 (sp1 s142) := by
 refine qure1 ok_G1 hmix fn142 lokf_none (Nat.le_of_ble_eq_true (by kernel_rfl)) fun t hc => ?_
 rw [DoesQ, v142]
 try dsimp only [s142]
 repeat' refine cond_intro (fun h => ?_) (fun h => ?_)
 all_goals grind [s142, check, Valid, str0, most]
def G2 : Env := (Env.nil.add 66 (sp1 s66)).add 142 (sp1 s142)
theorem ok_G2 : EnvOK Tryz.prog G2 := env_add (env_add env_nil ok66) ok142
def s85 (t : Ty) : Bool × Value := (true, B (decide (Valid t)))
theorem fn85 : Fn1 Tryz.prog 85 Tryz.f85 := ⟨Tryz.func85, by kernel_rfl, by kernel_rfl, by kernel_rfl⟩
theorem v85 (t : Ty) (R : Value → Prop) : bodyQ Tryz.prog G2 noL Tryz.f85 [Enc.enc t] (fun _ => none) 0 (fun v _ _ => R v) = ( R (B (check t == 0))) := by kernel_rfl
theorem ok85 : PureOK Tryz.prog 85 (sp1 s85) := by
 refine qure1 ok_G2 hmix fn85 lokf_none (Nat.le_of_ble_eq_true (by kernel_rfl)) fun t hc => ?_
 rw [DoesQ, v85]
 try dsimp only [s85]
 show Value.bool _ = Value.bool _
 congr 1
 rw [check]
 split <;> simp_all
def s68 (t : Ty) : Bool × Value := (true, B (decide (Valid t)))
theorem fn68 : Fn1 Tryz.prog 68 Tryz.f68 := ⟨Tryz.func68, by kernel_rfl, by kernel_rfl, by kernel_rfl⟩
theorem v68 (t : Ty) (R : Value → Prop) : bodyQ Tryz.prog G2 noL Tryz.f68 [Enc.enc t] (fun _ => none) 0 (fun v _ _ => R v) = ( R (B (check t == 0))) := by kernel_rfl
theorem ok68 : PureOK Tryz.prog 68 (sp1 s68) := by
 refine qure1 ok_G2 hmix fn68 lokf_none (Nat.le_of_ble_eq_true (by kernel_rfl)) fun t hc => ?_
 rw [DoesQ, v68]
 try dsimp only [s68]
 show Value.bool _ = Value.bool _
 congr 1
 rw [check]
 split <;> simp_all
end Go.Cx
end
noncomputable section
set_option maxHeartbeats 3200000
namespace Go.Cx
open Go Go.Ab Go.Proofs Go.Shelf Go.Px Go.Cv
open Go.Fx (Ty Vl check Valid most base pw bnd Fit fits tv vv tup V0 T0 pw_zero pw_succ wrap_mul pw_w64 str0)
end Go.Cx
end
noncomputable section
set_option maxHeartbeats 3200000
namespace Go.Cx
open Go Go.Ab Go.Proofs Go.Shelf Go.Px Go.Cv
open Go.Fx (Ty Vl check Valid most base pw bnd Fit fits tv vv tup V0 T0 pw_zero pw_succ wrap_mul pw_w64 str0)
def chk4 (t : Ty) : Int := if Valid t then 0
 else if t.k = 3 ∧ t.q = 0 ∧ bz t.s = [] ∧ 0 ≤ t.p ∧ t.p ≤ 255 then 0
 else if t.k = 4 ∧ t.q = 0 ∧ bz t.s = [] ∧ t.v = false ∧ 0 ≤ t.p ∧ t.p ≤ 64 then 0
 else if t.k = 5 ∧ t.p = 0 ∧ t.q = 0 ∧ t.v = false ∧ pE (bz t.s) = 0 then 0
 else if t.k = 6 ∧ t.q = 0 ∧ bz t.s = [] ∧ t.p = 0 ∧ t.v = false then 0 else 5
def G30 : Env := (Env.nil.add 68 (sp1 s68)).add 69 (sp1 Px.s48)
theorem ok_G30 : EnvOK Tryz.prog G30 := env_add (env_add env_nil ok68) Px.ok48
def s21 (t : Ty) : Bool × Value := (decide (t.s.size ≤ 9223372036854775807), I (chk4 t))
theorem fn21 : Fn1 Tryz.prog 21 Tryz.f21 := ⟨Tryz.func21, by kernel_rfl, by kernel_rfl, by kernel_rfl⟩
theorem v21 (t : Ty) (R : Value → Prop) : bodyQ Tryz.prog G30 noL Tryz.f21 [Enc.enc t] (fun _ => none) 0 (fun v _ _ => R v) = ( bif decide (Valid t) then R (I 0) else bif Ty.q t == 0 || true then bif Ty.k t == 3 then bif bif Ty.q t == 0 && ByteArray.toList (Ty.s t) == ByteArray.toList (ByteArray.mk #[]) then decide (Ty.p t ≥ 0) || true else true then bif Ty.q t == 0 && ByteArray.toList (Ty.s t) == ByteArray.toList (ByteArray.mk #[]) && (decide (Ty.p t ≥ 0) && decide (Ty.p t ≤ 255)) then R (I 0) else R (I 5) else False else bif Ty.k t == 4 then bif bif Ty.q t == 0 && ByteArray.toList (Ty.s t) == ByteArray.toList (ByteArray.mk #[]) then bif !Ty.v t then decide (Ty.p t ≥ 0) || true else true else true then bif Ty.q t == 0 && ByteArray.toList (Ty.s t) == ByteArray.toList (ByteArray.mk #[]) && (!Ty.v t && (decide (Ty.p t ≥ 0) && decide (Ty.p t ≤ 64))) then R (I 0) else R (I 5) else False else bif Ty.k t == 5 then bif bif Ty.p t == 0 then bif Ty.q t == 0 then bif !Ty.v t then decide (ByteArray.size (Ty.s t) ≤ 9223372036854775807) && true else true else true else true then bif Ty.p t == 0 && (Ty.q t == 0 && (!Ty.v t && pE (bz (Ty.s t)) == 0)) then R (I 0) else R (I 5) else False else bif Ty.k t == 6 then bif bif Ty.q t == 0 && ByteArray.toList (Ty.s t) == ByteArray.toList (ByteArray.mk #[]) then Ty.p t == 0 || true else true then bif Ty.q t == 0 && ByteArray.toList (Ty.s t) == ByteArray.toList (ByteArray.mk #[]) && (Ty.p t == 0 && !Ty.v t) then R (I 0) else R (I 5) else False else R (I 5) else False) := by kernel_rfl
theorem ok21 : PureOK Tryz.prog 21 (sp1 s21) := by
 refine qure1 ok_G30 hmix fn21 lokf_none (Nat.le_of_ble_eq_true (by kernel_rfl)) fun t hc => ?_
 rw [DoesQ, v21]
 have hc : (t.s.size ≤ 9223372036854775807) := of_decide_eq_true hc
 try dsimp only [s21]
 rw [empty_iff]
 unfold chk4
 by_cases hv : Valid t
 ·rw [if_pos hv]
  exact c_t (decide_eq_true hv) rfl
 rw [if_neg hv]
 refine c_f (decide_eq_false hv) (c_t (Bool.or_true _) ?_)
 simp only [Bool.or_true, Bool.and_true, Bool.cond_self, decide_eq_true hc]
 repeat' refine cond_intro (fun h => ?_) (fun h => ?_)
 all_goals first | (exfalso; simp at h; done) | (congr 1; grind)
end Go.Cx
end
noncomputable section
set_option maxHeartbeats 3200000
namespace Go.Cx
open Go Go.Ab Go.Proofs Go.Shelf Go.Px Go.Cv
open Go.Fx (Ty Vl check Valid most base pw bnd Fit fits tv vv tup V0 T0 pw_zero pw_succ wrap_mul pw_w64 str0)
end Go.Cx
end
section
namespace Go.Cv
section
variable {l : List Int} {r : Rd} {c : Int}
variable {s p : Bool}
variable {g : Bool} {m : Nat}
end
end Go.Cv
end
noncomputable section
set_option maxHeartbeats 3200000
namespace Go.Cx
open Go Go.Ab Go.Proofs Go.Shelf Go.Px Go.Cv
open Go.Fx (Ty Vl check Valid most base pw bnd Fit fits tv vv tup V0 T0 pw_zero pw_succ wrap_mul pw_w64 str0)
inductive Ms where
 | beg | bod (s p : Bool) | exq (g : Bool) (m : Int) | beh
def Ms.v : Ms → Value
 | .beg => .func (.func 151) ⟨[]⟩ ⟨[]⟩
 | .bod _ _ => .func (.func 212) ⟨[]⟩ ⟨[.pointer (some ⟨200, 0, some 0⟩), .pointer (some ⟨201, 0, some 0⟩)]⟩
 | .exq _ _ => .func (.func 263) ⟨[]⟩ ⟨[.pointer (some ⟨200, 0, some 0⟩), .pointer (some ⟨201, 0, some 0⟩)]⟩
 | .beh => .func (.func 264) ⟨[]⟩ ⟨[]⟩
def Ms.ok (M : Ms) (e : Bool) (pw sc : Int) : Bool := match M with
 | .beg => e && decide (pw = 0)
 | .bod s _ => e == s && decide (pw = 0)
 | .exq g m => e == decide (0 < m) && decide (0 ≤ m ∧ m ≤ 2 ∧ (g = false → m = 0) ∧ 0 ≤ pw ∧ (m = 0 → pw = 0) ∧ (m = 1 → pw < 10) ∧ pw < 100)
 | .beh => e && decide (0 ≤ pw ∧ pw < 100)
end Go.Cx
end
noncomputable section
set_option maxHeartbeats 3200000
namespace Go.Cx
open Go Go.Ab Go.Proofs Go.Shelf Go.Px Go.Cv
open Go.Fx (Ty Vl check Valid most base pw bnd Fit fits tv vv tup V0 T0 pw_zero pw_succ wrap_mul pw_w64 str0)
theorem fn20 : Fn1 Tryz.prog 20 Tryz.f20 := ⟨Tryz.func20, by kernel_rfl, by kernel_rfl, by kernel_rfl⟩
end Go.Cx
end
noncomputable section
set_option maxHeartbeats 3200000
namespace Go.Cx
open Go Go.Ab Go.Proofs Go.Shelf Go.Px Go.Cv
open Go.Fx (Ty Vl check Valid most base pw bnd Fit fits tv vv tup V0 T0 pw_zero pw_succ wrap_mul pw_w64 str0)
end Go.Cx
end
noncomputable section
set_option maxHeartbeats 3200000
namespace Go.Cx
open Go Go.Ab Go.Proofs Go.Shelf Go.Px Go.Cv
open Go.Fx (Ty Vl check Valid most base pw bnd Fit fits tv vv tup V0 T0 pw_zero pw_succ wrap_mul pw_w64 str0)
end Go.Cx
end
noncomputable section
set_option maxHeartbeats 3200000
namespace Go.Cx
open Go Go.Ab Go.Proofs Go.Shelf Go.Px Go.Cv
open Go.Fx (Ty Vl check Valid most base pw bnd Fit fits tv vv tup V0 T0 pw_zero pw_succ wrap_mul pw_w64 str0)
end Go.Cx
end
noncomputable section
set_option maxHeartbeats 3200000
namespace Go.Cx
open Go Go.Ab Go.Proofs Go.Shelf Go.Px Go.Cv
open Go.Fx (Ty Vl check Valid most base pw bnd Fit fits tv vv tup V0 T0 pw_zero pw_succ wrap_mul pw_w64 str0)
structure Wh where
 n : Int
 t : Ty
instance : Enc Wh where
 enc x := .agg ⟨[.int .i64 x.n, .int .i64 x.t.k, .int .i64 x.t.p, .int .i64 x.t.q, .bool x.t.v, .string x.t.s]⟩
 dec | .agg ⟨[.int .i64 n, .int .i64 k, .int .i64 p, .int .i64 q, .bool v, .string s]⟩ => some ⟨n, ⟨k, p, q, v, s⟩⟩ | _ => none
 dec_some := by
  intro v a h
  split at h
  ·cases h; rfl
  ·cases h
 plain_enc _ := rfl
def wid (t : Ty) : Int := if t.k = 2 then 1 + (100 * t.p + 331) / 332 + 3 else t.p + 3
def K5 : Env := Env.nil
theorem ok_K5 : EnvOK Tryz.prog K5 := env_nil
def s112 (t : Ty) : Bool × Value := (decide (0 ≤ t.p ∧ t.p ≤ 1000), I (wid t))
theorem fn112 : Fn1 Tryz.prog 112 Tryz.f112 := ⟨Tryz.func112, by kernel_rfl, by kernel_rfl, by kernel_rfl⟩
theorem v112 (t : Ty) (R : Value → Prop) : bodyQ Tryz.prog K5 noL Tryz.f112 [Enc.enc t] (fun _ => none) 0 (fun v _ _ => R v) = ( bif Ty.k t == 2 then R (I (IntKind.wrap .i64 (IntKind.wrap .i64 (1 + IntKind.wrap .i64 (Int.tdiv (IntKind.wrap .i64 (IntKind.wrap .i64 (100 * Ty.p t) + 331)) 332)) + 3))) else R (I (IntKind.wrap .i64 (Ty.p t + 3)))) := by kernel_rfl
theorem ok112 : PureOK Tryz.prog 112 (sp1 s112) := by
 refine qure1 ok_K5 hmix fn112 lokf_none (Nat.le_of_ble_eq_true (by kernel_rfl)) fun t hc => ?_
 rw [DoesQ, v112]
 have hc : (0 ≤ t.p ∧ t.p ≤ 1000) := of_decide_eq_true hc
 try dsimp only [s112]
 unfold wid
 refine cond_intro (fun h => ?_) (fun h => ?_)
 ·have h : t.k = 2 := eq_of_beq h
  have hd : (100 * t.p + 331).tdiv 332 = (100 * t.p + 331) / 332 := Int.tdiv_eq_ediv_of_nonneg (by omega)
  rw [if_pos h, w64 (n := 100 * t.p) (by omega), w64 (n := 100 * t.p + 331) (by omega), hd, w64 (n := (100 * t.p + 331) / 332) (by omega), w64 (n := 1 + (100 * t.p + 331) / 332) (by omega), w64 (by omega)]
 ·have h : ¬ t.k = 2 := by simpa using h
  rw [if_neg h, w64 (by omega)]
end Go.Cx
end
section
namespace Go.Cx
open Go Go.Proofs Go.RowKit Go.Extern.Stop Go.Stop Go.Extern
theorem as_nil (t : Value) (w : World) :
  Calls Tryz.prog 100 #[.nilIface, t] w fun e w' => e = .returned (.bool false) ∧ w' = w := by
 go_enter Tryz.func100, Tryz.ntmps100
 go_wp2
 go_ret
 exact ⟨rfl, rfl⟩
theorem a_valueOf121 (t : Addr) (w : World) : (ReflectliteValue.unpack (.iface 121 (.pointer (some t)))).run Tryz.prog w
  = .ok (.agg #[.pointer (some ⟨10, 121, none⟩), .pointer (some ⟨w.heap.size, 0, none⟩), .int .u64 150]) (w.alloc (.cells #[.pointer (some t)] 121)) := by kernel_rfl
theorem a_type121 (a : Addr) (w : World) : (ReflectliteValue.methodAny (ReflectliteValue.valueError "reflectlite.Value.Type" 0) (fun t _ _ _ => ReflectliteType.toType t) #[.agg #[.pointer (some ⟨10, 121, none⟩), .pointer (some a), .int .u64 150]]).run Tryz.prog w
  = .ok (.iface 229 (.agg #[.pointer (some ⟨10, 121, none⟩)])) w := by kernel_rfl
theorem a_kind121 (w : World) : ((ReflectliteType.abiMethod fun t => (fun a : Nat => Value.int IntKind.u8 (a : Int)) <$> Rtype.kind t) #[.pointer (some ⟨10, 121, none⟩)]).run Tryz.prog w = .ok (.int .u8 22) w := by kernel_rfl
theorem a_kind119 (w : World) : ((ReflectliteType.abiMethod fun t => (fun a : Nat => Value.int IntKind.u8 (a : Int)) <$> Rtype.kind t) #[.pointer (some ⟨10, 119, none⟩)]).run Tryz.prog w = .ok (.int .u8 25) w := by kernel_rfl
theorem a_rlm (z : Sem Value) (f : TypeId → Addr → Nat → Nat → Sem Value) (v : Value) :
  ReflectliteValue.method z f #[v] = (do match ← ReflectliteValue.parts v with | none => z | some (t, a, fl) => f t a fl (fl % 32)) := rfl
theorem a_parts121 (a : Addr) (w : World) : (ReflectliteValue.parts (.agg #[.pointer (some ⟨10, 121, none⟩), .pointer (some a), .int .u64 150])).run Tryz.prog w = .ok (some (121, a, 150)) w := by kernel_rfl
theorem a_isNil121 (a p : Addr) (W : World) (ha : W.cell? a = some (.pointer (some p))) :
  (ReflectliteValue.method (ReflectliteValue.valueError "reflectlite.Value.IsNil" 0) ReflectliteValue.isNil #[.agg #[.pointer (some ⟨10, 121, none⟩), .pointer (some a), .int .u64 150]]).run Tryz.prog W = .ok (.bool false) W := by
 rw [a_rlm]
 simp only [Sem.run_bind, a_parts121, Result.andThen]
 simp [ReflectliteValue.isNil, loadVar, isAgg, underlying, Tryz.underlying121, ha, Result.andThen]
theorem a_methodKind (h : Value) (w : World) : (Go.method 421 229 (.agg #[h]) "Kind").run Tryz.prog w = .ok (316, h) w := by kernel_rfl
theorem a_methodElem (h : Value) (w : World) : (Go.method 421 229 (.agg #[h]) "Elem").run Tryz.prog w = .ok (331, .agg #[h]) w := by kernel_rfl
theorem a_methodImplements (h : Value) (w : World) : (Go.method 421 229 (.agg #[h]) "Implements").run Tryz.prog w = .ok (332, .agg #[h]) w := by kernel_rfl
theorem a_methodAssignableTo (h : Value) (w : World) : (Go.method 421 229 (.agg #[h]) "AssignableTo").run Tryz.prog w = .ok (329, .agg #[h]) w := by kernel_rfl
theorem a_elem121 (w : World) : (ReflectliteType.method ReflectliteType.elem #[.agg #[.pointer (some ⟨10, 121, none⟩)]]).run Tryz.prog w = .ok (.iface 229 (.agg #[.pointer (some ⟨10, 119, none⟩)])) w := by kernel_rfl
theorem a_implements119 (w : World) : (ReflectliteType.relation "Implements" ReflectliteType.implements_ #[.agg #[.pointer (some ⟨10, 119, none⟩)], .iface 229 (.agg #[.pointer (some ⟨10, 105, none⟩)])]).run Tryz.prog w = .ok (.bool true) w := by kernel_rfl
theorem a_typeOf119 (v : Value) (w : World) : (ReflectliteType.typeOf #[.iface 119 v]).run Tryz.prog w = .ok (.iface 229 (.agg #[.pointer (some ⟨10, 119, none⟩)])) w := by kernel_rfl
theorem a_assignable119 (w : World) : (ReflectliteType.relation "AssignableTo" ReflectliteType.assignableTo #[.agg #[.pointer (some ⟨10, 119, none⟩)], .iface 229 (.agg #[.pointer (some ⟨10, 119, none⟩)])]).run Tryz.prog w = .ok (.bool true) w := by kernel_rfl
theorem a_valueOf119 (s : ByteArray) (w : World) : (ReflectliteValue.unpack (.iface 119 (.agg #[.string s]))).run Tryz.prog w
  = .ok (.agg #[.pointer (some ⟨10, 119, none⟩), .pointer (some ⟨w.heap.size, 0, none⟩), .int .u64 153]) (w.alloc (.cells #[.string s] 119)) := by kernel_rfl
theorem a_elemOf121 (w : World) : (Rtype.elem? 121).run Tryz.prog w = .ok (some 119) w := by kernel_rfl
theorem a_mk119 (p : Addr) (w : World) : (ReflectliteValue.mk 119 p ReflectliteValue.flagAddr).run Tryz.prog w = .ok (.agg #[.pointer (some ⟨10, 119, none⟩), .pointer (some p), .int .u64 409]) w := by kernel_rfl
theorem a_elemV121 (a p : Addr) (W : World) (ha : W.cell? a = some (.pointer (some p))) :
  (ReflectliteValue.method (ReflectliteValue.valueError "reflectlite.Value.Elem" 0) ReflectliteValue.elem #[.agg #[.pointer (some ⟨10, 121, none⟩), .pointer (some a), .int .u64 150]]).run Tryz.prog W
   = .ok (.agg #[.pointer (some ⟨10, 119, none⟩), .pointer (some p), .int .u64 409]) W := by
 rw [a_rlm]
 simp only [Sem.run_bind, a_parts121, Result.andThen]
 simp [ReflectliteValue.elem, loadVar, isAgg, underlying, Tryz.underlying121, ha, Result.andThen, a_elemOf121, a_mk119]
theorem a_rls (v x : Value) : ReflectliteValue.set #[v, x] = (do
  let (some (dst, a, fl), some (src, b, _)) := (← ReflectliteValue.parts v, ← ReflectliteValue.parts x)
   | unsupported (.noEntry "extern/(internal/reflectlite.Value).Set.zeroValue")
  if fl / ReflectliteValue.flagAddr % 2 == 0 then unsupported (.noEntry "extern/(internal/reflectlite.Value).Set.unaddressable")
  let val ← loadVar src b
  if ← Rtype.directlyAssignable dst src then storeVar dst a val
  else if ← Rtype.implements dst src then
   if (← Rtype.kind src) == 20 then
    match val with
    | .nilIface => unsupported (.noEntry "extern/reflectlite: a nil value of one interface type handed on as a value of another")
    | _ => storeVar dst a val
   else storeVar dst a (.iface src val)
  else panicString ("reflectlite.Set: value of type " ++ (← Rtype.spelt src) ++ " is not assignable to type " ++ (← Rtype.spelt dst))
  pure (.tuple #[])) := rfl
theorem a_parts119a (a : Addr) (w : World) : (ReflectliteValue.parts (.agg #[.pointer (some ⟨10, 119, none⟩), .pointer (some a), .int .u64 409])).run Tryz.prog w = .ok (some (119, a, 409)) w := by kernel_rfl
theorem a_parts119 (a : Addr) (w : World) : (ReflectliteValue.parts (.agg #[.pointer (some ⟨10, 119, none⟩), .pointer (some a), .int .u64 153])).run Tryz.prog w = .ok (some (119, a, 153)) w := by kernel_rfl
theorem a_direct119 (w : World) : (Rtype.directlyAssignable 119 119).run Tryz.prog w = .ok true w := by kernel_rfl
theorem a_size119 (w : World) : (sizeOf 119).run Tryz.prog w = .ok 1 w := by kernel_rfl
theorem a_load119 (b : Addr) (s : ByteArray) (W : World) (hb : W.cell? b = some (.string s)) (hs : b.spot = none) : (loadVar 119 b).run Tryz.prog W = .ok (.agg #[.string s]) W := by
 obtain ⟨bb, bo, bs⟩ := b
 subst hs
 simp [loadVar, isAgg, underlying, Tryz.underlying119, a_size119, loadCells, loadCellsFrom, Addr.add, hb, Result.andThen]
theorem a_set119 (ta b : Addr) (s : ByteArray) (old : Value) (W : World) (hb : W.cell? b = some (.string s)) (hs : b.spot = none) (ht : W.cell? ta = some old) (hts : ta.spot = none) (hf : W.frozen? ta = false) :
  (ReflectliteValue.set #[.agg #[.pointer (some ⟨10, 119, none⟩), .pointer (some ta), .int .u64 409], .agg #[.pointer (some ⟨10, 119, none⟩), .pointer (some b), .int .u64 153]]).run Tryz.prog W
   = .ok (.tuple #[]) (W.setCell ta (.string s)) := by
 obtain ⟨tb, tq, ts⟩ := ta
 subst hts
 rw [a_rls]
 simp only [Sem.run_bind, a_parts119a, a_parts119, Result.andThen]
 have hl := a_load119 b s W hb hs
 have hd := a_direct119 W
 simp [ReflectliteValue.flagAddr, hl, hd, storeVar, Value.cells, storeCells, Addr.add, a_size119, Result.andThen]
 rw [run_store Tryz.prog W ⟨tb, tq, none⟩ _ _ (by rfl)]
 simp [ht, hf]
end Go.Cx
end
section
namespace Go.Cx
open Go Go.Proofs Go.RowKit Go.Extern.Stop Go.Stop Go.Extern Go.Shelf
set_option maxRecDepth 100000 in
set_option maxHeartbeats 4000000 in
theorem as_hit (s : ByteArray) (t : Addr) (old : Value) (w : World) (hg : w.cell? ⟨0, 0, none⟩ = some (.iface 229 (.agg #[.pointer (some ⟨10, 105, none⟩)]))) (hts : t.spot = none) (ht0 : w.cell? t = some old) (hf0 : w.frozen? t = false) :
  Calls Tryz.prog 100 #[.iface 119 (.agg #[.string s]), .iface 121 (.pointer (some t))] w fun ev w' => ev = .returned (.bool true) ∧ w' = ((((w.alloc (.cells #[.pointer (some t)] 121)).alloc (.cells #[.pointer (some ⟨10, 121, none⟩), .pointer (some ⟨w.heap.size, 0, none⟩), .int .u64 150] 187)).alloc (.cells #[.pointer (some ⟨10, 121, none⟩), .pointer (some ⟨w.heap.size, 0, none⟩), .int .u64 150] 187)).alloc (.cells #[.string s] 119)).setCell t (.string s) := by
 have h6 := @run_callFunc_extern Tryz.prog 172 _ (fun args => ReflectliteValue.unpack (args.getD 0 (.tuple #[]))) Tryz.func172 (by kernel_rfl) (by kernel_rfl) (by kernel_rfl) (by kernel_rfl)
 have h7 := @run_callFunc_extern Tryz.prog 173 _ (ReflectliteValue.methodAny (ReflectliteValue.valueError "reflectlite.Value.Type" 0) (fun t _ _ _ => ReflectliteType.toType t)) Tryz.func173 (by kernel_rfl) (by kernel_rfl) (by kernel_rfl) (by kernel_rfl)
 have h8 := @run_callFunc_extern Tryz.prog 174 _ (ReflectliteValue.method (ReflectliteValue.valueError "reflectlite.Value.IsNil" 0) ReflectliteValue.isNil) Tryz.func174 (by kernel_rfl) (by kernel_rfl) (by kernel_rfl) (by kernel_rfl)
 have h27 := @run_callFunc_extern Tryz.prog 316 _ (ReflectliteType.abiMethod fun t => do pure (.int .u8 (← Rtype.kind t))) Tryz.func316 (by kernel_rfl) (by kernel_rfl) (by kernel_rfl) (by kernel_rfl)
 have h37 := @run_callFunc_extern Tryz.prog 331 _ (ReflectliteType.method ReflectliteType.elem) Tryz.func331 (by kernel_rfl) (by kernel_rfl) (by kernel_rfl) (by kernel_rfl)
 have h38 := @run_callFunc_extern Tryz.prog 332 _ (ReflectliteType.relation "Implements" ReflectliteType.implements_) Tryz.func332 (by kernel_rfl) (by kernel_rfl) (by kernel_rfl) (by kernel_rfl)
 have h10 := @run_callFunc_extern Tryz.prog 226 _ ReflectliteType.typeOf Tryz.func226 (by kernel_rfl) (by kernel_rfl) (by kernel_rfl) (by kernel_rfl)
 have h35 := @run_callFunc_extern Tryz.prog 329 _ (ReflectliteType.relation "AssignableTo" ReflectliteType.assignableTo) Tryz.func329 (by kernel_rfl) (by kernel_rfl) (by kernel_rfl) (by kernel_rfl)
 have h11 := @run_callFunc_extern Tryz.prog 227 _ (ReflectliteValue.method (ReflectliteValue.valueError "reflectlite.Value.Elem" 0) ReflectliteValue.elem) Tryz.func227 (by kernel_rfl) (by kernel_rfl) (by kernel_rfl) (by kernel_rfl)
 have h12 := @run_callFunc_extern Tryz.prog 228 _ ReflectliteValue.set Tryz.func228 (by kernel_rfl) (by kernel_rfl) (by kernel_rfl) (by kernel_rfl)
 have tO := a_typeOf119
 have mA := a_methodAssignableTo
 have a25 := a_assignable119
 have v25 := a_valueOf119
 have f6 := a_valueOf121
 have f7 := a_type121
 have mK := a_methodKind
 have mE := a_methodElem
 have mI := a_methodImplements
 have k27 := a_kind121
 have k25 := a_kind119
 have e27 := a_elem121
 have i25 := a_implements119
 have n8 := a_isNil121 ⟨w.heap.size, 0, none⟩ t ((w.alloc (.cells #[.pointer (some t)] 121)).alloc (.cells #[.pointer (some ⟨10, 121, none⟩), .pointer (some ⟨w.heap.size, 0, none⟩), .int .u64 150] 187)) (by simp)
 have hlt : 0 < w.heap.size := by
  rcases Nat.eq_zero_or_pos w.heap.size with h0 | h
  ·simp [World.cell?, h0] at hg
  ·exact h
 have hg2 : ((w.alloc (.cells #[.pointer (some t)] 121)).alloc (.cells #[.pointer (some ⟨10, 121, none⟩), .pointer (some ⟨w.heap.size, 0, none⟩), .int .u64 150] 187)).cell? ⟨0, 0, none⟩ = some (.iface 229 (.agg #[.pointer (some ⟨10, 105, none⟩)])) := by
  rw [World.cell?_alloc_lt _ _ ⟨0, 0, none⟩ (by simp), World.cell?_alloc_lt _ _ ⟨0, 0, none⟩ hlt]; exact hg
 have htl : t.block < w.heap.size := by
  rcases Nat.lt_or_ge t.block w.heap.size with h | h
  ·exact h
  ·simp [World.cell?, Array.getElem?_eq_none h] at ht0
 have el := a_elemV121 ⟨w.heap.size, 0, none⟩ t (((w.alloc (.cells #[.pointer (some t)] 121)).alloc (.cells #[.pointer (some ⟨10, 121, none⟩), .pointer (some ⟨w.heap.size, 0, none⟩), .int .u64 150] 187)).alloc (.cells #[.pointer (some ⟨10, 121, none⟩), .pointer (some ⟨w.heap.size, 0, none⟩), .int .u64 150] 187)) (by rw [World.cell?_alloc_lt _ _ ⟨w.heap.size, 0, none⟩ (by simp; omega)]; simp)
 have st := a_set119 t ⟨w.heap.size + 1 + 1 + 1, 0, none⟩ s old ((((w.alloc (.cells #[.pointer (some t)] 121)).alloc (.cells #[.pointer (some ⟨10, 121, none⟩), .pointer (some ⟨w.heap.size, 0, none⟩), .int .u64 150] 187)).alloc (.cells #[.pointer (some ⟨10, 121, none⟩), .pointer (some ⟨w.heap.size, 0, none⟩), .int .u64 150] 187)).alloc (.cells #[.string s] 119))
  (by rw [World.cell?_alloc_at _ _ _ _ (by simp)]; rfl) rfl
  (by rw [World.cell?_alloc_lt _ _ t (by simp; omega), World.cell?_alloc_lt _ _ t (by simp; omega), World.cell?_alloc_lt _ _ t (by simp; omega), World.cell?_alloc_lt _ _ t htl]; exact ht0) hts
  (by rw [World.frozen?_alloc_old _ _ t (by simp; omega), World.frozen?_alloc_old _ _ t (by simp; omega), World.frozen?_alloc_old _ _ t (by simp; omega), World.frozen?_alloc_old _ _ t (Nat.ne_of_lt htl)]; exact hf0)
 have e175 : ∀ args w, (callFunc 175 args).run Tryz.prog w = .ok (.enter 175 args) w := enters_of Tryz.func175 (by kernel_rfl) rfl
 go_enter Tryz.func100, Tryz.ntmps100
 go_wp2
 refine wp_loop_rounds 1 ?_
 rw [rounds_succ]
 go_wp2
 go_ret
 exact ⟨rfl, rfl⟩
end Go.Cx
end
noncomputable section
namespace Go.Cx
open Go Go.Ab Go.Proofs Go.RowKit
def h100 : List Value → Lk → Nat → (Value → Lk → Nat → Prop) → Prop := fun args m n K => match args with
 | [.nilIface, _] => K (.bool false) m n
 | [.iface t (.agg ⟨[.string s]⟩), .iface t' (.pointer (some ⟨k, 0, some _⟩))] => match Nat.beq t 119, Nat.beq t' 121, m k with
  | true, true, some ⟨[.string _], ty, true⟩ => match Nat.ble itTy ty with
   | false => K (.bool true) (m.upd k ⟨[.string s], ty, true⟩) n
   | true => False
  | _, _, _ => False
 | _ => False
theorem c100 : Callable Tryz.prog 100 := ⟨_, Tryz.func100, by kernel_rfl, rfl⟩
theorem tab_as {w : World} (h : TabsIn w.heap.size w) : w.cell? ⟨0, 0, none⟩ = some (.iface 229 (.agg #[.pointer (some ⟨10, 105, none⟩)])) :=
 h.cell (b := 0) rfl (i := 0) rfl
theorem gen100 : GenOK Tryz.prog 100 h100 := by
 refine ⟨c100, fun args m n K hh N w0 ι w hrel hwf hargs => ?_⟩
 unfold h100 at hh
 split at hh
 ·rename_i t
  refine (as_nil (ren ι t) w).mono fun e w' ⟨h1, h2⟩ => ?_
  subst h2
  exact ⟨.bool false, m, n, ι, by rw [h1]; rfl, hh, Nat.le_refl _, fun _ _ => rfl, hrel, hwf, by simp [ids]⟩
 ·rename_i t s t' k sp
  split at hh
  case h_2 => exact hh.elim
  rename_i old ty ht ht' hk
  split at hh
  case h_2 => exact hh.elim
  rename_i hty
  have ht := Nat.eq_of_beq_eq_true ht
  have ht' := Nat.eq_of_beq_eq_true ht'
  subst ht ht'
  obtain ⟨h1, h2, h3⟩ := hrel.blk k _ hk rfl
  rw [objOf_cells hty] at h3
  have e1 : ([.iface 119 (.agg ⟨[.string s]⟩), .iface 121 (.pointer (some ⟨k, 0, some sp⟩))] : List Value).map (ren ι) = [.iface 119 (.agg ⟨[.string s]⟩), .iface 121 (.pointer (some ⟨(ι k).1, 0, none⟩))] := by
   simp [ren, renL, ren1, h1]
  rw [e1]
  have hc : w.cell? ⟨(ι k).1, 0, none⟩ = some (.string old) := by
   simp only [World.cell?, h3]
   rfl
  have hf : w.frozen? ⟨(ι k).1, 0, none⟩ = false := by
   simp [World.frozen?, h3]
  refine (as_hit s ⟨(ι k).1, 0, none⟩ (.string old) w (tab_as hrel.tabs) rfl hc hf).mono fun e w' ⟨g1, g2⟩ => ?_
  have hb : Below w.heap.size w ((((w.alloc (.cells #[.pointer (some ⟨(ι k).1, 0, none⟩)] 121)).alloc (.cells #[.pointer (some ⟨10, 121, none⟩), .pointer (some ⟨w.heap.size, 0, none⟩), .int .u64 150] 187)).alloc (.cells #[.pointer (some ⟨10, 121, none⟩), .pointer (some ⟨w.heap.size, 0, none⟩), .int .u64 150] 187)).alloc (.cells #[.string s] 119)) :=
   ((((Below.refl _ _).alloc (Nat.le_refl _) _).alloc (by simp) _).alloc (by simp; omega) _).alloc (by simp; omega) _
  have hr := hrel.grow hb
  obtain ⟨_, _, h4⟩ := hr.blk k _ hk rfl
  rw [objOf_cells hty] at h4
  have hw := hr.write hk rfl (b' := ⟨[.string s], ty, true⟩) rfl rfl rfl (it_ble hty)
  refine ⟨.bool true, _, n, ι, by rw [g1]; rfl, hh, Nat.le_refl _, fun _ _ => rfl, ?_, fun j b hj => ?_, by simp [ids]⟩
  ·rw [g2, setCell_eq_setRow _ _ _ _ _ _ _ h4]
   exact hw
  ·by_cases e : j = k
   ·subst e
    rw [Lk.upd_same] at hj
    cases hj
    exact ⟨(hwf j _ hk).1, by simp [idsL, ids]⟩
   ·rw [Lk.upd_other _ _ e] at hj
    exact hwf j b hj
 ·exact hh.elim
end Go.Cx
end
noncomputable section
namespace Go.Cx
open Go Go.Ab Go.Proofs Go.Shelf Go.Px Go.Cv
end Go.Cx
end
noncomputable section
set_option maxHeartbeats 3200000
namespace Go.Cx
open Go Go.Ab Go.Proofs Go.Shelf Go.Px Go.Cv
open Go.Fx (Ty Vl check Valid most base pw bnd Fit fits tv vv tup V0 T0 pw_zero pw_succ wrap_mul pw_w64 str0)
def K7 : Env := Env.nil
theorem ok_K7 : EnvOK Tryz.prog K7 := env_nil
def s115 (t : Ty) : Bool × Value := (decide (t.q ≤ t.p ∧ t.p ≤ 1000 ∧ 0 ≤ t.q), I (if t.k = 2 then t.p else (332 * (t.p - t.q) + 99) / 100))
theorem fn115 : Fn1 Tryz.prog 115 Tryz.f115 := ⟨Tryz.func115, by kernel_rfl, by kernel_rfl, by kernel_rfl⟩
theorem v115 (t : Ty) (R : Value → Prop) : bodyQ Tryz.prog K7 noL Tryz.f115 [Enc.enc t] (fun _ => none) 0 (fun v _ _ => R v) = ( bif Ty.k t == 2 then R (I (Ty.p t)) else R (I (IntKind.wrap .i64 (Int.tdiv (IntKind.wrap .i64 (IntKind.wrap .i64 (332 * IntKind.wrap .i64 (Ty.p t - Ty.q t)) + 99)) 100)))) := by kernel_rfl
theorem ok115 : PureOK Tryz.prog 115 (sp1 s115) := by
 refine qure1 ok_K7 hmix fn115 lokf_none (Nat.le_of_ble_eq_true (by kernel_rfl)) fun t hc => ?_
 rw [DoesQ, v115]
 have hc : (t.q ≤ t.p ∧ t.p ≤ 1000 ∧ 0 ≤ t.q) := of_decide_eq_true hc
 try dsimp only [s115]
 refine cond_intro (fun h => ?_) (fun h => ?_)
 ·have h : t.k = 2 := eq_of_beq h
  rw [if_pos h]
 ·have h : ¬ t.k = 2 := by simpa using h
  rw [if_neg h, w64 (n := t.p - t.q) (by omega), w64 (n := 332 * (t.p - t.q)) (by omega), w64 (n := 332 * (t.p - t.q) + 99) (by omega)]
  by_cases hn : 0 ≤ 332 * (t.p - t.q) + 99
  ·rw [Int.tdiv_eq_ediv_of_nonneg hn, w64 (by omega)]
  ·exfalso
   omega
end Go.Cx
end
noncomputable section
set_option maxHeartbeats 3200000
namespace Go.Cz
open Go.Cx
open Go Go.Ab Go.Proofs Go.Shelf Go.Px Go.Cv
open Go.Fx (Ty Vl check Valid most base pw bnd Fit fits tv vv tup V0 T0 fst3 same1 resQ resD rty resT resE isOp unary binT valid_r most_r pw_zero pw_succ wrap_mul pw_w64 str0)
def Z0 : Env := Env.nil
theorem ok_Z0 : EnvOK Tryz.prog Z0 := env_nil
def s132 : Ab.Spec := fun args bs => match args, bs with
 | [.slice (some ⟨_, 0, some 1⟩) 3 cap], [some ⟨[.int .i64 x, .int .i64 y, .int .i64 z], ty, own⟩] => some (true, I (fst3 x y z))
 | _, _ => none
theorem fn132 : Fn1 Tryz.prog 132 Tryz.f132 := ⟨Tryz.func132, by kernel_rfl, by kernel_rfl, by kernel_rfl⟩
theorem v132_0 (x : Int) (y : Int) (z : Int) (cap : Nat) (ty : TypeId) (own : Bool) (R : Value → Prop) : bodyR Tryz.prog Z0 noL Tryz.f132 [.slice (some ⟨0, 0, some 1⟩) 3 cap] (viewL [some ⟨[I x, I y, I z], ty, own⟩]) 1 (fun v _ _ => R v) = ( bif decide (0 < natO 3) then bif x != 0 then R (I x) else bif decide (1 < natO 3) then bif y != 0 then R (I y) else bif decide (2 < natO 3) then bif z != 0 then R (I z) else bif decide (3 < natO 3) then False else R (I 0) else R (I 0) else R (I 0) else R (I 0)) := by kernel_rfl
theorem k132_0 (x : Int) (y : Int) (z : Int) (cap : Nat) (ty : TypeId) (own : Bool) (hc : (true) = true) : DoesV Tryz.prog Z0 noL Tryz.f132 [.slice (some ⟨0, 0, some 1⟩) 3 cap] [some ⟨[I x, I y, I z], ty, own⟩] 1 (I (fst3 x y z)) := by
 rw [DoesV, v132_0]
 simp only [natO_eq]
 repeat' refine cond_intro (fun h => ?_) (fun h => ?_)
 all_goals grind (splits := 40) [fst3]
theorem ok132 : PureOK Tryz.prog 132 s132 := by
 refine pure_view ok_Z0 hmix fn132 lokf_none fun args bs v hs => ?_
 simp only [s132] at hs
 split at hs
 ·simp only [Option.some.injEq, Prod.mk.injEq] at hs
  obtain ⟨hc, rfl⟩ := hs
  exact ⟨_, 1, rfl, rfl, Nat.le_of_ble_eq_true (by kernel_rfl), k132_0 _ _ _ _ _ _ (by first | rfl | exact hc)⟩
 ·cases hs
def s139 : Ab.Spec := fun args bs => match args, bs with
 | [.agg ⟨[.int .i64 tK, .int .i64 tP, .int .i64 tQ, .bool tV, .string tS]⟩, .slice (some ⟨_, 0, some 1⟩) 1 cap], [none, some ⟨[.int .i64 aK, .int .i64 aP, .int .i64 aQ, .bool aV, .string aS], ty, own⟩] => some (true, I (same1 ⟨tK, tP, tQ, tV, tS⟩ ⟨aK, aP, aQ, aV, aS⟩))
 | _, _ => none
theorem fn139 : Fn1 Tryz.prog 139 Tryz.f139 := ⟨Tryz.func139, by kernel_rfl, by kernel_rfl, by kernel_rfl⟩
theorem v139_0 (tK : Int) (tP : Int) (tQ : Int) (tV : Bool) (tS : ByteArray) (aK : Int) (aP : Int) (aQ : Int) (aV : Bool) (aS : ByteArray) (cap : Nat) (ty : TypeId) (own : Bool) (R : Value → Prop) : bodyR Tryz.prog Z0 noL Tryz.f139 [.agg ⟨[I tK, I tP, I tQ, B tV, S tS]⟩, .slice (some ⟨1, 0, some 1⟩) 1 cap] (viewL [none, some ⟨[I aK, I aP, I aQ, B aV, S aS], ty, own⟩]) 2 (fun v _ _ => R v) = ( bif decide (0 < natO 1) then bif aK != tK then R (I 5) else bif decide (1 < natO 1) then False else R (I 0) else R (I 0)) := by kernel_rfl
theorem k139_0 (tK : Int) (tP : Int) (tQ : Int) (tV : Bool) (tS : ByteArray) (aK : Int) (aP : Int) (aQ : Int) (aV : Bool) (aS : ByteArray) (cap : Nat) (ty : TypeId) (own : Bool) (hc : (true) = true) : DoesV Tryz.prog Z0 noL Tryz.f139 [.agg ⟨[I tK, I tP, I tQ, B tV, .string tS]⟩, .slice (some ⟨1, 0, some 1⟩) 1 cap] [none, some ⟨[I aK, I aP, I aQ, B aV, .string aS], ty, own⟩] 2 (I (same1 ⟨tK, tP, tQ, tV, tS⟩ ⟨aK, aP, aQ, aV, aS⟩)) := by
 rw [DoesV, v139_0]
 simp only [natO_eq]
 repeat' refine cond_intro (fun h => ?_) (fun h => ?_)
 all_goals grind (splits := 40) [same1]
theorem ok139 : PureOK Tryz.prog 139 s139 := by
 refine pure_view ok_Z0 hmix fn139 lokf_none fun args bs v hs => ?_
 simp only [s139] at hs
 split at hs
 ·simp only [Option.some.injEq, Prod.mk.injEq] at hs
  obtain ⟨hc, rfl⟩ := hs
  exact ⟨_, 2, rfl, rfl, Nat.le_of_ble_eq_true (by kernel_rfl), k139_0 _ _ _ _ _ _ _ _ _ _ _ _ _ (by first | rfl | exact hc)⟩
 ·cases hs
def Z1 : Env := Z0.add 141 (sp1 Cx.s141)
theorem ok_Z1 : EnvOK Tryz.prog Z1 := env_add ok_Z0 Cx.ok141
def s140 (op : Int) (a : Ty) (b : Ty) : Bool × Value := (decide (Valid a ∧ Valid b ∧ isOp op = true), tv (rty op a b))
theorem fn140 : Fn1 Tryz.prog 140 Tryz.f140 := ⟨Tryz.func140, by kernel_rfl, by kernel_rfl, by kernel_rfl⟩
theorem v140 (op : Int) (a : Ty) (b : Ty) (R : Value → Prop) : bodyQ Tryz.prog Z1 noL Tryz.f140 [Enc.enc op, Enc.enc a, Enc.enc b] (fun _ => none) 0 (fun v _ _ => R v) = ( bif op == 6 then bif Ty.k a == 2 then R (.agg (.mk [I (Ty.k a), I (imin (IntKind.wrap .i64 (IntKind.wrap .i64 (1 + imax (IntKind.wrap .i64 (Ty.p a - Ty.q a)) (IntKind.wrap .i64 (Ty.p b - Ty.q b))) + imax (Ty.q a) (Ty.q b))) (most (Ty.k a))), I 0, B false, S (ByteArray.mk #[])])) else R (.agg (.mk [I (Ty.k a), I (imin (IntKind.wrap .i64 (IntKind.wrap .i64 (1 + imax (IntKind.wrap .i64 (Ty.p a - Ty.q a)) (IntKind.wrap .i64 (Ty.p b - Ty.q b))) + imax (Ty.q a) (Ty.q b))) (most (Ty.k a))), I (imax (Ty.q a) (Ty.q b)), B false, S (ByteArray.mk #[])])) else bif op == 7 then bif Ty.k a == 2 then R (.agg (.mk [I (Ty.k a), I (imin (IntKind.wrap .i64 (IntKind.wrap .i64 (1 + imax (IntKind.wrap .i64 (Ty.p a - Ty.q a)) (IntKind.wrap .i64 (Ty.p b - Ty.q b))) + imax (Ty.q a) (Ty.q b))) (most (Ty.k a))), I 0, B false, S (ByteArray.mk #[])])) else R (.agg (.mk [I (Ty.k a), I (imin (IntKind.wrap .i64 (IntKind.wrap .i64 (1 + imax (IntKind.wrap .i64 (Ty.p a - Ty.q a)) (IntKind.wrap .i64 (Ty.p b - Ty.q b))) + imax (Ty.q a) (Ty.q b))) (most (Ty.k a))), I (imax (Ty.q a) (Ty.q b)), B false, S (ByteArray.mk #[])])) else bif op == 8 then bif Ty.k a == 2 then R (.agg (.mk [I (Ty.k a), I (imin (IntKind.wrap .i64 (IntKind.wrap .i64 (1 + Ty.p a) + Ty.p b)) (most (Ty.k a))), I 0, B false, S (ByteArray.mk #[])])) else R (.agg (.mk [I (Ty.k a), I (imin (IntKind.wrap .i64 (IntKind.wrap .i64 (1 + Ty.p a) + Ty.p b)) (most (Ty.k a))), I (imin (most (Ty.k a)) (IntKind.wrap .i64 (Ty.q a + Ty.q b))), B false, S (ByteArray.mk #[])])) else bif op == 9 then bif Ty.k a == 2 then R (.agg (.mk [I (Ty.k a), I (imin (most (Ty.k a)) (most (Ty.k a))), I 0, B false, S (ByteArray.mk #[])])) else R (.agg (.mk [I (Ty.k a), I (imin (most (Ty.k a)) (most (Ty.k a))), I (imax 0 (IntKind.wrap .i64 (IntKind.wrap .i64 (most (Ty.k a) - IntKind.wrap .i64 (Ty.p a - Ty.q a)) - Ty.q b))), B false, S (ByteArray.mk #[])])) else bif op == 10 then bif Ty.k a == 2 then R (.agg (.mk [I (Ty.k a), I (imin (IntKind.wrap .i64 (IntKind.wrap .i64 (Ty.p b - Ty.q b) + imax (Ty.q a) (Ty.q b))) (most (Ty.k a))), I 0, B false, S (ByteArray.mk #[])])) else R (.agg (.mk [I (Ty.k a), I (imin (IntKind.wrap .i64 (IntKind.wrap .i64 (Ty.p b - Ty.q b) + imax (Ty.q a) (Ty.q b))) (most (Ty.k a))), I (imax (Ty.q a) (Ty.q b)), B false, S (ByteArray.mk #[])])) else bif op == 12 then bif Ty.k a == 2 then R (.agg (.mk [I (Ty.k a), I (imin (IntKind.wrap .i64 (imax (IntKind.wrap .i64 (Ty.p a - Ty.q a)) (IntKind.wrap .i64 (Ty.p b - Ty.q b)) + imax (Ty.q a) (Ty.q b))) (most (Ty.k a))), I 0, B false, S (ByteArray.mk #[])])) else R (.agg (.mk [I (Ty.k a), I (imin (IntKind.wrap .i64 (imax (IntKind.wrap .i64 (Ty.p a - Ty.q a)) (IntKind.wrap .i64 (Ty.p b - Ty.q b)) + imax (Ty.q a) (Ty.q b))) (most (Ty.k a))), I (imax (Ty.q a) (Ty.q b)), B false, S (ByteArray.mk #[])])) else bif op == 13 then bif Ty.k a == 2 then R (.agg (.mk [I (Ty.k a), I (imin (IntKind.wrap .i64 (imax (IntKind.wrap .i64 (Ty.p a - Ty.q a)) (IntKind.wrap .i64 (Ty.p b - Ty.q b)) + imax (Ty.q a) (Ty.q b))) (most (Ty.k a))), I 0, B false, S (ByteArray.mk #[])])) else R (.agg (.mk [I (Ty.k a), I (imin (IntKind.wrap .i64 (imax (IntKind.wrap .i64 (Ty.p a - Ty.q a)) (IntKind.wrap .i64 (Ty.p b - Ty.q b)) + imax (Ty.q a) (Ty.q b))) (most (Ty.k a))), I (imax (Ty.q a) (Ty.q b)), B false, S (ByteArray.mk #[])])) else bif Ty.k a == 2 then R (.agg (.mk [I (Ty.k a), I (imin (Ty.p a) (most (Ty.k a))), I 0, B false, S (ByteArray.mk #[])])) else R (.agg (.mk [I (Ty.k a), I (imin (Ty.p a) (most (Ty.k a))), I (Ty.q a), B false, S (ByteArray.mk #[])]))) := by kernel_rfl
theorem ok140 : PureOK Tryz.prog 140 (sp3 s140) := by
 refine qure3 ok_Z1 hmix fn140 lokf_none (Nat.le_of_ble_eq_true (by kernel_rfl)) fun op a b hc => ?_
 rw [DoesQ, v140]
 have hc : (Valid a ∧ Valid b ∧ isOp op = true) := of_decide_eq_true hc
 try dsimp only [s140]
 have ra := valid_r hc.1
 have rb := valid_r (by exact hc.2.1)
 have rm := most_r a.k
 simp only [Fx.imax_max, Fx.imin_min]
 simp (disch := omega) only [Fx.w64]
 repeat' refine cond_intro (fun h => ?_) (fun h => ?_)
 all_goals grind (splits := 40) [s140, Cx.s141, rty, resQ, resD, Valid, most, isOp, Fx.e0]
def Z2 : Env := ((Z0.add 66 (sp1 Cx.s66)).add 132 s132).add 139 s139
def Z3 : Env := (Z2.add 140 (sp3 s140)).addG 138 (inlQ Tryz.prog Z0 noL Tryz.f138)
theorem fn138 : Fn1 Tryz.prog 138 Tryz.f138 := ⟨Tryz.func138, by kernel_rfl, by kernel_rfl, by kernel_rfl⟩
theorem ok_Z2 : EnvOK Tryz.prog Z2 := env_add (env_add (env_add ok_Z0 Cx.ok66) ok132) ok139
theorem ok_Z3 : EnvOK Tryz.prog Z3 := env_addG (env_add ok_Z2 ok140) (gen_inlQ ok_Z0 hmix fn138 lokf_none)
def s64 (op : Int) (a : Ty) (b : Ty) : Bool × Value := (true, tup [tv (resT op a b), I (resE op a b)])
theorem fn64 : Fn1 Tryz.prog 64 Tryz.f64 := ⟨Tryz.func64, by kernel_rfl, by kernel_rfl, by kernel_rfl⟩
theorem v64 (op : Int) (a : Ty) (b : Ty) (R : Value → Prop) : bodyQ Tryz.prog Z3 noL Tryz.f64 [Enc.enc op, Enc.enc a, Enc.enc b] (fun _ => none) 0 (fun v _ _ => R v) = ( bif op == 5 then bif fst3 (check a) (check a) (same1 a a) != 0 then R (.tuple (.mk [.agg (.mk [I 0, I 0, I 0, B false, S (ByteArray.mk #[])]), I (fst3 (check a) (check a) (same1 a a))])) else bif decide (Valid a ∧ Valid a ∧ isOp op = true) then R (.tuple (.mk [.agg (.mk [I (Ty.k (rty op a a)), I (Ty.p (rty op a a)), I (Ty.q (rty op a a)), B (Ty.v (rty op a a)), S (Ty.s (rty op a a))]), I 0])) else False else bif op == 11 then bif fst3 (check a) (check a) (same1 a a) != 0 then R (.tuple (.mk [.agg (.mk [I 0, I 0, I 0, B false, S (ByteArray.mk #[])]), I (fst3 (check a) (check a) (same1 a a))])) else bif decide (Valid a ∧ Valid a ∧ isOp op = true) then R (.tuple (.mk [.agg (.mk [I (Ty.k (rty op a a)), I (Ty.p (rty op a a)), I (Ty.q (rty op a a)), B (Ty.v (rty op a a)), S (Ty.s (rty op a a))]), I 0])) else False else bif op == 6 then bif fst3 (check a) (check b) (same1 a b) != 0 then R (.tuple (.mk [.agg (.mk [I 0, I 0, I 0, B false, S (ByteArray.mk #[])]), I (fst3 (check a) (check b) (same1 a b))])) else bif decide (Valid a ∧ Valid b ∧ isOp op = true) then R (.tuple (.mk [.agg (.mk [I (Ty.k (rty op a b)), I (Ty.p (rty op a b)), I (Ty.q (rty op a b)), B (Ty.v (rty op a b)), S (Ty.s (rty op a b))]), I 0])) else False else bif op == 7 then bif fst3 (check a) (check b) (same1 a b) != 0 then R (.tuple (.mk [.agg (.mk [I 0, I 0, I 0, B false, S (ByteArray.mk #[])]), I (fst3 (check a) (check b) (same1 a b))])) else bif decide (Valid a ∧ Valid b ∧ isOp op = true) then R (.tuple (.mk [.agg (.mk [I (Ty.k (rty op a b)), I (Ty.p (rty op a b)), I (Ty.q (rty op a b)), B (Ty.v (rty op a b)), S (Ty.s (rty op a b))]), I 0])) else False else bif op == 8 then bif fst3 (check a) (check b) (same1 a b) != 0 then R (.tuple (.mk [.agg (.mk [I 0, I 0, I 0, B false, S (ByteArray.mk #[])]), I (fst3 (check a) (check b) (same1 a b))])) else bif decide (Valid a ∧ Valid b ∧ isOp op = true) then R (.tuple (.mk [.agg (.mk [I (Ty.k (rty op a b)), I (Ty.p (rty op a b)), I (Ty.q (rty op a b)), B (Ty.v (rty op a b)), S (Ty.s (rty op a b))]), I 0])) else False else bif op == 9 then bif fst3 (check a) (check b) (same1 a b) != 0 then R (.tuple (.mk [.agg (.mk [I 0, I 0, I 0, B false, S (ByteArray.mk #[])]), I (fst3 (check a) (check b) (same1 a b))])) else bif decide (Valid a ∧ Valid b ∧ isOp op = true) then R (.tuple (.mk [.agg (.mk [I (Ty.k (rty op a b)), I (Ty.p (rty op a b)), I (Ty.q (rty op a b)), B (Ty.v (rty op a b)), S (Ty.s (rty op a b))]), I 0])) else False else bif op == 10 then bif fst3 (check a) (check b) (same1 a b) != 0 then R (.tuple (.mk [.agg (.mk [I 0, I 0, I 0, B false, S (ByteArray.mk #[])]), I (fst3 (check a) (check b) (same1 a b))])) else bif decide (Valid a ∧ Valid b ∧ isOp op = true) then R (.tuple (.mk [.agg (.mk [I (Ty.k (rty op a b)), I (Ty.p (rty op a b)), I (Ty.q (rty op a b)), B (Ty.v (rty op a b)), S (Ty.s (rty op a b))]), I 0])) else False else bif op == 12 then bif fst3 (check a) (check b) (same1 a b) != 0 then R (.tuple (.mk [.agg (.mk [I 0, I 0, I 0, B false, S (ByteArray.mk #[])]), I (fst3 (check a) (check b) (same1 a b))])) else bif decide (Valid a ∧ Valid b ∧ isOp op = true) then R (.tuple (.mk [.agg (.mk [I (Ty.k (rty op a b)), I (Ty.p (rty op a b)), I (Ty.q (rty op a b)), B (Ty.v (rty op a b)), S (Ty.s (rty op a b))]), I 0])) else False else bif op == 13 then bif fst3 (check a) (check b) (same1 a b) != 0 then R (.tuple (.mk [.agg (.mk [I 0, I 0, I 0, B false, S (ByteArray.mk #[])]), I (fst3 (check a) (check b) (same1 a b))])) else bif decide (Valid a ∧ Valid b ∧ isOp op = true) then R (.tuple (.mk [.agg (.mk [I (Ty.k (rty op a b)), I (Ty.p (rty op a b)), I (Ty.q (rty op a b)), B (Ty.v (rty op a b)), S (Ty.s (rty op a b))]), I 0])) else False else R (.tuple (.mk [.agg (.mk [I 0, I 0, I 0, B false, S (ByteArray.mk #[])]), I 1]))) := by kernel_rfl
theorem ok64 : PureOK Tryz.prog 64 (sp3 s64) := by
 refine qure3 ok_Z3 hmix fn64 lokf_none (Nat.le_of_ble_eq_true (by kernel_rfl)) fun op a b hc => ?_
 rw [DoesQ, v64]
 try dsimp only [s64]
 repeat' refine cond_intro (fun h => ?_) (fun h => ?_)
 all_goals grind (splits := 40) [s64, Cx.s66, s140, check, resT, resE, fst3, same1, T0, Fx.e0, isOp, unary]
end Go.Cz
end
noncomputable section
namespace Go.Px
open Go Go.Proofs
open Go.Proofs.YtpflidodnhbeoaaGreatDoor
theorem q_laid : laidOutB Tryz.prog = true := by kernel_rfl
theorem q_maps : mapsRowed Tryz.prog = true := by kernel_rfl
theorem q_stop : (Tryz.prog.stops == []) = true := by kernel_rfl
theorem q_knob : (Tryz.prog.stopKnobs == []) = true := by kernel_rfl
theorem q_keys : (Rows.convertTypesRow.plainKeys == Tryz.prog.plainKeys) = true := by kernel_rfl
theorem q_heard : Tryz.prog.stopsHeard = true := by kernel_rfl
theorem q_enter : Tryz.prog.mayEnter = true := by kernel_rfl
theorem q_lifts : (Rows.convertTypesRow.lifted == Tryz.prog.liftsFinal) = true := by kernel_rfl
theorem q_make : (Tryz.prog.make == some Rows.convertTypesRow.make) = true := by kernel_rfl
theorem main_is : Tryz.pinned.checked.prog.mainIs = some (true, ("2cb47cbf95087f7cc8d5ede91c198a947601d35cfd546d8bdc61f47b13d7b636" : String).toList) := by kernel_rfl
theorem looks_is : true = Tryz.pinned.checked.prog.looks [] := by kernel_rfl
end Go.Px
end
noncomputable section
namespace Go.Px
open Go Go.Ab Go.Proofs Go.Shelf Go.ChangeMaps Go.ChangeShapes Go.WideShapes Go.ChangeAt Go.RowKit Go.Joins
open Go.Proofs.YtpflidodnhbeoaaGreatDoor
theorem own : ownKnob Tryz.prog.godebug = none := by kernel_rfl
def laidL : List (String × DataW Unit) := Rows.convertTypesRow.laid
theorem tab_is {P : Program} {W : World} {name : String} {k : IntKind} {zs : List Int} {g : Nat} {t e : TypeId} {n : Nat} (hr : Lib.VarReads P W name (Lib.tabData k zs))
  (hg : P.globalNamed name = some g) (hty : (P.globals[g]?).map (·.type) = some t) (ht : P.underlying t = some (.array n e)) (he : P.underlying e = some (.int k)) (hce : P.cellsOf e = 1) (hct : P.cellsOf t = n) :
  g < W.heap.size ∧ ∃ ty fr, W.heap[g]? = some (.cells ⟨zs.map fun z => Value.int k z⟩ ty fr) := by
 obtain ⟨g', t', cs, fuel, p, h1, h2, h3, h4⟩ := hr
 obtain rfl := Option.some.inj (hg.symm.trans h1)
 obtain rfl := Option.some.inj (hty.symm.trans h2)
 have hc := Lib.cells_of_tab ht he hce hct h4
 unfold World.var? at h3
 rw [hg, Option.bind_some] at h3
 split at h3
 case h_2 => cases h3
 rename_i cs' ty fr hh
 have h3 := Option.some.inj h3
 refine ⟨(Array.getElem?_eq_some_iff.1 hh).1, ty, fr, ?_⟩
 rw [hh, h3]
 congr 2
 rw [← hc]
theorem rt : (Tryz.prog.cutTypes.find? (·.1 == "internal/reflectlite.rtype")).map (·.2) = some 229 := by kernel_rfl
theorem tsz : Tryz.prog.types.size = 321 := by kernel_rfl
theorem oneRow : ((List.range 321).filter fun t => Tryz.prog.rowNamed t [101, 114, 114, 111, 114]) = [105] := by kernel_rfl
theorem hdl : typeHandle Tryz.prog 105 = .pointer (some ⟨10, 105, none⟩) := by kernel_rfl
theorem gE : Tryz.prog.globalNamed "errors.errorType" = some 0 := by kernel_rfl
theorem laid_h : laidL.filter (fun x => x.2.handleName?.isSome) = [("errors.errorType", Rows.laid_errors_errorType)] := by kernel_rfl
theorem laid_d : laidL.filter (fun x => x.2.handleName?.isNone) = [("math/bits.deBruijn32tab", Rows.laid_math_bits_deBruijn32tab), ("math/bits.deBruijn64tab", Rows.laid_math_bits_deBruijn64tab), ("internal/strconv.uint64pow10", Rows.laid_internal_strconv_uint64pow10), ("unicode/utf8.acceptRanges", Rows.laid_unicode_utf8_acceptRanges), ("strconv.ErrRange", Rows.laid_strconv_ErrRange), ("strconv.ErrSyntax", Rows.laid_strconv_ErrSyntax), ("pliant/picture.punched", Rows.laid_pliant_picture_punched), ("unicode/utf8.first", Rows.laid_unicode_utf8_first)] := by kernel_rfl
theorem handle_of_laid {W : World} (h : handlesMet Tryz.prog [("errors.errorType", Rows.laid_errors_errorType)] W) : 0 < W.heap.size ∧ ∃ ty fr, W.heap[0]? = some (.cells #[.iface 229 (.agg #[.pointer (some ⟨10, 105, none⟩)])] ty fr) := by
 obtain ⟨name, u, ty, e1, e2, e3, e4, e5⟩ := h _ (List.mem_singleton.2 rfl)
 have en : name = [101, 114, 114, 111, 114] := (Option.some.inj e1).symm
 subst en
 obtain rfl := Option.some.inj (rt.symm.trans e2)
 have hm : ty ∈ (List.range 321).filter fun t => Tryz.prog.rowNamed t [101, 114, 114, 111, 114] := List.mem_filter.2 ⟨List.mem_range.2 (by rw [← tsz]; exact e3), e4⟩
 rw [oneRow] at hm
 obtain rfl := List.mem_singleton.1 hm
 rw [hdl] at e5
 unfold World.var? at e5
 rw [gE, Option.bind_some] at e5
 split at e5
 case h_2 => cases e5
 rename_i cs' ty fr hh
 have e5 := Option.some.inj e5
 exact ⟨(Array.getElem?_eq_some_iff.1 hh).1, ty, fr, by rw [hh, e5]⟩
set_option maxRecDepth 100000 in
theorem tabs_of_laid {W : World} (h : laidMetH Tryz.prog laidL W) : TabsIn W.heap.size W := by
 obtain ⟨hd, hh⟩ := laidMetH_iff.1 h
 rw [laid_h] at hh
 rw [laid_d] at hd
 intro b r hb
 have key : ∀ b : Nat, rowsT b = some r → b = 5 ∧ r = punchedZ.map (fun n => Value.int .u8 n) ∨ b = 1 ∧ r = pow10Z.map (fun n => Value.int .u64 n) ∨ b = 0 ∧ r = [.iface 229 (.agg ⟨[.pointer (some ⟨10, 105, none⟩)]⟩)] := by
  intro b hb
  unfold rowsT at hb
  split at hb
  ·cases hb; exact .inl ⟨rfl, rfl⟩
  ·cases hb; exact .inr (.inl ⟨rfl, rfl⟩)
  ·cases hb; exact .inr (.inr ⟨rfl, rfl⟩)
  ·cases hb
 have t5 : Tryz.prog.cellsOf 5 = 1 := by kernel_rfl
 rcases key b hb with ⟨rfl, rfl⟩ | ⟨rfl, rfl⟩ | ⟨rfl, rfl⟩
 ·have hr : Lib.VarReads Tryz.prog W "pliant/picture.punched" (Lib.tabData .u8 punchedZ) := Lib.laidMet.reads hd (.tail _ (.tail _ (.tail _ (.tail _ (.tail _ (.tail _ (.head _)))))))
  exact tab_is hr (g := 5) (t := 273) (n := 20) (e := 5) (by kernel_rfl) (by kernel_rfl) (by kernel_rfl) (by kernel_rfl) t5 (by kernel_rfl)
 ·have hr : Lib.VarReads Tryz.prog W "internal/strconv.uint64pow10" (Lib.tabData .u64 pow10Z) := Lib.laidMet.reads hd (.tail _ (.tail _ (.head _)))
  exact tab_is hr (g := 1) (t := 262) (n := 20) (e := 90) (by kernel_rfl) (by kernel_rfl) (by kernel_rfl) (by kernel_rfl) (by kernel_rfl) (by kernel_rfl)
 ·exact handle_of_laid hh
noncomputable def handleWorld (os : Os) : World :=
 let w0 := World.holding Tryz.prog os ⟨#[], #[], []⟩
 { w0 with heap := w0.heap.modify 0 fun
   | .cells _ t frozen => .cells #[.iface 229 (.agg #[.pointer (some ⟨10, 105, none⟩)])] t frozen
   | o => o }
def laidD : List (String × DataW Unit) := laidL.filter fun x => x.2.handleName?.isNone
noncomputable def laidWorld (os : Os) : World := (handleWorld os).layVars Tryz.prog laidD
theorem laidWorld_os (os : Os) : (laidWorld os).os = os := World.layVars_os _ _ _
theorem laidWorld_met (os : Os) (args : Array Value) : laidMetH Tryz.prog laidL ((laidWorld os).forCall (fun _ _ => 0) ⟨#[], args, []⟩).memory := by
 refine laidMetH_of_parts ?_ (by kernel_rfl)
 have e1 : (laidD.filter fun x => (laidD.map (·.1)).contains x.1) = laidD := List.filter_eq_self.2 fun x hx => List.contains_iff_mem.2 (List.mem_map.2 ⟨x, hx, rfl⟩)
 have e2 : (laidD.filter fun x => !(laidD.map (·.1)).contains x.1) = [] := List.filter_eq_nil_iff.2 fun x hx => by rw [List.contains_iff_mem.2 (List.mem_map.2 ⟨x, hx, rfl⟩)]; simp
 have h : laidMet Tryz.prog laidD (laidWorld os) := laidMet_layVars (w0 := handleWorld os) (laidD.map (·.1)) [] (by rw [e1]; rfl) (by rw [e1]; kernel_rfl) (by rw [e1]; kernel_rfl) (by rw [e2]; exact LaidIn.none)
 exact h.of_heap (by simp [World.memory, World.forCall, Input.heap])
def OpensP (P : Program) (t : TypeId) (α : Type) [Enc α] (Q : α → Prop) : Prop :=
 ∀ {H : Type} {enc : TypeId × Value → H} {w : World} {base : Nat} {spare : Nat → Bool} {held : Bool} {r : Reach} {b0 : Nat} {v : Value} {d : DataW H} {p : List MemPlace}, Value.okWide P w r b0 t v → DataW.Trod enc P w base spare held t v d p →
  ∃ a : α, v = Enc.enc a ∧ Q a ∧ p = [] ∧ ∀ (w' : World) (b' : Nat) (sp' : Nat → Bool) (hd' : Bool), DataW.Trod enc P w' b' sp' hd' t v d []
theorem opensP_string {P : Program} {t : TypeId} (ht : P.underlying t = some .string) : OpensP P t ByteArray fun s => s.size ≤ 9223372036854775807 := by
 intro H enc w base spare held r b0 v d p hv h
 obtain ⟨n, rfl, rfl, rfl, hw⟩ := open_string ht hv h
 exact ⟨n, rfl, Nat.le_trans hw (by decide), rfl, fun w' b' sp' hd' => shut_string ht hw⟩
theorem oS : OpensP Tryz.prog 9 ByteArray fun s => s.size ≤ 9223372036854775807 := opensP_string Tryz.underlying9
theorem opensP_int {P : Program} {t : TypeId} (ht : P.underlying t = some (.int .i64)) : OpensP P t Int fun n => -9223372036854775808 ≤ n ∧ n ≤ 9223372036854775807 := by
 intro H enc w base spare held r b0 v d p hv h
 obtain ⟨n, rfl, rfl, rfl, hw⟩ := open_int ht hv h
 exact ⟨n, rfl, by simpa [Lit.wf, IntKind.min, IntKind.max, IntKind.signed, IntKind.bits] using hw, rfl, fun w' b' sp' hd' => shut_int ht hw⟩
theorem oI : OpensP Tryz.prog 3 Int fun n => -9223372036854775808 ≤ n ∧ n ≤ 9223372036854775807 := opensP_int Tryz.underlying3
theorem opensP_bool {P : Program} {t : TypeId} (ht : P.underlying t = some .bool) : OpensP P t Bool fun _ => True := by
 intro H enc w base spare held r b0 v d p hv h
 obtain ⟨n, rfl, rfl, rfl⟩ := open_bool ht hv h
 exact ⟨n, rfl, trivial, rfl, fun w' b' sp' hd' => shut_bool ht n⟩
theorem oB : OpensP Tryz.prog 4 Bool fun _ => True := opensP_bool Tryz.underlying4
theorem opensP_leaves {P : Program} {α : Type} [Enc α] {t : TypeId} {fs : Array Field} {Q : α → Prop} (hs : P.underlying t = some (.struct fs)) (hl : fs.toList.all (fun f => leafT P f.type) = true)
  (hc : ∀ cs : Array Value, cs.size = P.cellsOf t → (∀ (i : Nat) (f : Field), fs[i]? = some f → ∃ (H : Type) (enc : TypeId × Value → H) (w : World) (base : Nat) (spare : Nat → Bool) (held : Bool) (n : Nat) (y : DataW H × List MemPlace),
   DataW.trod enc P w base spare held n f.type ((cs.toList.drop f.offset).take (P.cellsOf f.type)) = some y) → ∃ a : α, Value.agg cs = Enc.enc a ∧ Q a) : OpensP P t α Q := by
 intro H enc w base spare held r b0 v d p hv h
 obtain ⟨cs, rfl, hsz⟩ := okWide_struct hs hv
 obtain ⟨fuel, hf⟩ := h
 simp only [Value.cells] at hf
 obtain ⟨hp, hany⟩ := leaves_any hs hl hf
 obtain ⟨xs, n, _, _, hlen, hxs, hg⟩ := DataW.trod_struct hs hf
 obtain ⟨a, ha, hq⟩ := hc cs hsz fun i f hi => by
  have hlt : i < xs.length := by
   have := (Array.getElem?_eq_some_iff.1 hi).1
   omega
  exact ⟨H, enc, w, base, spare, held, n, xs[i], by rw [hg i f hi, List.getElem?_eq_getElem hlt]⟩
 simp only at hp
 subst hp
 exact ⟨a, ha, hq, rfl, fun w' b' sp' hd' => ⟨2, by simpa [Value.cells] using hany w' b' sp' hd'⟩⟩
def r64 (n : Int) : Prop := -9223372036854775808 ≤ n ∧ n ≤ 9223372036854775807
def rS (s : ByteArray) : Prop := s.size ≤ 9223372036854775807
theorem r64_wf {n : Int} (h : (Lit.int .i64 n).wf = true) : r64 n := by simpa [Lit.wf, IntKind.min, IntKind.max, IntKind.signed, IntKind.bits, r64] using h
theorem array5 {α : Type} {cs : Array α} (h : cs.size = 5) : ∃ c0 c1 c2 c3 c4, cs = #[c0, c1, c2, c3, c4] := by
 obtain ⟨l⟩ := cs
 match l, h with
 | [c0, c1, c2, c3, c4], _ => exact ⟨c0, c1, c2, c3, c4, rfl⟩
theorem array3 {α : Type} {cs : Array α} (h : cs.size = 3) : ∃ c0 c1 c2, cs = #[c0, c1, c2] := by
 obtain ⟨l⟩ := cs
 match l, h with
 | [c0, c1, c2], _ => exact ⟨c0, c1, c2, rfl⟩
theorem oT : OpensP Tryz.prog 23 Fx.Ty fun t => r64 t.k ∧ r64 t.p ∧ r64 t.q ∧ rS t.s := by
 refine opensP_leaves Tryz.underlying23 (by kernel_rfl) fun cs hsz hf => ?_
 have hc : Tryz.prog.cellsOf 23 = 5 := by kernel_rfl
 have h3 : Tryz.prog.cellsOf 3 = 1 := by kernel_rfl
 have h4 : Tryz.prog.cellsOf 4 = 1 := by kernel_rfl
 have h9 : Tryz.prog.cellsOf 9 = 1 := by kernel_rfl
 rw [hc] at hsz
 obtain ⟨c0, c1, c2, c3, c4, rfl⟩ := array5 hsz
 ·obtain ⟨H, enc, w, base, spare, held, n, y, h0⟩ := hf 0 { name := "Kind", type := 3, offset := 0, embedded := false, tag := "", pkgPath := "", byteOffset := 0 } rfl
  obtain ⟨H, enc, w, base, spare, held, n, y, h1⟩ := hf 1 { name := "P", type := 3, offset := 1, embedded := false, tag := "", pkgPath := "", byteOffset := 8 } rfl
  obtain ⟨H, enc, w, base, spare, held, n, y, h2⟩ := hf 2 { name := "Q", type := 3, offset := 2, embedded := false, tag := "", pkgPath := "", byteOffset := 16 } rfl
  obtain ⟨H, enc, w, base, spare, held, n, y, hv⟩ := hf 3 { name := "Vary", type := 4, offset := 3, embedded := false, tag := "", pkgPath := "", byteOffset := 24 } rfl
  obtain ⟨H, enc, w, base, spare, held, n, y, hs⟩ := hf 4 { name := "Pic", type := 9, offset := 4, embedded := false, tag := "", pkgPath := "", byteOffset := 32 } rfl
  obtain ⟨k, e0, _, w0⟩ := DataW.trod_int Tryz.underlying3 h0
  obtain ⟨p, e1, _, w1⟩ := DataW.trod_int Tryz.underlying3 h1
  obtain ⟨q, e2, _, w2⟩ := DataW.trod_int Tryz.underlying3 h2
  obtain ⟨v, e3, _⟩ := DataW.trod_bool Tryz.underlying4 hv
  obtain ⟨s, e4, _, w4⟩ := DataW.trod_string Tryz.underlying9 hs
  simp only [h3, h4, h9, List.drop_zero, List.drop_succ_cons, List.take_succ_cons, List.take_zero, List.cons.injEq, and_true] at e0 e1 e2 e3 e4
  exact ⟨⟨k, p, q, v, s⟩, by rw [e0, e1, e2, e3, e4]; rfl, r64_wf w0, r64_wf w1, r64_wf w2, Nat.le_trans w4 (by decide)⟩
theorem oV : OpensP Tryz.prog 25 Fx.Vl fun v => r64 v.n ∧ rS v.s := by
 refine opensP_leaves Tryz.underlying25 (by kernel_rfl) fun cs hsz hf => ?_
 have hc : Tryz.prog.cellsOf 25 = 2 := by kernel_rfl
 have h3 : Tryz.prog.cellsOf 3 = 1 := by kernel_rfl
 have h9 : Tryz.prog.cellsOf 9 = 1 := by kernel_rfl
 rw [hc] at hsz
 obtain ⟨c0, c1, rfl⟩ := array2 hsz
 ·obtain ⟨H, enc, w, base, spare, held, n, y, h0⟩ := hf 0 { name := "N", type := 3, offset := 0, embedded := false, tag := "", pkgPath := "", byteOffset := 0 } rfl
  obtain ⟨H, enc, w, base, spare, held, n, y, h1⟩ := hf 1 { name := "S", type := 9, offset := 1, embedded := false, tag := "", pkgPath := "", byteOffset := 8 } rfl
  obtain ⟨k, e0, _, w0⟩ := DataW.trod_int Tryz.underlying3 h0
  obtain ⟨s, e4, _, w4⟩ := DataW.trod_string Tryz.underlying9 h1
  simp only [h3, h9, List.drop_zero, List.drop_succ_cons, List.take_succ_cons, List.take_zero, List.cons.injEq, and_true] at e0 e4
  exact ⟨⟨k, s⟩, by rw [e0, e4]; rfl, r64_wf w0, Nat.le_trans w4 (by decide)⟩
theorem oN : OpensP Tryz.prog 33 Cx.Nu fun v => rS v.d ∧ r64 v.c := by
 refine opensP_leaves Tryz.underlying33 (by kernel_rfl) fun cs hsz hf => ?_
 have hc : Tryz.prog.cellsOf 33 = 3 := by kernel_rfl
 have h3 : Tryz.prog.cellsOf 3 = 1 := by kernel_rfl
 have h4 : Tryz.prog.cellsOf 4 = 1 := by kernel_rfl
 have h9 : Tryz.prog.cellsOf 9 = 1 := by kernel_rfl
 rw [hc] at hsz
 obtain ⟨c0, c1, c2, rfl⟩ := array3 hsz
 ·obtain ⟨H, enc, w, base, spare, held, n, y, hv⟩ := hf 0 { name := "Neg", type := 4, offset := 0, embedded := false, tag := "", pkgPath := "", byteOffset := 0 } rfl
  obtain ⟨H, enc, w, base, spare, held, n, y, hs⟩ := hf 1 { name := "Digits", type := 9, offset := 1, embedded := false, tag := "", pkgPath := "", byteOffset := 8 } rfl
  obtain ⟨H, enc, w, base, spare, held, n, y, h0⟩ := hf 2 { name := "Scale", type := 3, offset := 2, embedded := false, tag := "", pkgPath := "", byteOffset := 24 } rfl
  obtain ⟨v, e3, _⟩ := DataW.trod_bool Tryz.underlying4 hv
  obtain ⟨s, e4, _, w4⟩ := DataW.trod_string Tryz.underlying9 hs
  obtain ⟨k, e0, _, w0⟩ := DataW.trod_int Tryz.underlying3 h0
  simp only [h3, h4, h9, List.drop_zero, List.drop_succ_cons, List.take_succ_cons, List.take_zero, List.cons.injEq, and_true] at e0 e3 e4
  exact ⟨⟨v, s, k⟩, by rw [e0, e3, e4]; rfl, Nat.le_trans w4 (by decide), r64_wf w0⟩
noncomputable def hAB (fn : Func) (s : ChangeSpec) (c : OpenClaim) : Bool := c.wf (OpenSpec.ofChange s) && fn.params.all (Tryz.prog.readableRec ·) && namedTie Tryz.prog c.named s.vars && (c.stops == []) && (c.knobs == [])
noncomputable def hRB (fn : Func) (s : ChangeSpec) (c : OpenClaim) : Bool := (c.maps == (fn.params.toList ++ s.plain.varTypes Tryz.prog).any (Tryz.prog.mapsRec ·)) && (c.ifaces == (fn.params.toList ++ s.plain.varTypes Tryz.prog).any (Tryz.prog.ifacesRec ·)) && (c.mapsOut == Tryz.prog.mapsAmong fn.resultTypes.toList) && (c.loops == (fn.params.toList ++ s.plain.varTypes Tryz.prog).any (Tryz.prog.loopsFrom ·))
noncomputable def hSB (fn : Func) (s : ChangeSpec) (c : OpenClaim) : Bool := (c.wideKeys == (fn.params.toList ++ s.plain.varTypes Tryz.prog ++ fn.resultTypes.toList).any (Tryz.prog.wideKeysFrom ·)) && s.vars.all (Tryz.prog.varReadable ·) && fn.resultTypes.all (fun t => Tryz.prog.readableRec t && decide (t < Tryz.prog.types.size)) && (c.ifacesOut == fn.resultTypes.toList.any (Tryz.prog.ifacesRec ·)) && (c.loopsOut == fn.resultTypes.toList.any (Tryz.prog.loopsFrom ·)) && c.shortTexts.isNone
noncomputable def hTB (fn : Func) (s : ChangeSpec) (c : OpenClaim) : Bool := (c.kinds == (if c.domain.isEmpty then [] else fn.params.toList.map fun t => match Tryz.prog.underlying t with | some (.int k) => some k | _ => none)) && (c.pinned == c.pinnedBy) && (c.veiled == (fn.params.toList ++ s.plain.varTypes Tryz.prog ++ fn.resultTypes.toList).any (Tryz.prog.veiledRec ·)) && c.veiledFits Tryz.prog fn.params.toList (fn.params.toList ++ s.plain.varTypes Tryz.prog ++ fn.resultTypes.toList)
set_option maxRecDepth 100000 in
theorem jf_mk {f : FuncId} {fn : Func} {s : ChangeSpec} {c : OpenClaim} (hA : hAB fn s c = true) (h1 : (c.inPlace == Tryz.prog.inPlace f) = true) (h2 : (c.unfollowed == Tryz.prog.unfollowed f) = true) (h3 : (c.recurses == Tryz.prog.recurses f) = true) (h4 : (c.named == Tryz.prog.varsNamed f) = true)
  (hR : hRB fn s c = true) (hS : hSB fn s c = true)
  (hk : (c.plainKeys == Tryz.prog.plainKeys) = true) (hl : (c.lifted == Tryz.prog.liftsFinal) = true) (hm : (Tryz.prog.make == some c.make) = true)
  (hT : hTB fn s c = true) : joinedFacts Tryz.prog f fn s c = true := by
 unfold joinedFacts
 simp only [hAB, hRB, hSB, hTB, Bool.and_eq_true] at hA hR hS hT
 obtain ⟨⟨⟨⟨a1, a2⟩, a3⟩, a4⟩, a5⟩ := hA
 obtain ⟨⟨⟨r1, r2⟩, r3⟩, r4⟩ := hR
 obtain ⟨⟨⟨⟨⟨s1, s2⟩, s3⟩, s4⟩, s5⟩, s6⟩ := hS
 obtain ⟨⟨⟨t1, t2⟩, t3⟩, t4⟩ := hT
 rw [a1, a2, a3, a4, a5, h1, h2, h3, h4, r1, r2, r3, r4, s1, s2, s3, s4, s5, s6, t2, t3, t4, q_laid, q_maps, q_stop, q_knob, q_heard, q_enter, hk, hl, hm]
 simp only [Bool.true_and, Bool.and_true]
 exact t1
end Go.Px
end
noncomputable section
namespace Go.Ab
open Go Go.RowKit
def eqI (a b : Int) : Bool := match a, b with
 | .ofNat m, .ofNat n => Nat.beq m n
 | .negSucc m, .negSucc n => Nat.beq m n
 | _, _ => false
def eqU : List UInt8 → List UInt8 → Bool
 | [], [] => true
 | a :: l, b :: r => match Nat.beq a.toNat b.toNat with | true => eqU l r | false => false
 | _, _ => false
def eqK (a b : IntKind) : Bool := match decEq a b with | .isTrue _ => true | .isFalse _ => false
mutual
def eqV : Value → Value → Bool
 | .int k a, .int k' b => match eqK k k' with | true => eqI a b | false => false
 | .bool a, .bool b => match a, b with | true, true => true | false, false => true | _, _ => false
 | .string ⟨⟨a⟩⟩, .string ⟨⟨b⟩⟩ => eqU a b
 | .agg ⟨l⟩, .agg ⟨r⟩ => eqVL l r
 | .iface t a, .iface t' b => match Nat.beq t t' with | true => eqV a b | false => false
 | .nilIface, .nilIface => true
 | _, _ => false
def eqVL : List Value → List Value → Bool
 | [], [] => true
 | a :: l, b :: r => match eqV a b with | true => eqVL l r | false => false
 | _, _ => false
end
theorem eqI_spec {a b : Int} (h : eqI a b = true) : a = b := by
 unfold eqI at h
 split at h
 ·rw [Nat.eq_of_beq_eq_true h]
 ·rw [Nat.eq_of_beq_eq_true h]
 ·cases h
theorem eqU_spec : ∀ {a b : List UInt8}, eqU a b = true → a = b
 | [], [], _ => rfl
 | a :: l, b :: r, h => by
  simp only [eqU] at h
  split at h
  ·rename_i hb
   rw [UInt8.toNat_inj.1 (Nat.eq_of_beq_eq_true hb), eqU_spec h]
  ·cases h
 | [], _ :: _, h => by cases h
 | _ :: _, [], h => by cases h
theorem eqK_spec {a b : IntKind} (h : eqK a b = true) : a = b := by
 unfold eqK at h
 split at h
 ·assumption
 ·cases h
mutual
theorem eqV_spec : ∀ {a b : Value}, eqV a b = true → a = b
 | .int k a, .int k' b, h => by
  simp only [eqV] at h
  split at h
  ·rename_i hk
   rw [eqK_spec hk, eqI_spec h]
  ·cases h
 | .bool a, .bool b, h => by cases a <;> cases b <;> first | rfl | cases h
 | .string ⟨⟨a⟩⟩, .string ⟨⟨b⟩⟩, h => by
  simp only [eqV] at h
  rw [eqU_spec h]
 | .agg ⟨l⟩, .agg ⟨r⟩, h => by
  simp only [eqV] at h
  rw [eqVL_spec h]
 | .iface t a, .iface t' b, h => by
  simp only [eqV] at h
  split at h
  ·rename_i ht
   rw [Nat.eq_of_beq_eq_true ht, eqV_spec h]
  ·cases h
 | .nilIface, .nilIface, _ => rfl
theorem eqVL_spec : ∀ {a b : List Value}, eqVL a b = true → a = b
 | [], [], _ => rfl
 | a :: l, b :: r, h => by
  simp only [eqVL] at h
  split at h
  ·rename_i hb
   rw [eqV_spec hb, eqVL_spec h]
  ·cases h
 | [], _ :: _, h => by cases h
 | _ :: _, [], h => by cases h
end
def memo : List (List Value × Value) → Spec
 | [] => fun _ _ => none
 | (a, v) :: r => fun args bs => match eqVL args a with | true => some (true, v) | false => memo r args bs
theorem memo_spec {args : List Value} {bs : List (Option Blk)} {b : Bool} {v : Value} : ∀ {l : List (List Value × Value)}, memo l args bs = some (b, v) → b = true ∧ (args, v) ∈ l
 | [], h => by cases h
 | (a, u) :: r, h => by
  simp only [memo] at h
  split at h
  ·rename_i ha
   simp only [Option.some.injEq, Prod.mk.injEq] at h
   exact ⟨h.1.symm, by rw [eqVL_spec ha, h.2]; exact List.mem_cons_self ..⟩
  ·obtain ⟨h1, h2⟩ := memo_spec h
   exact ⟨h1, List.mem_cons_of_mem _ h2⟩
variable [Tabs]
def AllD (P : Program) (G : Env) (L : Nat → Option LoopH) (fn : Func) : List (List Value × Value) → Prop
 | [] => True
 | (a, v) :: r => DoesQ P G L fn a v ∧ AllD P G L fn r
theorem AllD_mem {P : Program} {G : Env} {L : Nat → Option LoopH} {fn : Func} {a : List Value} {v : Value} : ∀ {l : List (List Value × Value)}, AllD P G L fn l → (a, v) ∈ l → DoesQ P G L fn a v
 | (a', v') :: r, h, hm => by
  rcases List.mem_cons.1 hm with e | hm
  ·cases e; exact h.1
  ·exact AllD_mem h.2 hm
theorem pure_memo {P : Program} {G : Env} {L : Nat → Option LoopH} {f : FuncId} {fn : Func} (hG : EnvOK P G) (hm : P.follows .mixedOrders = true) (hf : Fn1 P f fn) (hL : LOKf P L fn) {l : List (List Value × Value)}
  (hp : (l.all fun x => plainL x.1 && Nat.ble x.1.length fn.ntmps) = true) (h : AllD P G L fn l) : PureOK P f (memo l) := by
 refine pure_ofQ hG hm hf hL fun args bs v hs => ?_
 obtain ⟨_, hmem⟩ := memo_spec hs
 have := List.all_eq_true.1 hp _ hmem
 simp only [Bool.and_eq_true] at this
 exact ⟨this.1, Nat.le_of_ble_eq_true this.2, AllD_mem h hmem⟩
end Go.Ab
end
noncomputable section
namespace Go.Ab
open Go Go.RowKit
def cj (p : Prop) : Nat → Prop
 | 0 => p
 | n + 1 => p ∧ cj p n
theorem cj_of {p : Prop} (h : p) : ∀ n, cj p n
 | 0 => h
 | n + 1 => ⟨h, cj_of h n⟩
def SelfL : List (List Value × Value) → List Nat → Prop
 | [], _ => True
 | (_, v) :: r, [] => v = v ∧ SelfL r []
 | (_, v) :: r, k :: ks => cj (v = v) k ∧ SelfL r ks
theorem self_ok : ∀ l ks, SelfL l ks
 | [], _ => trivial
 | (_, _) :: r, [] => ⟨rfl, self_ok r []⟩
 | (_, _) :: r, k :: ks => ⟨cj_of rfl k, self_ok r ks⟩
variable [Tabs]
def RunL (P : Program) (G : Env) (L : Nat → Option LoopH) (fn : Func) : List (List Value × Value) → Prop
 | [] => True
 | (a, v) :: r => bodyQ P G L fn a (fun _ => none) 0 (fun v' _ _ => v' = v) ∧ RunL P G L fn r
theorem allD_of {P : Program} {G : Env} {L : Nat → Option LoopH} {fn : Func} : ∀ {l : List (List Value × Value)}, RunL P G L fn l → AllD P G L fn l
 | [], _ => trivial
 | (_, _) :: _, h => ⟨by rw [DoesQ]; exact h.1, allD_of h.2⟩
theorem pure_memoR (ks : List Nat) {P : Program} {G : Env} {L : Nat → Option LoopH} {f : FuncId} {fn : Func} (hG : EnvOK P G) (hm : P.follows .mixedOrders = true) (hf : Fn1 P f fn) (hL : LOKf P L fn) {l : List (List Value × Value)}
  (hp : (l.all fun x => plainL x.1 && Nat.ble x.1.length fn.ntmps) = true) (h : RunL P G L fn l = SelfL l ks) : PureOK P f (memo l) :=
 pure_memo hG hm hf hL hp (allD_of (cast h.symm (self_ok l ks)))
end Go.Ab
end
noncomputable section
namespace Go.Cs
open Go Go.Ab Go.Proofs Go.Shelf Go.Px Go.Cx Go.RowKit
/-- The tables; lengths and characters are computed. -/
instance tabsC : Tabs := { row := rowsT, plain := tabs.plain, conc := true }
theorem RelM.toT {N : Nat} {w0 : World} {m : Lk} {ι : Nm} {w : World} (h : @RelM tabsC N w0 m ι w) : @RelM tabs N w0 m ι w :=
 @RelM.mk tabs N w0 m ι w h.below h.base h.blk h.view h.inj
theorem RelM.toC {N : Nat} {w0 : World} {m : Lk} {ι : Nm} {w : World} (h : @RelM tabs N w0 m ι w) : @RelM tabsC N w0 m ι w :=
 @RelM.mk tabsC N w0 m ι w (@RelM.below tabs N w0 m ι w h) (@RelM.base tabs N w0 m ι w h) (@RelM.blk tabs N w0 m ι w h) (@RelM.view tabs N w0 m ι w h) (@RelM.inj tabs N w0 m ι w h)
theorem pureC {f : FuncId} {s : Ab.Spec} (h : @PureOK tabs Tryz.prog f s) : @PureOK tabsC Tryz.prog f s :=
 ⟨h.1, fun args v N w0 lk ι w hr hs hv => h.2 args v N w0 lk ι w (RelM.toT hr) hs hv⟩
theorem pure_at {f : FuncId} {s : Ab.Spec} (h : PureOK Tryz.prog f s) {l : List (List Value × Value)} (hl : ∀ a v, (a, v) ∈ l → ∀ bs, s a bs = some (true, v)) : PureOK Tryz.prog f (memo l) :=
 ⟨h.1, fun args v N w0 lk ι w hr hs hv => h.2 args v N w0 lk ι w hr (hl _ _ (memo_spec hs).2 _) hv⟩
def s154 (s t : ByteArray) : Bool × Value := (oneB t && asc (bz t), .string (sz (tlZ (bz s) ((bz t).getD 0 0))))
theorem ok154 : PureOK Tryz.prog 154 (sp2 s154) := by
 have e : s154 = Cx.s154 := by funext s t; simp only [s154, Cx.s154, szO_eq]
 rw [e]; exact pureC Cx.ok154
def s131 (s t : ByteArray) : Bool × Value := (decide (s.size ≤ 9223372036854775807) && (oneB t && asc (bz t)), .string (sz (trZ (bz s) ((bz t).getD 0 0))))
theorem ok131 : PureOK Tryz.prog 131 (sp2 s131) := by
 have e : s131 = Cx.s131 := by funext s t; simp only [s131, Cx.s131, szO_eq]
 rw [e]; exact pureC Cx.ok131
def s55 (s t : ByteArray) : Bool × Value := (decide (s.size ≤ 9223372036854775807) && (decide (t.size ≤ 1000) && asc (bz t)), .string (sz (trimZ (bz s) (bz t))))
theorem ok55 : PureOK Tryz.prog 55 (sp2 s55) := by
 have e : s55 = Cx.s55 := by funext s t; simp only [s55, Cx.s55, szO_eq]
 rw [e]; exact pureC Cx.ok55
def s30 (s : ByteArray) (n : Int) : Bool × Value := (decide (0 ≤ n ∧ n ≤ 1000 ∧ s.size ≤ 1000), .string (sz (repZ (bz s) n.toNat)))
theorem ok30 : PureOK Tryz.prog 30 (sp2 s30) := by
 have e : s30 = Cx.s30 := by funext s n; simp only [s30, Cx.s30, szO_eq]
 rw [e]; exact pureC Cx.ok30
theorem dec1234 : Lib.decDigits 1234 = [49, 50, 51, 52] := by
 rw [Lib.decDigits, dif_neg (by decide), Lib.decDigits, dif_neg (by decide), Lib.decDigits_two (by decide) (by decide)]; rfl
theorem dec1230 : Lib.decDigits 1230 = [49, 50, 51, 48] := by
 rw [Lib.decDigits, dif_neg (by decide), Lib.decDigits, dif_neg (by decide), Lib.decDigits_two (by decide) (by decide)]; rfl
theorem dec150 : Lib.decDigits 150 = [49, 53, 48] := by
 rw [Lib.decDigits, dif_neg (by decide), Lib.decDigits_two (by decide) (by decide)]; rfl
theorem dec123 : Lib.decDigits 123 = [49, 50, 51] := by
 rw [Lib.decDigits, dif_neg (by decide), Lib.decDigits_two (by decide) (by decide)]; rfl
theorem dec234 : Lib.decDigits 234 = [50, 51, 52] := by
 rw [Lib.decDigits, dif_neg (by decide), Lib.decDigits_two (by decide) (by decide)]; rfl
theorem ito {n : Nat} {l : List UInt8} (h : Lib.decDigits n = l) : Cx.s29 (n : Int) = (decide (-9223372036854775808 ≤ (n : Int) ∧ (n : Int) ≤ 9223372036854775807), .string ⟨l.toArray⟩) := by
 rw [Cx.s29, szO_eq, itoZ, Lib.itoa_nonneg, h, sz_zl]
theorem fmt {n : Nat} {l : List UInt8} (h : Lib.decDigits n = l) : Px.s87 ⟨(n : Int)⟩ 10 = (decide (0 ≤ (n : Int) ∧ (n : Int) < 18446744073709551616) && isTen 10, .string ⟨l.toArray⟩) := by
 show (_, Value.string (sz (zl (Lib.decDigits (n : Int).toNat)))) = _
 rw [Int.toNat_natCast, h, sz_zl]
def m29 : List (List Value × Value) := [([.int .i64 150], .string ⟨#[49, 53, 48]⟩), ([.int .i64 123], .string ⟨#[49, 50, 51]⟩), ([.int .i64 1234], .string ⟨#[49, 50, 51, 52]⟩)]
theorem mem_all {α : Type} {p : α → Prop} : ∀ {l : List α}, (l.foldr (fun a q => p a ∧ q) True) → ∀ a ∈ l, p a
 | _ :: _, h, _, ha => by
  rcases List.mem_cons.1 ha with rfl | ha
  ·exact h.1
  ·exact mem_all h.2 _ ha
theorem pk29 : PureOK Tryz.prog 29 (memo m29) := pure_at (pureC Cx.ok29) fun a v h bs => by
 have := mem_all (p := fun x : List Value × Value => sp1 Cx.s29 x.1 bs = some (true, x.2)) (l := m29) ⟨congrArg some (ito dec150), congrArg some (ito dec123), congrArg some (ito dec1234), trivial⟩ _ h
 exact this
def m81 : List (List Value × Value) := [([.int .u64 1230, .int .i64 10], .string ⟨#[49, 50, 51, 48]⟩), ([.int .u64 234, .int .i64 10], .string ⟨#[50, 51, 52]⟩)]
theorem pk81 : PureOK Tryz.prog 81 (memo m81) := pure_at (pureC Px.ok87) fun a v h bs => by
 have := mem_all (p := fun x : List Value × Value => sp2 Px.s87 x.1 bs = some (true, x.2)) (l := m81) ⟨congrArg some (fmt dec1230), congrArg some (fmt dec234), trivial⟩ _ h
 exact this
theorem genC : @GenOK tabsC Tryz.prog 100 h100 := by
 obtain ⟨h1, h2⟩ := @gen100
 refine ⟨h1, fun args m n K hh N w0 ι w hrel hwf hargs => ?_⟩
 refine (h2 args m n K hh N w0 ι w (RelM.toT hrel) hwf hargs).mono fun e w' ⟨v, m', n', ι', h⟩ => ⟨v, m', n', ι', h.1, h.2.1, h.2.2.1, h.2.2.2.1, RelM.toC h.2.2.2.2.1, h.2.2.2.2.2⟩
def S0 : Env := Env.nil
theorem ok_S0 : EnvOK Tryz.prog S0 := env_nil
end Go.Cs
end
