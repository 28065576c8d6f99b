/-
  The walks of the picture functions and of the laws of reading back, fitting, suppression and signs, in parts. (part 4)
-/
import Derived.Test.YtheglfmhbfngkaaGreatDoorH3
set_option linter.unusedVariables false
set_option linter.unusedSimpArgs false
noncomputable section
set_option maxHeartbeats 3200000
namespace Go.Px
open Go Go.Ab Go.Proofs Go.Shelf
theorem cuM_nn (n q sc : Int) : 0 ≤ cuM n q sc := by
 unfold cuM
 split
 ·exact Int.ediv_nonneg (by omega) (by have := tenZ_pos (q - sc).toNat; omega)
 ·exact Int.mul_nonneg (by omega) (by have := tenZ_pos (sc - q).toNat; omega)
theorem cuN_lt (n q sc d : Int) (sg : Bool) : ((cuN n q sc d sg).natAbs : Int) < tenZ d.toNat := by
 have hm := Int.emod_nonneg (cuM n q sc) (b := tenZ d.toNat) (by have := tenZ_pos d.toNat; omega)
 have hl := Int.emod_lt_of_pos (cuM n q sc) (tenZ_pos d.toNat)
 unfold cuN cuV
 split <;> omega
theorem wr_use {s : ByteArray} (h : pN (bz s) = true) {k cap : Nat} {d : List Value} (hR : rowIOK d k cap = true) (hz : zc d k = rolF (pS (bz s))) {m : Int} (hm : (m.natAbs : Int) < tenZ (pD (bz s)).toNat) :
  w64C (sz (pS (bz s))) (sz (digZ m.natAbs (pD (bz s)).toNat)) k cap (pW (bz s)) (fdFl (pS (bz s))) d = true ∧
  wrV (bz (sz (pS (bz s)))) (pW (bz s)) (nD (bodyZ (pS (bz s)))).2.2 (crZ (pS (bz s))) (drZ (bodyZ (pS (bz s)))) (fdFl (pS (bz s))) (cntZ (mkGo (drZ (bodyZ (pS (bz s)))) false (bodyZ (pS (bz s)))) 100) (zc d k) (bz (sz (digZ m.natAbs (pD (bz s)).toNat))) (decide (m < 0)) =
   (fieldZ (pS (bz s)) (pW (bz s)) (pD (bz s)).toNat m, fdLe (pS (bz s)) (pW (bz s)) (pD (bz s)).toNat m) := by
 have hl := pS_len s
 have hr := rowIOK_iff.1 hR
 have hk : k = (pS (bz s)).length := by rw [← rol_len h, ← hz, zi_length hr]
 have b1 : bz (sz (pS (bz s))) = pS (bz s) := bz_sz hl.1
 have hdd := digZ_dg (pD (bz s)).toNat m.natAbs
 have b2 : bz (sz (digZ m.natAbs (pD (bz s)).toNat)) = digZ m.natAbs (pD (bz s)).toNat := bz_sz (dg_isB hdd)
 have z1 : (sz (pS (bz s))).size = (pS (bz s)).length := by rw [← bz_length, b1]
 have z2 : (sz (digZ m.natAbs (pD (bz s)).toNat)).size = (pD (bz s)).toNat := by rw [← bz_length, b2, digZ_len]
 obtain ⟨f1, _, f3, _⟩ := pic_facts hl h
 have hp := pD_rng h
 have hw := pN_ok hl h 0
 refine ⟨?_, by rw [b1, b2, hz]; exact wr_law hl h hm⟩
 simp only [w64C, Bool.and_eq_true, decide_eq_true_eq]
 rw [hz, b2, z1, z2, f3]
 refine ⟨hR, ?_, hdd, ⟨by omega, by omega, by omega, by omega, hw.2.2.2.1, by omega⟩, by omega, ?_⟩
 ·simp only [roOK, List.all_eq_true, decide_eq_true_eq]
  exact fun r hr => by have := f1 r hr; omega
 ·unfold fdFl
  split
  ·exact .inr rfl
  ·exact .inl rfl
def s20 (n : Int) (q : Int) (s : ByteArray) : Bool × Value := (decide (s.size ≤ 9223372036854775807 ∧ -9223372036854775808 ≤ n ∧ n ≤ 9223372036854775807), .tuple ⟨[.string (sz (edS (bz s) n q)), .bool (edF (bz s) n q), .int .i64 (edE (bz s) q)]⟩)
theorem fn20 : Fn1 Tryz.prog 20 Tryz.f20 := ⟨Tryz.func20, by kernel_rfl, by kernel_rfl, by kernel_rfl⟩
theorem v20 (n : Int) (q : Int) (s : ByteArray) (R : Value → Prop) : bodyQ Tryz.prog G37 noL Tryz.f20 [Enc.enc n, Enc.enc q, Enc.enc s] (fun _ => none) 0 (fun v _ _ => R v) = ( bif decide (ByteArray.size s ≤ 9223372036854775807) then bif pN (bz s) then ∀ (k cap : Nat) (d : List Value), rowIOK d k cap = true → zc d k = rolF (pS (bz s)) → bif decide (q < 0) || true then bif decide (q < 0) || decide (q > 9) then R (.tuple (.mk [.string (ByteArray.mk #[]), .bool false, .int .i64 1])) else bif i64B n && (decide (0 ≤ q ∧ q ≤ 9) && (decide (0 ≤ pQ (bz s) ∧ pQ (bz s) ≤ 9) && decide (0 ≤ pD (bz s) ∧ pD (bz s) ≤ 9))) then bif rowIOK d k cap && (roOK (zc d k) && (dgL (bz (sz (digZ (↑(Int.natAbs (cuN n q (pQ (bz s)) (pD (bz s)) (pG (bz s)))) : Int) (Int.toNat (pD (bz s)))))) && decide ((k ≤ 1000 ∧ ByteArray.size (sz (digZ (↑(Int.natAbs (cuN n q (pQ (bz s)) (pD (bz s)) (pG (bz s)))) : Int) (Int.toNat (pD (bz s))))) ≤ 1000 ∧ k ≤ ByteArray.size (sz (pS (bz s))) ∧ ByteArray.size (sz (pS (bz s))) ≤ 1000 ∧ 0 ≤ pW (bz s) ∧ pW (bz s) ≤ 1000) ∧ cdg (zc d k) ≤ (↑(ByteArray.size (sz (digZ (↑(Int.natAbs (cuN n q (pQ (bz s)) (pD (bz s)) (pG (bz s)))) : Int) (Int.toNat (pD (bz s)))))) : Int) ∧ (fdFl (pS (bz s)) = 32 ∨ fdFl (pS (bz s)) = 42)))) then ∀ (t : ByteArray) (l : Int), sz (Prod.fst (wrV (bz (sz (pS (bz s)))) (pW (bz s)) (Prod.snd (Prod.snd (nD (bodyZ (pS (bz s)))))) (crZ (pS (bz s))) (drZ (bodyZ (pS (bz s)))) (fdFl (pS (bz s))) (↑(cntZ (mkGo (drZ (bodyZ (pS (bz s)))) false (bodyZ (pS (bz s)))) 100) : Int) (zc d k) (bz (sz (digZ (↑(Int.natAbs (cuN n q (pQ (bz s)) (pD (bz s)) (pG (bz s)))) : Int) (Int.toNat (pD (bz s)))))) (decide (cuN n q (pQ (bz s)) (pD (bz s)) (pG (bz s)) < 0)))) = t → Prod.snd (wrV (bz (sz (pS (bz s)))) (pW (bz s)) (Prod.snd (Prod.snd (nD (bodyZ (pS (bz s)))))) (crZ (pS (bz s))) (drZ (bodyZ (pS (bz s)))) (fdFl (pS (bz s))) (↑(cntZ (mkGo (drZ (bodyZ (pS (bz s)))) false (bodyZ (pS (bz s)))) 100) : Int) (zc d k) (bz (sz (digZ (↑(Int.natAbs (cuN n q (pQ (bz s)) (pD (bz s)) (pG (bz s)))) : Int) (Int.toNat (pD (bz s)))))) (decide (cuN n q (pQ (bz s)) (pD (bz s)) (pG (bz s)) < 0))) = l → R (.tuple (.mk [.string t, .bool (cuF n q (pQ (bz s)) (pD (bz s)) (pG (bz s))), .int .i64 0])) else False else False else False else R (.tuple (.mk [.string (ByteArray.mk #[]), .bool false, .int .i64 30])) else False) := by kernel_rfl
theorem ok20 : PureOK Tryz.prog 20 (sp3 s20) := by
 refine qure3 ok_G37 hmix fn20 lokf_none (Nat.le_of_ble_eq_true (by kernel_rfl)) fun n q s hc => ?_
 rw [DoesQ, v20]
 have hc : (s.size ≤ 9223372036854775807 ∧ -9223372036854775808 ≤ n ∧ n ≤ 9223372036854775807) := of_decide_eq_true hc
 try dsimp only [s20]
 refine c_t (decide_eq_true hc.1) (cond_intro (fun h => ?_) (fun h => ?_))
 ·intro k cap d hR hz
  refine c_t (by simp) (cond_intro (fun hq => ?_) (fun hq => ?_))
  ·have hq : q < 0 ∨ q > 9 := by simpa using hq
   have h1 : ¬ (0 ≤ q ∧ q ≤ 9) := by omega
   rw [edS, edF, edE, if_neg (fun e => h1 ⟨e.2.1, e.2.2⟩), if_neg (fun e => h1 ⟨e.2.1, e.2.2⟩), if_pos h, if_neg h1, sz_nil]
  ·have hq : 0 ≤ q ∧ q ≤ 9 := by
    simp only [Bool.or_eq_false_iff, decide_eq_false_iff_not] at hq
    omega
   have hp := pD_rng h
   obtain ⟨g1, g2⟩ := wr_use h hR hz (cuN_lt n q (pQ (bz s)) (pD (bz s)) (pG (bz s)))
   refine c_t (by simp only [i64B, Bool.and_eq_true, decide_eq_true_eq]; omega) (c_t g1 fun t l h1 h2 => ?_)
   rw [g2] at h1 h2
   rw [edS, edF, edE, if_pos ⟨h, hq⟩, if_pos ⟨h, hq⟩, if_pos h, if_pos hq, ← h1]
 ·have h1 : ¬ pN (bz s) = true := by rw [h]; simp
  rw [edS, edF, edE, if_neg (fun e => h1 e.1), if_neg (fun e => h1 e.1), if_neg h1, sz_nil]
def s36 (n : Int) (s : ByteArray) : Bool × Value := (decide (s.size ≤ 9223372036854775807 ∧ -9223372036854775808 ≤ n ∧ n ≤ 9223372036854775807), .tuple ⟨[.int .i64 (leZ (bz s) n), .int .i64 (nE (bz s))]⟩)
theorem fn36 : Fn1 Tryz.prog 36 Tryz.f36 := ⟨Tryz.func36, by kernel_rfl, by kernel_rfl, by kernel_rfl⟩
theorem v36 (n : Int) (s : ByteArray) (R : Value → Prop) : bodyQ Tryz.prog G37 noL Tryz.f36 [Enc.enc n, Enc.enc s] (fun _ => none) 0 (fun v _ _ => R v) = ( bif decide (ByteArray.size s ≤ 9223372036854775807) then bif pN (bz s) then ∀ (k cap : Nat) (d : List Value), rowIOK d k cap = true → zc d k = rolF (pS (bz s)) → bif i64B n && (decide (0 ≤ pQ (bz s) ∧ pQ (bz s) ≤ 9) && (decide (0 ≤ pQ (bz s) ∧ pQ (bz s) ≤ 9) && decide (0 ≤ pD (bz s) ∧ pD (bz s) ≤ 9))) then bif rowIOK d k cap && (roOK (zc d k) && (dgL (bz (sz (digZ (↑(Int.natAbs (cuN n (pQ (bz s)) (pQ (bz s)) (pD (bz s)) (pG (bz s)))) : Int) (Int.toNat (pD (bz s)))))) && decide ((k ≤ 1000 ∧ ByteArray.size (sz (digZ (↑(Int.natAbs (cuN n (pQ (bz s)) (pQ (bz s)) (pD (bz s)) (pG (bz s)))) : Int) (Int.toNat (pD (bz s))))) ≤ 1000 ∧ k ≤ ByteArray.size (sz (pS (bz s))) ∧ ByteArray.size (sz (pS (bz s))) ≤ 1000 ∧ 0 ≤ pW (bz s) ∧ pW (bz s) ≤ 1000) ∧ cdg (zc d k) ≤ (↑(ByteArray.size (sz (digZ (↑(Int.natAbs (cuN n (pQ (bz s)) (pQ (bz s)) (pD (bz s)) (pG (bz s)))) : Int) (Int.toNat (pD (bz s)))))) : Int) ∧ (fdFl (pS (bz s)) = 32 ∨ fdFl (pS (bz s)) = 42)))) then ∀ (t : ByteArray) (l : Int), sz (Prod.fst (wrV (bz (sz (pS (bz s)))) (pW (bz s)) (Prod.snd (Prod.snd (nD (bodyZ (pS (bz s)))))) (crZ (pS (bz s))) (drZ (bodyZ (pS (bz s)))) (fdFl (pS (bz s))) (↑(cntZ (mkGo (drZ (bodyZ (pS (bz s)))) false (bodyZ (pS (bz s)))) 100) : Int) (zc d k) (bz (sz (digZ (↑(Int.natAbs (cuN n (pQ (bz s)) (pQ (bz s)) (pD (bz s)) (pG (bz s)))) : Int) (Int.toNat (pD (bz s)))))) (decide (cuN n (pQ (bz s)) (pQ (bz s)) (pD (bz s)) (pG (bz s)) < 0)))) = t → Prod.snd (wrV (bz (sz (pS (bz s)))) (pW (bz s)) (Prod.snd (Prod.snd (nD (bodyZ (pS (bz s)))))) (crZ (pS (bz s))) (drZ (bodyZ (pS (bz s)))) (fdFl (pS (bz s))) (↑(cntZ (mkGo (drZ (bodyZ (pS (bz s)))) false (bodyZ (pS (bz s)))) 100) : Int) (zc d k) (bz (sz (digZ (↑(Int.natAbs (cuN n (pQ (bz s)) (pQ (bz s)) (pD (bz s)) (pG (bz s)))) : Int) (Int.toNat (pD (bz s)))))) (decide (cuN n (pQ (bz s)) (pQ (bz s)) (pD (bz s)) (pG (bz s)) < 0))) = l → R (.tuple (.mk [.int .i64 l, .int .i64 0])) else False else False else R (.tuple (.mk [.int .i64 0, .int .i64 30])) else False) := by kernel_rfl
theorem ok36 : PureOK Tryz.prog 36 (sp2 s36) := by
 refine qure2 ok_G37 hmix fn36 lokf_none (Nat.le_of_ble_eq_true (by kernel_rfl)) fun n s hc => ?_
 rw [DoesQ, v36]
 have hc : (s.size ≤ 9223372036854775807 ∧ -9223372036854775808 ≤ n ∧ n ≤ 9223372036854775807) := of_decide_eq_true hc
 try dsimp only [s36]
 refine c_t (decide_eq_true hc.1) (cond_intro (fun h => ?_) (fun h => ?_))
 ·intro k cap d hR hz
  have hp := pD_rng h
  obtain ⟨g1, g2⟩ := wr_use h hR hz (cuN_lt n (pQ (bz s)) (pQ (bz s)) (pD (bz s)) (pG (bz s)))
  refine c_t (by simp only [i64B, Bool.and_eq_true, decide_eq_true_eq]; omega) (c_t g1 fun t l h1 h2 => ?_)
  rw [g2] at h1 h2
  rw [leZ, nE, if_pos h, if_pos h, ← h2]
  rfl
 ·have h1 : ¬ pN (bz s) = true := by rw [h]; simp
  rw [leZ, nE, if_neg h1, if_neg h1]
end Go.Px
end
noncomputable section
set_option maxHeartbeats 3200000
namespace Go.Px
open Go Go.Ab Go.Proofs Go.Shelf
theorem unK_dig {c : Int} (h1 : c ≥ 48) (h2 : c ≤ 57) : unK c = false := by
 cases h : unK c with
 | false => rfl
 | true =>
  have := hasZ_iff.1 h
  simp only [punchedZ, List.mem_cons, List.not_mem_nil, or_false] at this
  omega
def gsGo : List Int → List Int → List Int
 | [], _ => []
 | r :: rs, cs => bif r == 2 then gsGo rs cs else bif r != 0 && r != 1 then gsGo rs cs.tail else (48 + rdD (cs.headD 0)) :: gsGo rs cs.tail
def V67_0 : ByteArray × ByteArray × Rw × Int × Nat × Nat × Int × Int × List Value → List Value := fun (t, r4, o, aa, k2, cap2, L, i, d) => [.string t, .string r4, o.v 200, .int .i64 aa, .slice (some ⟨1, 0, some 1⟩) k2 cap2, .int .i64 L, .int .i64 i]
def B67_0 : ByteArray × ByteArray × Rw × Int × Nat × Nat × Int × Int × List Value → List (Option Blk) := fun (t, r4, o, aa, k2, cap2, L, i, d) => [some ⟨d, 102, false⟩, o.b]
def S67_0 : LSpecA (ByteArray × ByteArray × Rw × Int × Nat × Nat × Int × Int × List Value) where
 live := [1, 4, 5, 6, 16, 17, 18]
 mid := [1, 200]
 n := 210
 ap := [(.tmp 5, 200)]
 dec vs bs := match vs, bs with | [.string t, .string r4, .slice none 0 0, .int .i64 aa, .slice (some ⟨1, 0, some 1⟩) k2 cap2, .int .i64 L, .int .i64 i], [some ⟨d, 102, false⟩, none] => some (t, r4, .nil, aa, k2, cap2, L, i, d) | [.string t, .string r4, .slice (some ⟨200, 0, some 1⟩) om oc, .int .i64 aa, .slice (some ⟨1, 0, some 1⟩) k2 cap2, .int .i64 L, .int .i64 i], [some ⟨d, 102, false⟩, some ⟨od, 5, true⟩] => some (t, r4, .own od om oc, aa, k2, cap2, L, i, d) | _, _ => none
 pre := fun (t, r4, o, aa, k2, cap2, L, i, d) => o.ok && (rowIOK d k2 cap2 && decide (0 ≤ i ∧ i ≤ k2 ∧ k2 ≤ 1000 ∧ L = k2 ∧ 0 ≤ aa ∧ aa ≤ i ∧ aa + cN ((zc d k2).drop i.toNat) ≤ t.size ∧ o.z.length ≤ i))
 fin := fun (t, r4, o, aa, k2, cap2, L, i, d) Z => (o.is = false → gsGo ((zc d k2).drop i.toNat) ((bz t).drop aa.toNat) = [] → ∀ a' i', Z (.exit 0) [.string t, .string r4, .slice none 0 0, .int .i64 a', .slice (some ⟨1, 0, some 1⟩) k2 cap2, .int .i64 L, .int .i64 i'] [some ⟨d, 102, false⟩, none]) ∧ (∀ a' i' od' om' oc', rowOK od' om' oc' = true → zc od' om' = o.z ++ gsGo ((zc d k2).drop i.toNat) ((bz t).drop aa.toNat) → Z (.exit 0) [.string t, .string r4, .slice (some ⟨200, 0, some 1⟩) om' oc', .int .i64 a', .slice (some ⟨1, 0, some 1⟩) k2 cap2, .int .i64 L, .int .i64 i'] [some ⟨d, 102, false⟩, some ⟨od', 5, true⟩])
theorem r67_0n (t : ByteArray) (r4 : ByteArray) (aa : Int) (k2 : Nat) (cap2 : Nat) (L : Int) (i : Int) (d : List Value) (jk : Tmps) (R : Exit → List Value → List (Option Blk) → Prop) : (codeQ Tryz.prog G37 noL Tryz.f67.ntmps (loopOf Tryz.f67 0) (tl S67_0.live (V67_0 (t, r4, .nil, aa, k2, cap2, L, i, d)) jk) (ml S67_0.mid (B67_0 (t, r4, .nil, aa, k2, cap2, L, i, d))) S67_0.n fun e t' m' _ => S67_0.out R e t' m') = ( bif decide (i < L) then bif decide (0 ≤ i ∧ i < (↑k2 : Int)) then bif isIntAt IntKind.i64 d (0 + Int.toNat i * 1) then bif intAt d (0 + Int.toNat i * 1) == 2 then bif goodL [] d && true && true then R Exit.normal [.string t, .string r4, .slice none 0 0, .int .i64 aa, .slice (some (.mk 1 0 (some 1))) k2 cap2, .int .i64 L, .int .i64 (IntKind.wrap .i64 (i + 1))] [some (.mk (rlbL [] d) 102 false), none] else False else bif decide (0 ≤ aa ∧ aa < (↑(ByteArray.size t) : Int)) then bif intAt d (0 + Int.toNat i * 1) != 0 || true then bif intAt d (0 + Int.toNat i * 1) != 0 && intAt d (0 + Int.toNat i * 1) != 1 then bif goodL [] d && true && true then R Exit.normal [.string t, .string r4, .slice none 0 0, .int .i64 (IntKind.wrap .i64 (aa + 1)), .slice (some (.mk 1 0 (some 1))) k2 cap2, .int .i64 L, .int .i64 (IntKind.wrap .i64 (i + 1))] [some (.mk (rlbL [] d) 102 false), none] else False else bif decide (byteAt t (Int.toNat aa) ≥ 48) || true then bif decide (byteAt t (Int.toNat aa) ≥ 48) && decide (byteAt t (Int.toNat aa) ≤ 57) then ∀ (cap : Nat) (tail : List Value), tailOK tail cap 1 1 = true → bif goodL [(248, 200)] d && (goodL [(248, 200)] (.int .u8 (byteAt t (Int.toNat aa)) :: tail) && true) && true then R Exit.normal [.string t, .string r4, .slice (some (.mk 200 0 (some 1))) 1 cap, .int .i64 (IntKind.wrap .i64 (aa + 1)), .slice (some (.mk 1 0 (some 1))) k2 cap2, .int .i64 L, .int .i64 (IntKind.wrap .i64 (i + 1))] [some (.mk (rlbL [(248, 200)] d) 102 false), some (.mk (rlbL [(248, 200)] (.int .u8 (byteAt t (Int.toNat aa)) :: tail)) 5 true)] else False else bif unK (byteAt t (Int.toNat aa)) then ∀ (cap : Nat) (tail : List Value), tailOK tail cap 1 1 = true → bif goodL [(252, 200)] d && (goodL [(252, 200)] (.int .u8 (IntKind.wrap .u8 (48 + IntKind.wrap .u8 (unD (byteAt t (Int.toNat aa))))) :: tail) && true) && true then R Exit.normal [.string t, .string r4, .slice (some (.mk 200 0 (some 1))) 1 cap, .int .i64 (IntKind.wrap .i64 (aa + 1)), .slice (some (.mk 1 0 (some 1))) k2 cap2, .int .i64 L, .int .i64 (IntKind.wrap .i64 (i + 1))] [some (.mk (rlbL [(252, 200)] d) 102 false), some (.mk (rlbL [(252, 200)] (.int .u8 (IntKind.wrap .u8 (48 + IntKind.wrap .u8 (unD (byteAt t (Int.toNat aa))))) :: tail)) 5 true)] else False else ∀ (cap : Nat) (tail : List Value), tailOK tail cap 1 1 = true → bif goodL [(249, 200)] d && (goodL [(249, 200)] (.int .u8 48 :: tail) && true) && true then R Exit.normal [.string t, .string r4, .slice (some (.mk 200 0 (some 1))) 1 cap, .int .i64 (IntKind.wrap .i64 (aa + 1)), .slice (some (.mk 1 0 (some 1))) k2 cap2, .int .i64 L, .int .i64 (IntKind.wrap .i64 (i + 1))] [some (.mk (rlbL [(249, 200)] d) 102 false), some (.mk (rlbL [(249, 200)] (.int .u8 48 :: tail)) 5 true)] else False else False else False else False else False else False else bif goodL [] d && true && true then R (Exit.exit 0) [.string t, .string r4, .slice none 0 0, .int .i64 aa, .slice (some (.mk 1 0 (some 1))) k2 cap2, .int .i64 L, .int .i64 i] [some (.mk (rlbL [] d) 102 false), none] else False) := by kernel_rfl
theorem r67_0o (t : ByteArray) (r4 : ByteArray) (od : List Value) (om : Nat) (oc : Nat) (aa : Int) (k2 : Nat) (cap2 : Nat) (L : Int) (i : Int) (d : List Value) (jk : Tmps) (R : Exit → List Value → List (Option Blk) → Prop) : (codeQ Tryz.prog G37 noL Tryz.f67.ntmps (loopOf Tryz.f67 0) (tl S67_0.live (V67_0 (t, r4, (.own od om oc), aa, k2, cap2, L, i, d)) jk) (ml S67_0.mid (B67_0 (t, r4, (.own od om oc), aa, k2, cap2, L, i, d))) S67_0.n fun e t' m' _ => S67_0.out R e t' m') = ( bif decide (i < L) then bif decide (0 ≤ i ∧ i < (↑k2 : Int)) then bif isIntAt IntKind.i64 d (0 + Int.toNat i * 1) then bif intAt d (0 + Int.toNat i * 1) == 2 then bif goodL [(200, 200)] d && (goodL [(200, 200)] od && true) && true then R Exit.normal [.string t, .string r4, .slice (some (.mk 200 0 (some 1))) om oc, .int .i64 aa, .slice (some (.mk 1 0 (some 1))) k2 cap2, .int .i64 L, .int .i64 (IntKind.wrap .i64 (i + 1))] [some (.mk (rlbL [(200, 200)] d) 102 false), some (.mk (rlbL [(200, 200)] od) 5 true)] else False else bif decide (0 ≤ aa ∧ aa < (↑(ByteArray.size t) : Int)) then bif intAt d (0 + Int.toNat i * 1) != 0 || true then bif intAt d (0 + Int.toNat i * 1) != 0 && intAt d (0 + Int.toNat i * 1) != 1 then bif goodL [(200, 200)] d && (goodL [(200, 200)] od && true) && true then R Exit.normal [.string t, .string r4, .slice (some (.mk 200 0 (some 1))) om oc, .int .i64 (IntKind.wrap .i64 (aa + 1)), .slice (some (.mk 1 0 (some 1))) k2 cap2, .int .i64 L, .int .i64 (IntKind.wrap .i64 (i + 1))] [some (.mk (rlbL [(200, 200)] d) 102 false), some (.mk (rlbL [(200, 200)] od) 5 true)] else False else bif decide (byteAt t (Int.toNat aa) ≥ 48) || true then bif decide (byteAt t (Int.toNat aa) ≥ 48) && decide (byteAt t (Int.toNat aa) ≤ 57) then bif Nat.beq (List.length od) (oc * 1) && Nat.ble om oc && Nat.ble oc 9223372036854775807 && true && fitsA (om + 1) 1 then ∀ (cap : Nat) (tail : List Value), tailOK tail cap (om + 1) 1 = true → bif goodL [(248, 200)] d && (goodL [(248, 200)] (List.take (om * 1) od ++ [.int .u8 (byteAt t (Int.toNat aa))] ++ tail) && true) && true then R Exit.normal [.string t, .string r4, .slice (some (.mk 200 0 (some 1))) (om + 1) cap, .int .i64 (IntKind.wrap .i64 (aa + 1)), .slice (some (.mk 1 0 (some 1))) k2 cap2, .int .i64 L, .int .i64 (IntKind.wrap .i64 (i + 1))] [some (.mk (rlbL [(248, 200)] d) 102 false), some (.mk (rlbL [(248, 200)] (List.take (om * 1) od ++ [.int .u8 (byteAt t (Int.toNat aa))] ++ tail)) 5 true)] else False else False else bif unK (byteAt t (Int.toNat aa)) then bif Nat.beq (List.length od) (oc * 1) && Nat.ble om oc && Nat.ble oc 9223372036854775807 && true && fitsA (om + 1) 1 then ∀ (cap : Nat) (tail : List Value), tailOK tail cap (om + 1) 1 = true → bif goodL [(252, 200)] d && (goodL [(252, 200)] (List.take (om * 1) od ++ [.int .u8 (IntKind.wrap .u8 (48 + IntKind.wrap .u8 (unD (byteAt t (Int.toNat aa)))))] ++ tail) && true) && true then R Exit.normal [.string t, .string r4, .slice (some (.mk 200 0 (some 1))) (om + 1) cap, .int .i64 (IntKind.wrap .i64 (aa + 1)), .slice (some (.mk 1 0 (some 1))) k2 cap2, .int .i64 L, .int .i64 (IntKind.wrap .i64 (i + 1))] [some (.mk (rlbL [(252, 200)] d) 102 false), some (.mk (rlbL [(252, 200)] (List.take (om * 1) od ++ [.int .u8 (IntKind.wrap .u8 (48 + IntKind.wrap .u8 (unD (byteAt t (Int.toNat aa)))))] ++ tail)) 5 true)] else False else False else bif Nat.beq (List.length od) (oc * 1) && Nat.ble om oc && Nat.ble oc 9223372036854775807 && true && fitsA (om + 1) 1 then ∀ (cap : Nat) (tail : List Value), tailOK tail cap (om + 1) 1 = true → bif goodL [(249, 200)] d && (goodL [(249, 200)] (List.take (om * 1) od ++ [.int .u8 48] ++ tail) && true) && true then R Exit.normal [.string t, .string r4, .slice (some (.mk 200 0 (some 1))) (om + 1) cap, .int .i64 (IntKind.wrap .i64 (aa + 1)), .slice (some (.mk 1 0 (some 1))) k2 cap2, .int .i64 L, .int .i64 (IntKind.wrap .i64 (i + 1))] [some (.mk (rlbL [(249, 200)] d) 102 false), some (.mk (rlbL [(249, 200)] (List.take (om * 1) od ++ [.int .u8 48] ++ tail)) 5 true)] else False else False else False else False else False else False else False else bif goodL [(200, 200)] d && (goodL [(200, 200)] od && true) && true then R (Exit.exit 0) [.string t, .string r4, .slice (some (.mk 200 0 (some 1))) om oc, .int .i64 aa, .slice (some (.mk 1 0 (some 1))) k2 cap2, .int .i64 L, .int .i64 i] [some (.mk (rlbL [(200, 200)] d) 102 false), some (.mk (rlbL [(200, 200)] od) 5 true)] else False) := by kernel_rfl
theorem l67_0 : LOKf Tryz.prog (oneL 0 S67_0.hA) Tryz.f67 := by
 refine lokf_one (h := S67_0.hA) (by kernel_rfl) (loop_specA ok_G37 hmix (by kernel_rfl) (lok_none _) S67_0 V67_0 B67_0 (fun (t, r4, o, aa, k2, cap2, L, i, d) => (k2 - i).toNat) ?_ ?_ ?_)
 ·intro vs bs s h
  simp only [S67_0] at h
  split at h
  all_goals first | (cases h; exact ⟨rfl, rfl⟩) | cases h | (split at h <;> first | (rename_i hq; cases h; have hq := Nat.eq_of_beq_eq_true hq; subst hq; exact ⟨rfl, rfl⟩) | cases h)
 ·exact fun ⟨t, r4, o, aa, k2, cap2, L, i, d⟩ hp => by
   simp only [S67_0, Bool.and_eq_true] at hp
   have hr := rowIOK_iff.1 hp.2.1
   cases o with
   | nil => simp [V67_0, B67_0, S67_0, idsLt, idsLtB, idsL, ids, Rw.v, Rw.b, ids_plainL hr.plain]
   | own od om oc => simp [V67_0, B67_0, S67_0, idsLt, idsLtB, idsL, ids, Rw.v, Rw.b, ids_plainL hr.plain, ids_plainL (rowOK_iff.1 hp.1).plain]
 ·intro ⟨t, r4, o, aa, k2, cap2, L, i, d⟩ jk Z hp hf
  simp only [S67_0] at hp hf
  cases o with
  | nil =>
   rw [r67_0n]
   simp only [Bool.and_eq_true, decide_eq_true_eq] at hp
   obtain ⟨-, hR, hp⟩ := hp
   have hr := rowIOK_iff.1 hR
   simp only [Rw.z, List.length_nil] at hp hf
   have e0 : 0 + i.toNat * 1 = i.toNat := by omega
   rw [e0]
   refine cond_intro (fun h => ?_) (fun h => ?_)
   ·have h := of_decide_eq_true h
    obtain ⟨a1, a3⟩ := hr.at hp.1 (by omega)
    rw [a3, gsGo] at hf
    rw [a3, cN] at hp
    have hc := cN_nn ((zc d k2).drop (i + 1).toNat)
    rw [a1, w64 (n := i + 1) (by omega), w64 (n := aa + 1) (by omega)]
    generalize intAt d i.toNat = r at *
    refine c_t (decide_eq_true (by omega)) (c_t rfl (cond_intro (fun q => ?_) (fun q => ?_)))
    ·rw [q, cond_true] at hf hp
     refine c_t (by rw [hr.good]; rfl) ?_
     rw [hr.rlb]
     exact ⟨(t, r4, .nil, aa, k2, cap2, L, i + 1, d), rfl, rfl, by simp only [S67_0, Bool.and_eq_true, decide_eq_true_eq]; exact ⟨rfl, hR, by simp only [Rw.z, List.length_nil]; omega⟩, by simp only; omega, hf⟩
    ·rw [q, cond_false] at hf hp
     obtain ⟨p1, p2, p3, p4, p5, p6, p7, p8⟩ := hp
     rw [bz_at p5 (by omega), List.headD_cons, List.tail_cons] at hf
     have hB := byte_rng t aa.toNat
     generalize byteAt t aa.toNat = c at *
     have hu : 0 ≤ unD c ∧ unD c ≤ 9 := by unfold unD; split <;> omega
     rw [w8 (n := unD c) (by omega), w8 (n := 48 + unD c) (by omega)]
     refine c_t (decide_eq_true (by omega)) (c_t (by simp) (cond_intro (fun q2 => ?_) (fun q2 => c_t (by simp) (cond_intro (fun q3 => ?_) (fun q3 => cond_intro (fun q4 => ?_) (fun q4 => ?_))))))
     ·rw [q2, cond_true] at hf
      refine c_t (by rw [hr.good]; rfl) ?_
      rw [hr.rlb]
      exact ⟨(t, r4, .nil, aa + 1, k2, cap2, L, i + 1, d), rfl, rfl, by simp only [S67_0, Bool.and_eq_true, decide_eq_true_eq]; exact ⟨rfl, hR, by simp only [Rw.z, List.length_nil]; omega⟩, by simp only; omega, hf⟩
     ·rw [q2, cond_false] at hf
      intro cap1 tail ht
      obtain ⟨h1, h2⟩ : RowP (Value.int IntKind.u8 (c) :: tail) 1 cap1 ∧ zc (Value.int IntKind.u8 (c) :: tail) 1 = [c] := row_new [c] ht
      have hl1 := zc_length h1
      generalize Value.int IntKind.u8 (c) :: tail = od' at *
      have e : 48 + rdD c = c := by
       have q := q3
       simp only [Bool.and_eq_true, decide_eq_true_eq] at q
       unfold rdD
       rw [unK_dig q.1 q.2, q3]
       simp only [cond_true, cond_false]
       omega
      rw [e] at hf
      refine c_t (by rw [hr.good, h1.good]; rfl) ?_
      rw [hr.rlb, h1.rlb]
      exact ⟨(t, r4, .own od' (1) cap1, aa + 1, k2, cap2, L, i + 1, d), rfl, rfl, by simp only [S67_0, Bool.and_eq_true, decide_eq_true_eq]; exact ⟨rowOK_iff.2 h1, hR, by simp only [Rw.z, hl1]; omega⟩, by simp only; omega, ⟨fun q => (by cases q), fun a' i' od'' om'' oc'' g1 g2 => hf.2 a' i' od'' om'' oc'' g1 (by rw [g2]; simp only [Rw.z, h2, List.append_assoc, List.cons_append, List.nil_append])⟩⟩
     ·rw [q2, cond_false] at hf
      intro cap1 tail ht
      obtain ⟨h1, h2⟩ : RowP (Value.int IntKind.u8 (48 + unD c) :: tail) 1 cap1 ∧ zc (Value.int IntKind.u8 (48 + unD c) :: tail) 1 = [48 + unD c] := row_new [48 + unD c] ht
      have hl1 := zc_length h1
      generalize Value.int IntKind.u8 (48 + unD c) :: tail = od' at *
      have e : 48 + rdD c = 48 + unD c := by
       unfold rdD
       rw [q4]
       rfl
      rw [e] at hf
      refine c_t (by rw [hr.good, h1.good]; rfl) ?_
      rw [hr.rlb, h1.rlb]
      exact ⟨(t, r4, .own od' (1) cap1, aa + 1, k2, cap2, L, i + 1, d), rfl, rfl, by simp only [S67_0, Bool.and_eq_true, decide_eq_true_eq]; exact ⟨rowOK_iff.2 h1, hR, by simp only [Rw.z, hl1]; omega⟩, by simp only; omega, ⟨fun q => (by cases q), fun a' i' od'' om'' oc'' g1 g2 => hf.2 a' i' od'' om'' oc'' g1 (by rw [g2]; simp only [Rw.z, h2, List.append_assoc, List.cons_append, List.nil_append])⟩⟩
     ·rw [q2, cond_false] at hf
      intro cap1 tail ht
      obtain ⟨h1, h2⟩ : RowP (Value.int IntKind.u8 (48) :: tail) 1 cap1 ∧ zc (Value.int IntKind.u8 (48) :: tail) 1 = [48] := row_new [48] ht
      have hl1 := zc_length h1
      generalize Value.int IntKind.u8 (48) :: tail = od' at *
      have e : 48 + rdD c = 48 := by
       unfold rdD
       rw [q4, q3]
       rfl
      rw [e] at hf
      refine c_t (by rw [hr.good, h1.good]; rfl) ?_
      rw [hr.rlb, h1.rlb]
      exact ⟨(t, r4, .own od' (1) cap1, aa + 1, k2, cap2, L, i + 1, d), rfl, rfl, by simp only [S67_0, Bool.and_eq_true, decide_eq_true_eq]; exact ⟨rowOK_iff.2 h1, hR, by simp only [Rw.z, hl1]; omega⟩, by simp only; omega, ⟨fun q => (by cases q), fun a' i' od'' om'' oc'' g1 g2 => hf.2 a' i' od'' om'' oc'' g1 (by rw [g2]; simp only [Rw.z, h2, List.append_assoc, List.cons_append, List.nil_append])⟩⟩
   ·have h := of_decide_eq_false h
    rw [hr.end (by omega), gsGo] at hf
    refine c_t (by rw [hr.good]; rfl) ?_
    rw [hr.rlb]
    exact hf.1 rfl rfl aa i
  | own od om oc =>
   rw [r67_0o]
   simp only [Bool.and_eq_true, decide_eq_true_eq] at hp
   obtain ⟨ho, hR, hp⟩ := hp
   have hr := rowIOK_iff.1 hR
   have ho := rowOK_iff.1 ho
   have hzl := zc_length ho
   simp only [Rw.z, hzl] at hp hf
   have e0 : 0 + i.toNat * 1 = i.toNat := by omega
   rw [e0]
   refine cond_intro (fun h => ?_) (fun h => ?_)
   ·have h := of_decide_eq_true h
    obtain ⟨a1, a3⟩ := hr.at hp.1 (by omega)
    rw [a3, gsGo] at hf
    rw [a3, cN] at hp
    have hc := cN_nn ((zc d k2).drop (i + 1).toNat)
    rw [a1, w64 (n := i + 1) (by omega), w64 (n := aa + 1) (by omega)]
    generalize intAt d i.toNat = r at *
    refine c_t (decide_eq_true (by omega)) (c_t rfl (cond_intro (fun q => ?_) (fun q => ?_)))
    ·rw [q, cond_true] at hf hp
     refine c_t (by rw [hr.good, ho.good]; rfl) ?_
     rw [hr.rlb, ho.rlb]
     exact ⟨(t, r4, .own od om oc, aa, k2, cap2, L, i + 1, d), rfl, rfl, by simp only [S67_0, Bool.and_eq_true, decide_eq_true_eq]; exact ⟨rowOK_iff.2 ho, hR, by simp only [Rw.z, hzl]; omega⟩, by simp only; omega, hf⟩
    ·rw [q, cond_false] at hf hp
     obtain ⟨p1, p2, p3, p4, p5, p6, p7, p8⟩ := hp
     rw [bz_at p5 (by omega), List.headD_cons, List.tail_cons] at hf
     have hB := byte_rng t aa.toNat
     generalize byteAt t aa.toNat = c at *
     have hu : 0 ≤ unD c ∧ unD c ≤ 9 := by unfold unD; split <;> omega
     rw [w8 (n := unD c) (by omega), w8 (n := 48 + unD c) (by omega)]
     refine c_t (decide_eq_true (by omega)) (c_t (by simp) (cond_intro (fun q2 => ?_) (fun q2 => c_t (by simp) (cond_intro (fun q3 => ?_) (fun q3 => cond_intro (fun q4 => ?_) (fun q4 => ?_))))))
     ·rw [q2, cond_true] at hf
      refine c_t (by rw [hr.good, ho.good]; rfl) ?_
      rw [hr.rlb, ho.rlb]
      exact ⟨(t, r4, .own od om oc, aa + 1, k2, cap2, L, i + 1, d), rfl, rfl, by simp only [S67_0, Bool.and_eq_true, decide_eq_true_eq]; exact ⟨rowOK_iff.2 ho, hR, by simp only [Rw.z, hzl]; omega⟩, by simp only; omega, hf⟩
     ·rw [q2, cond_false] at hf
      refine c_t (ho.ask (k := 1) (by omega)) (fun cap1 tail ht => ?_)
      obtain ⟨h1, h2⟩ := ho.app1 (c) ht
      have hl1 := zc_length h1
      generalize List.take (om * 1) od ++ [Value.int IntKind.u8 (c)] ++ tail = od' at *
      have e : 48 + rdD c = c := by
       have q := q3
       simp only [Bool.and_eq_true, decide_eq_true_eq] at q
       unfold rdD
       rw [unK_dig q.1 q.2, q3]
       simp only [cond_true, cond_false]
       omega
      rw [e] at hf
      refine c_t (by rw [hr.good, h1.good]; rfl) ?_
      rw [hr.rlb, h1.rlb]
      exact ⟨(t, r4, .own od' (om + 1) cap1, aa + 1, k2, cap2, L, i + 1, d), rfl, rfl, by simp only [S67_0, Bool.and_eq_true, decide_eq_true_eq]; exact ⟨rowOK_iff.2 h1, hR, by simp only [Rw.z, hl1]; omega⟩, by simp only; omega, ⟨fun q => (by cases q), fun a' i' od'' om'' oc'' g1 g2 => hf.2 a' i' od'' om'' oc'' g1 (by rw [g2]; simp only [Rw.z, h2, List.append_assoc, List.cons_append, List.nil_append])⟩⟩
     ·rw [q2, cond_false] at hf
      refine c_t (ho.ask (k := 1) (by omega)) (fun cap1 tail ht => ?_)
      obtain ⟨h1, h2⟩ := ho.app1 (48 + unD c) ht
      have hl1 := zc_length h1
      generalize List.take (om * 1) od ++ [Value.int IntKind.u8 (48 + unD c)] ++ tail = od' at *
      have e : 48 + rdD c = 48 + unD c := by
       unfold rdD
       rw [q4]
       rfl
      rw [e] at hf
      refine c_t (by rw [hr.good, h1.good]; rfl) ?_
      rw [hr.rlb, h1.rlb]
      exact ⟨(t, r4, .own od' (om + 1) cap1, aa + 1, k2, cap2, L, i + 1, d), rfl, rfl, by simp only [S67_0, Bool.and_eq_true, decide_eq_true_eq]; exact ⟨rowOK_iff.2 h1, hR, by simp only [Rw.z, hl1]; omega⟩, by simp only; omega, ⟨fun q => (by cases q), fun a' i' od'' om'' oc'' g1 g2 => hf.2 a' i' od'' om'' oc'' g1 (by rw [g2]; simp only [Rw.z, h2, List.append_assoc, List.cons_append, List.nil_append])⟩⟩
     ·rw [q2, cond_false] at hf
      refine c_t (ho.ask (k := 1) (by omega)) (fun cap1 tail ht => ?_)
      obtain ⟨h1, h2⟩ := ho.app1 (48) ht
      have hl1 := zc_length h1
      generalize List.take (om * 1) od ++ [Value.int IntKind.u8 (48)] ++ tail = od' at *
      have e : 48 + rdD c = 48 := by
       unfold rdD
       rw [q4, q3]
       rfl
      rw [e] at hf
      refine c_t (by rw [hr.good, h1.good]; rfl) ?_
      rw [hr.rlb, h1.rlb]
      exact ⟨(t, r4, .own od' (om + 1) cap1, aa + 1, k2, cap2, L, i + 1, d), rfl, rfl, by simp only [S67_0, Bool.and_eq_true, decide_eq_true_eq]; exact ⟨rowOK_iff.2 h1, hR, by simp only [Rw.z, hl1]; omega⟩, by simp only; omega, ⟨fun q => (by cases q), fun a' i' od'' om'' oc'' g1 g2 => hf.2 a' i' od'' om'' oc'' g1 (by rw [g2]; simp only [Rw.z, h2, List.append_assoc, List.cons_append, List.nil_append])⟩⟩
   ·have h := of_decide_eq_false h
    rw [hr.end (by omega), gsGo] at hf
    refine c_t (by rw [hr.good, ho.good]; rfl) ?_
    rw [hr.rlb, ho.rlb]
    exact hf.2 aa i od om oc (rowOK_iff.2 ho) (by simp)
end Go.Px
end
noncomputable section
set_option maxHeartbeats 3200000
namespace Go.Px
open Go Go.Ab Go.Proofs Go.Shelf
theorem v67 (s : ByteArray) (nb : Bool) (w : Int) (dg : Int) (sc : Int) (sg : Bool) (k : Nat) (cap : Nat) (dr : Int) (f : Int) (cr : Bool) (fl : Int) (fm : Int) (t : ByteArray) (d : List Value) (R : Value → Prop) : (bodyQ Tryz.prog G37 (oneL 0 S67_0.hA) Tryz.f67 [.pointer (some ⟨0, 0, some 0⟩), .string t] (vwF2 (fmL s nb w dg sc sg 1 k cap dr f cr fl fm) d) 2 (fun v _ _ => R v)) = ( bif goodL [] d && true && true && (idsLt 210 (rlbL [] d) && true) then bif LSpec.pre (LSpecA.toLSpec S67_0) (t, ByteArray.mk #[], Rw.nil, 0, k, cap, natO k, 0, rlbL [] d) then (Rw.is Rw.nil = false → gsGo (List.drop (Int.toNat 0) (zc (rlbL [] d) k)) (List.drop (Int.toNat 0) (bz t)) = [] → ∀ (a' i' : Int), bif idsLt 210 (rlbL [] d) && true then ∀ (x : Tmps), R (.string ByteArray.empty) else False) ∧ ∀ (a' i' : Int) (od' : List Value) (om' oc' : Nat), rowOK od' om' oc' = true → zc od' om' = Rw.z Rw.nil ++ gsGo (List.drop (Int.toNat 0) (zc (rlbL [] d) k)) (List.drop (Int.toNat 0) (bz t)) → bif idsLt 210 (rlbL [] d) && (idsLt 210 od' && true) then ∀ (x : Tmps), bif bytesOK od' 0 om' then R (.string (bytesOf od' 0 om')) else False else False else False else False) := by kernel_rfl
theorem fn67 : Fn1 Tryz.prog 67 Tryz.f67 := ⟨Tryz.func67, by kernel_rfl, by kernel_rfl, by kernel_rfl⟩
theorem w_67 (s : ByteArray) (nb : Bool) (w : Int) (dg : Int) (sc : Int) (sg : Bool) (k : Nat) (cap : Nat) (dr : Int) (f : Int) (cr : Bool) (fl : Int) (fm : Int) (t : ByteArray) (d : List Value) (hR : rowIOK d k cap = true) (hk : k ≤ 1000) (hc : cN (zc d k) ≤ t.size)
  {R : Value → Prop} (hV : R (.string (sz (gsGo (zc d k) (bz t))))) :
  DoesM Tryz.prog G37 (oneL 0 S67_0.hA) Tryz.f67 [.pointer (some ⟨0, 0, some 0⟩), .string t] (vwF2 (fmL s nb w dg sc sg 1 k cap dr f cr fl fm) d) 2 (fun v _ _ => R v) := by
 rw [DoesM, v67]
 have h := rowIOK_iff.1 hR
 have z0 : Int.toNat 0 = 0 := rfl
 have hg : (goodL [] d && true && true && (idsLt 210 d && true)) = true := by rw [h.good]; simp [idsLt, idsL, ids_plainL h.plain]
 have hg' : (goodL [] d && true && (idsLt 210 d && true)) = true := by rw [h.good]; simp [idsLt, idsL, ids_plainL h.plain]
 have hi : (idsLt 210 d && true) = true := by simp [idsLt, idsL, ids_plainL h.plain]
 simp only [h.rlb, z0, List.drop_zero]
 refine c_t (by first | exact hg | exact hg') (c_t ?_ ⟨fun _ hn a' i' => c_t hi fun _ => ?_, fun a' i' od om oc g1 g2 => ?_⟩)
 ·show (Rw.nil.ok && (rowIOK d k cap && decide ((0 : Int) ≤ 0 ∧ (0 : Int) ≤ k ∧ k ≤ 1000 ∧ natO k = k ∧ (0 : Int) ≤ 0 ∧ (0 : Int) ≤ 0 ∧ 0 + cN ((zc d k).drop (Int.toNat 0)) ≤ t.size ∧ ((Rw.nil.z.length : Nat) : Int) ≤ 0))) = true
  rw [hR, natO_eq, z0, List.drop_zero]
  simp only [Bool.true_and, Rw.ok, Rw.z, List.length_nil, decide_eq_true_eq]
  exact ⟨by omega, by omega, by omega, trivial, by omega, by omega, by omega, by omega⟩
 ·rw [hn] at hV
  exact hV
 ·have ho := rowOK_iff.1 g1
  have hio : (idsLt 210 d && (idsLt 210 od && true)) = true := by simp [idsLt, idsL, ids_plainL h.plain, ids_plainL ho.plain]
  have s3 := ho.str
  have g3 : zc od om = gsGo (zc d k) (bz t) := by rw [g2]; rfl
  rw [g3] at s3
  exact c_t hio fun _ => c_t s3.1 (by rw [s3.2]; exact hV)
def h67 : List Value → Lk → Nat → (Value → Lk → Nat → Prop) → Prop := fun args m n K => match args with
 | [.pointer (some ⟨a, 0, some 0⟩), .string t] => match m a with
  | some ⟨[.string s, .bool nb, .int .i64 w, .int .i64 dg, .int .i64 sc, .bool sg, .slice (some ⟨y, 0, some 1⟩) k cap, .int .u8 dr, .int .i64 f, .bool cr, .int .u8 fl, .int .i64 fm], 84, own⟩ => match m y with
   | some ⟨d, 102, own2⟩ => match cnd (rowIOK d k cap && decide (k ≤ 1000 ∧ cN (zc d k) ≤ t.size)) with
    | true => ∀ e : ByteArray, sz (gsGo (zc d k) (bz t)) = e → K (.string e) m n
    | false => False
   | _ => False
  | _ => False
 | _ => False
theorem h67_ok : GenOK Tryz.prog 67 h67 := by
 refine gen_sub ok_G37 hmix fn67 l67_0 fun args m n K h => ?_
 unfold h67 at h
 split at h
 case h_2 => exact h.elim
 rename_i a t
 split at h
 case h_2 => exact h.elim
 rename_i s nb w dg sc sg y k cap dr f cr fl fm own hm
 split at h
 case h_2 => exact h.elim
 rename_i d own2 hy
 split at h
 case h_2 => exact h.elim
 rename_i hc
 simp only [cnd, Bool.and_eq_true, decide_eq_true_eq] at hc
 obtain ⟨h1, h2, h3⟩ := hc
 refine ⟨[.pointer (some ⟨0, 0, some 0⟩), .string t], _, 2, rho2 a y, .string (sz (gsGo (zc d k) (bz t))), sub_F2 (rowIOK_iff.1 h1).plain hm hy, fun ι => by simp [ren, ren1, rho2], Nat.le_of_ble_eq_true (by kernel_rfl), fun v hv j hj => ?_, rfl,
  w_67 s nb w dg sc sg k cap dr f cr fl fm t d h1 h2 h3 (R := fun v => v = .string (sz (gsGo (zc d k) (bz t)))) rfl, h _ rfl⟩
 simp at hv
 rcases hv with rfl | rfl
 ·have : j = 0 := by simpa [ids] using hj
  omega
 ·simp [ids] at hj
end Go.Px
end
noncomputable section
set_option maxHeartbeats 3200000
namespace Go.Px
open Go Go.Ab Go.Proofs Go.Shelf
def V71_0 : ByteArray × Bool × List Value × Nat × Nat × Int × Int → List Value := fun (s, r, d, m, cap, L, i) => [S s, B r, .slice (some ⟨300, 0, some 1⟩) m cap, I L, I i]
def B71_0 : ByteArray × Bool × List Value × Nat × Nat × Int × Int → List (Option Blk) := fun (s, r, d, m, cap, L, i) => [some ⟨d, 5, false⟩]
def S71_0 : LSpecA (ByteArray × Bool × List Value × Nat × Nat × Int × Int) where
 live := [0, 4, 15, 16, 17]
 mid := [300]
 n := 310
 ap := [(.tmp 15, 300)]
 dec vs bs := match vs, bs with | [.string s, .bool r, .slice (some ⟨300, 0, some 1⟩) m cap, .int .i64 L, .int .i64 i], [some ⟨d, 5, false⟩] => some (s, r, d, m, cap, L, i) | _, _ => none
 pre := fun (s, r, d, m, cap, L, i) => vwOK d m && ((bz s).all (hasZ [65, 88, 57]) && decide (0 ≤ i ∧ i ≤ m ∧ L = m ∧ s.size = m ∧ m ≤ 1000))
 fin := fun (s, r, d, m, cap, L, i) Z => (bif onGo ((bz s).drop i.toNat) ((zc d m).drop i.toNat) then ∀ i', Z (.exit 0) [S s, B r, .slice (some ⟨300, 0, some 1⟩) m cap, I L, I i'] [some ⟨d, 5, false⟩] else ∀ i', Z .ret [S s, B false, .slice (some ⟨300, 0, some 1⟩) m cap, I L, I i'] [some ⟨d, 5, false⟩])
theorem r71_0 (s : ByteArray) (r : Bool) (d : List Value) (m : Nat) (cap : Nat) (L : Int) (i : Int) (jk : Tmps) (R : Exit → List Value → List (Option Blk) → Prop) : (codeQ Tryz.prog G37 noL Tryz.f71.ntmps (loopOf Tryz.f71 0) (tl S71_0.live (V71_0 (s, r, d, m, cap, L, i)) jk) (ml S71_0.mid (B71_0 (s, r, d, m, cap, L, i))) S71_0.n fun e t' m' _ => S71_0.out R e t' m') = ( bif decide (i < L) then bif decide (0 ≤ i ∧ i < (↑m : Int)) then bif isIntAt IntKind.u8 d (0 + Int.toNat i * 1) then bif decide (intAt d (0 + Int.toNat i * 1) ≥ 48) || true then bif bif decide (intAt d (0 + Int.toNat i * 1) ≥ 65) then decide (intAt d (0 + Int.toNat i * 1) ≤ 90) || (decide (intAt d (0 + Int.toNat i * 1) ≥ 97) || true) else decide (intAt d (0 + Int.toNat i * 1) ≥ 97) || true then bif decide (0 ≤ i ∧ i < (↑(ByteArray.size s) : Int)) && bif byteAt s (Int.toNat i) == 65 then bif !bif decide (intAt d (0 + Int.toNat i * 1) ≥ 65) then decide (intAt d (0 + Int.toNat i * 1) ≤ 90) || decide (intAt d (0 + Int.toNat i * 1) ≥ 97) && decide (intAt d (0 + Int.toNat i * 1) ≤ 122) else decide (intAt d (0 + Int.toNat i * 1) ≥ 97) && decide (intAt d (0 + Int.toNat i * 1) ≤ 122) then intAt d (0 + Int.toNat i * 1) != 32 || decide (0 ≤ i ∧ i < (↑(ByteArray.size s) : Int)) && bif byteAt s (Int.toNat i) == 57 then !(decide (intAt d (0 + Int.toNat i * 1) ≥ 48) && decide (intAt d (0 + Int.toNat i * 1) ≤ 57)) || true else true else decide (0 ≤ i ∧ i < (↑(ByteArray.size s) : Int)) && bif byteAt s (Int.toNat i) == 57 then !(decide (intAt d (0 + Int.toNat i * 1) ≥ 48) && decide (intAt d (0 + Int.toNat i * 1) ≤ 57)) || true else true else decide (0 ≤ i ∧ i < (↑(ByteArray.size s) : Int)) && bif byteAt s (Int.toNat i) == 57 then !(decide (intAt d (0 + Int.toNat i * 1) ≥ 48) && decide (intAt d (0 + Int.toNat i * 1) ≤ 57)) || true else true then bif bif byteAt s (Int.toNat i) == 65 then bif !bif decide (intAt d (0 + Int.toNat i * 1) ≥ 65) then decide (intAt d (0 + Int.toNat i * 1) ≤ 90) || decide (intAt d (0 + Int.toNat i * 1) ≥ 97) && decide (intAt d (0 + Int.toNat i * 1) ≤ 122) else decide (intAt d (0 + Int.toNat i * 1) ≥ 97) && decide (intAt d (0 + Int.toNat i * 1) ≤ 122) then intAt d (0 + Int.toNat i * 1) != 32 || byteAt s (Int.toNat i) == 57 && (!(decide (intAt d (0 + Int.toNat i * 1) ≥ 48) && decide (intAt d (0 + Int.toNat i * 1) ≤ 57)) && intAt d (0 + Int.toNat i * 1) != 32) else byteAt s (Int.toNat i) == 57 && (!(decide (intAt d (0 + Int.toNat i * 1) ≥ 48) && decide (intAt d (0 + Int.toNat i * 1) ≤ 57)) && intAt d (0 + Int.toNat i * 1) != 32) else byteAt s (Int.toNat i) == 57 && (!(decide (intAt d (0 + Int.toNat i * 1) ≥ 48) && decide (intAt d (0 + Int.toNat i * 1) ≤ 57)) && intAt d (0 + Int.toNat i * 1) != 32) then bif goodL [(300, 300)] d && true && true then R Exit.ret [.string s, .bool false, .slice (some (.mk 300 0 (some 1))) m cap, .int .i64 L, .int .i64 i] [some (.mk (rlbL [(300, 300)] d) 5 false)] else False else bif goodL [(300, 300)] d && true && true then R Exit.normal [.string s, .bool r, .slice (some (.mk 300 0 (some 1))) m cap, .int .i64 L, .int .i64 (IntKind.wrap .i64 (i + 1))] [some (.mk (rlbL [(300, 300)] d) 5 false)] else False else False else False else False else False else False else bif goodL [(300, 300)] d && true && true then R (Exit.exit 0) [.string s, .bool r, .slice (some (.mk 300 0 (some 1))) m cap, .int .i64 L, .int .i64 i] [some (.mk (rlbL [(300, 300)] d) 5 false)] else False) := by kernel_rfl
theorem l71_0 : LOKf Tryz.prog (oneL 0 S71_0.hA) Tryz.f71 := by
 refine lokf_one (h := S71_0.hA) (by kernel_rfl) (loop_specA ok_G37 hmix (by kernel_rfl) (lok_none _) S71_0 V71_0 B71_0 (fun (s, r, d, m, cap, L, i) => (m - i).toNat) ?_ ?_ ?_)
 ·intro vs bs s h
  simp only [S71_0] at h
  split at h
  all_goals first | (cases h; exact ⟨rfl, rfl⟩) | cases h | (split at h <;> first | (rename_i hq; cases h; have hq := Nat.eq_of_beq_eq_true hq; subst hq; exact ⟨rfl, rfl⟩) | cases h)
 ·exact fun ⟨s, r, d, m, cap, L, i⟩ hp => by
   simp only [S71_0, Bool.and_eq_true] at hp
   have hv := vwOK_iff.1 hp.1
   simp [V71_0, B71_0, S71_0, idsLt, idsLtB, idsL, ids, ids_plainL hv.plain]
 ·intro ⟨s, r, d, m, cap, L, i⟩ jk Z hp hf
  rw [r71_0]
  simp only [S71_0] at hp hf
  simp only [Bool.and_eq_true, decide_eq_true_eq] at hp
  obtain ⟨hV, hA, hp⟩ := hp
  have hv := vwOK_iff.1 hV
  have e0 : 0 + i.toNat * 1 = i.toNat := by omega
  rw [e0]
  simp only [hv.rlb]
  have hg : ∀ ps, (goodL ps d && true && true) = true := fun ps => by rw [goodL_plain hv.plain]; rfl
  refine cond_intro (fun h => ?_) (fun h => ?_)
  ·have h := of_decide_eq_true h
   obtain ⟨a1, a2, a3⟩ := hv.at hp.1 (by omega)
   have hcb : byteAt s i.toNat = 65 ∨ byteAt s i.toNat = 88 ∨ byteAt s i.toNat = 57 := by
    have hm : byteAt s i.toNat ∈ bz s := List.drop_subset i.toNat (bz s) (by rw [bz_at hp.1 (by omega)]; exact List.mem_cons_self)
    have := List.all_eq_true.1 hA _ hm
    have := hasZ_iff.1 this
    simp only [List.mem_cons, List.not_mem_nil, or_false] at this
    omega
   rw [bz_at hp.1 (by omega), a3, onGo] at hf
   rw [a1, w64 (n := i + 1) (by omega), decide_eq_true (show 0 ≤ i ∧ i < (m : Int) by omega), decide_eq_true (show 0 ≤ i ∧ i < (s.size : Int) by omega)]
   generalize intAt d i.toNat = b at *
   generalize byteAt s i.toNat = c at *
   have el : (bif decide (b ≥ 65) then decide (b ≤ 90) || decide (b ≥ 97) && decide (b ≤ 122) else decide (b ≥ 97) && decide (b ≤ 122)) = letZ b := by
    unfold letZ
    rw [Bool.eq_iff_iff]
    by_cases h1 : b ≥ 65 <;> simp [h1] <;> omega
   have ed : (decide (b ≥ 48) && decide (b ≤ 57)) = isDig b := by
    rw [Bool.eq_iff_iff]
    simp [isDig]
   rw [el, ed]
   have key : (bif c == 65 then bif !letZ b then b != 32 || c == 57 && (!isDig b && b != 32) else c == 57 && (!isDig b && b != 32) else c == 57 && (!isDig b && b != 32)) = !oneZ c b := by
    unfold oneZ
    rcases hcb with rfl | rfl | rfl <;> by_cases h2 : b = 32 <;> simp [h2] <;> cases letZ b <;> cases isDig b <;> simp
   rw [key]
   refine c_t rfl (c_t rfl (c_t (by simp) (c_t (by cases decide (b ≥ 65) <;> simp) (c_t (by cases c == 65 <;> cases !letZ b <;> cases c == 57 <;> simp) (cond_intro (fun q => c_t (hg _) ?_) (fun q => c_t (hg _) ?_))))))
   ·have q : oneZ c b = false := by simpa using q
    rw [q, Bool.false_and, cond_false] at hf
    exact hf i
   ·have q : oneZ c b = true := by simpa using q
    rw [q, Bool.true_and] at hf
    exact ⟨(s, r, d, m, cap, L, i + 1), rfl, rfl, by simp only [S71_0, Bool.and_eq_true, decide_eq_true_eq]; exact ⟨hV, hA, by omega⟩, by simp only; omega, hf⟩
  ·have h := of_decide_eq_false h
   have hz : (bz s).drop i.toNat = [] := List.drop_eq_nil_of_le (by rw [bz_length]; omega)
   rw [hv.end (by omega), hz] at hf
   exact c_t (hg _) (hf i)
end Go.Px
end
noncomputable section
set_option maxHeartbeats 3200000
namespace Go.Px
open Go Go.Ab Go.Proofs Go.Shelf
def s71 (s : ByteArray) (t : ByteArray) : Bool × Value := ((bz s).all (hasZ [65, 88, 57]) && decide (s.size ≤ 1000 ∧ t.size ≤ 9223372036854775807), .bool (decide ((t.size : Int) = s.size) && onGo (bz s) (bz t)))
theorem fn71 : Fn1 Tryz.prog 71 Tryz.f71 := ⟨Tryz.func71, by kernel_rfl, by kernel_rfl, by kernel_rfl⟩
theorem v71 (s : ByteArray) (t : ByteArray) (R : Value → Prop) : bodyQ Tryz.prog G37 (oneL 0 S71_0.hA) Tryz.f71 [Enc.enc s, Enc.enc t] (fun _ => none) 0 (fun v _ _ => R v) = ( bif (↑(ByteArray.size t) : Int) != (↑(ByteArray.size s) : Int) then R (.bool false) else ∀ (cap : Nat), Nat.ble (ByteArray.size t) cap = true → bif goodL [(7, 300)] (Lib.strCells t) && true && true && (idsLt 310 (rlbL [(7, 300)] (Lib.strCells t)) && true) then bif LSpec.pre (LSpecA.toLSpec S71_0) (s, false, rlbL [(7, 300)] (Lib.strCells t), ByteArray.size t, cap, natO (ByteArray.size t), 0) then bif onGo (List.drop (Int.toNat 0) (bz s)) (List.drop (Int.toNat 0) (zc (rlbL [(7, 300)] (Lib.strCells t)) (ByteArray.size t))) then ∀ (i' : Int), bif idsLt 310 (rlbL [(7, 300)] (Lib.strCells t)) && true then ∀ (x : Tmps), R (.bool true) else False else ∀ (i' : Int), bif idsLt 310 (rlbL [(7, 300)] (Lib.strCells t)) && true then ∀ (x : Tmps), R (.bool false) else False else False else False) := by kernel_rfl
theorem ok71 : PureOK Tryz.prog 71 (sp2 s71) := by
 refine qure2 ok_G37 hmix fn71 l71_0 (Nat.le_of_ble_eq_true (by kernel_rfl)) fun s t hc => ?_
 rw [DoesQ, v71]
 try dsimp only [s71]
 obtain ⟨hA, hc⟩ := Bool.and_eq_true_iff.1 hc
 have hc := of_decide_eq_true hc
 obtain ⟨hv, hz⟩ := vw_str t
 have hV := vwOK_iff.2 hv
 refine cond_intro (fun h => ?_) (fun h => fun cap _ => ?_)
 ·have h : ¬ (t.size : Int) = s.size := by simpa using h
  rw [decide_eq_false h]
  rfl
 ·have h : (t.size : Int) = s.size := by simpa using h
  have hg : (goodL [(7, 300)] (Lib.strCells t) && true && true && (idsLt 310 (Lib.strCells t) && true)) = true := by rw [goodL_plain hv.plain]; simp [idsLt, idsL, ids_plainL hv.plain]
  have hi : (idsLt 310 (Lib.strCells t) && true) = true := by simp [idsLt, idsL, ids_plainL hv.plain]
  have z0 : Int.toNat 0 = 0 := rfl
  simp only [hv.rlb, z0, List.drop_zero, hz]
  refine c_t hg (c_t ?_ ?_)
  ·show (vwOK (Lib.strCells t) t.size && ((bz s).all (hasZ [65, 88, 57]) && decide ((0 : Int) ≤ 0 ∧ (0 : Int) ≤ t.size ∧ natO t.size = t.size ∧ s.size = t.size ∧ t.size ≤ 1000))) = true
   rw [hV, hA, natO_eq]
   simp only [Bool.true_and, decide_eq_true_eq]
   exact ⟨by omega, by omega, trivial, by omega, by omega⟩
  ·rw [decide_eq_true h, Bool.true_and]
   refine cond_intro (fun q _ => c_t hi fun _ => by rw [q]) (fun q _ => c_t hi fun _ => by rw [q])
end Go.Px
end
noncomputable section
namespace Go.Px
open Go Go.Ab Go.Proofs Go.Shelf
theorem dec_from : ∀ (l : List UInt8) (a : Nat), dgL (zl l) = true → Lib.decFrom a l = some (numZ (zl l) a).toNat ∧ 0 ≤ numZ (zl l) a
 | [], a, _ => ⟨rfl, Int.natCast_nonneg a⟩
 | b :: r, a, h => by
  have h : dgL ((b.toNat : Int) :: zl r) = true := h
  have h1 : 48 ≤ b.toNat ∧ b.toNat ≤ 57 := by
   simp only [dgL, List.all_cons, Bool.and_eq_true, decide_eq_true_eq] at h
   omega
  have h2 : dgL (zl r) = true := by
   simp only [dgL, List.all_cons, Bool.and_eq_true] at h
   exact h.2
  obtain ⟨e1, e2⟩ := dec_from r (a * 10 + (b.toNat - 48)) h2
  have e : ((a * 10 + (b.toNat - 48) : Nat) : Int) = (a : Int) * 10 + ((b.toNat : Int) - 48) := by omega
  rw [e] at e1 e2
  have hd : Lib.digitVal b = some (b.toNat - 48) := by rw [Lib.digitVal, if_pos h1]
  refine ⟨?_, e2⟩
  rw [Lib.decFrom, hd]
  exact e1
theorem atoi_dig {s : ByteArray} (h0 : 1 ≤ s.size) (h : dgL (bz s) = true) : Lib.atoi s.data.toList = some (dval (bz s)) := by
 have hb : bz s = zl s.data.toList := rfl
 have hl : s.data.toList.length = s.size := rfl
 rw [hb] at h ⊢
 generalize s.data.toList = l at *
 cases l with
 | nil => simp at hl; omega
 | cons b r =>
  have h1 : 48 ≤ b.toNat ∧ b.toNat ≤ 57 := by
   have h : dgL ((b.toNat : Int) :: zl r) = true := h
   simp only [dgL, List.all_cons, Bool.and_eq_true, decide_eq_true_eq] at h
   omega
  have n45 : (b == 45) = false := by
   cases q : b == 45 with
   | false => rfl
   | true => have := eq_of_beq q; rw [this] at h1; revert h1; decide
  have n43 : (b == 43) = false := by
   cases q : b == 43 with
   | false => rfl
   | true => have := eq_of_beq q; rw [this] at h1; revert h1; decide
  obtain ⟨e1, e2⟩ := dec_from (b :: r) 0 h
  rw [Lib.atoi, n45, n43]
  show (Lib.decNat (b :: r)).map (fun m : Nat => (m : Int)) = _
  have : Lib.decNat (b :: r) = Lib.decFrom 0 (b :: r) := rfl
  rw [this, e1, Option.map_some, dval]
  congr 1
  exact Int.toNat_of_nonneg e2
def s68 (s : ByteArray) : Bool × Value := (decide (1 ≤ s.size ∧ s.size ≤ 18) && dgL (bz s), .tuple ⟨[.int .i64 (dval (bz s)), .nilIface]⟩)
theorem ok68 : PureOK Tryz.prog 68 (sp1 s68) := shelf1 c68 fun s hc w _ => by
 simp only [s68, Bool.and_eq_true, decide_eq_true_eq] at hc
 refine (Any.strconv_Atoi (ρ := Tryz.lays172_ren) Tryz.lays172 s (dval (bz s)) hc.1.2 (atoi_dig hc.1.1 hc.2) w).mono fun e w' ⟨h1, t, h2⟩ => ⟨h1, ?_⟩
 subst h2
 exact Lib.bytesWorld_below _ _ _
end Go.Px
end
noncomputable section
namespace Go.Px
open Go Go.Ab Go.Proofs Go.Shelf
theorem gs_law : ∀ (ro cs : List Int) (a : Int), okR ro → ((gsGo ro cs).length : Int) = cdg ro ∧ dgL (gsGo ro cs) = true ∧ numZ (gsGo ro cs) a = rdGo (ro.map rmk) cs a
 | [], _, _, _ => ⟨rfl, rfl, rfl⟩
 | r :: rs, cs, a, hok => by
  have hok' : okR rs := fun x hx => hok x (List.mem_cons_of_mem _ hx)
  rw [gsGo, cdg, List.map_cons, rdGo]
  have hr := rd_rng (cs.headD 0)
  have dig : ∀ l, dgL l = true → dgL ((48 + rdD (cs.headD 0)) :: l) = true := fun l h => by
   simp only [dgL, List.all_cons, Bool.and_eq_true, decide_eq_true_eq] at h ⊢
   exact ⟨by omega, h⟩
  have e : a * 10 + (48 + rdD (cs.headD 0) - 48) = a * 10 + rdD (cs.headD 0) := by omega
  rcases rmk_cases (hok r List.mem_cons_self) with rfl | rfl | rfl | rfl | rfl | rfl
  ·obtain ⟨h1, h2, h3⟩ := gs_law rs cs.tail (a * 10 + rdD (cs.headD 0)) hok'
   refine ⟨?_, dig _ h2, ?_⟩
   ·show (((_ :: gsGo rs cs.tail).length : Nat) : Int) = 1 + cdg rs
    rw [List.length_cons]; omega
   ·show numZ (_ :: gsGo rs cs.tail) a = rdGo (rs.map rmk) cs.tail (a * 10 + rdD (cs.headD 0))
    rw [numZ, e]; exact h3
  ·obtain ⟨h1, h2, h3⟩ := gs_law rs cs.tail (a * 10 + rdD (cs.headD 0)) hok'
   refine ⟨?_, dig _ h2, ?_⟩
   ·show (((_ :: gsGo rs cs.tail).length : Nat) : Int) = 1 + cdg rs
    rw [List.length_cons]; omega
   ·show numZ (_ :: gsGo rs cs.tail) a = rdGo (rs.map rmk) cs.tail (a * 10 + rdD (cs.headD 0))
    rw [numZ, e]; exact h3
  ·obtain ⟨h1, h2, h3⟩ := gs_law rs cs a hok'
   exact ⟨by simpa using h1, h2, h3⟩
  ·obtain ⟨h1, h2, h3⟩ := gs_law rs cs.tail a hok'
   exact ⟨by simpa using h1, h2, h3⟩
  ·obtain ⟨h1, h2, h3⟩ := gs_law rs cs.tail a hok'
   exact ⟨by simpa using h1, h2, h3⟩
  ·obtain ⟨h1, h2, h3⟩ := gs_law rs cs.tail a hok'
   exact ⟨by simpa using h1, h2, h3⟩
end Go.Px
end
noncomputable section
set_option maxHeartbeats 3200000
namespace Go.Px
open Go Go.Ab Go.Proofs Go.Shelf
def G38 : Env := ((G37.addG 67 h67).add 68 (sp1 s68)).add 71 (sp2 s71)
theorem ok_G38 : EnvOK Tryz.prog G38 := env_add (env_add (env_addG ok_G37 h67_ok) ok68) ok71
theorem cN_nv : ∀ (rs : List Int), okR rs → cN rs = nv (rs.map rmk)
 | [], _ => rfl
 | r :: rs, hok => by
  have hok' : okR rs := fun x hx => hok x (List.mem_cons_of_mem _ hx)
  have ih := cN_nv rs hok'
  rw [cN, List.map_cons, nv_cons]
  rcases rmk_cases (hok r List.mem_cons_self) with rfl | rfl | rfl | rfl | rfl | rfl <;> simp [rmk] <;> omega
theorem gs_use {s t : ByteArray} (h : pN (bz s) = true) : digZ (rdA (bz s) (bz t)) (pD (bz s)).toNat = gsGo (rolF (pS (bz s))) (bz t) ∧ 0 ≤ rdA (bz s) (bz t) ∧ rdA (bz s) (bz t) < tenZ (pD (bz s)).toNat ∧ dval (gsGo (rolF (pS (bz s))) (bz t)) = rdA (bz s) (bz t) ∧ cN (rolF (pS (bz s))) = pW (bz s) := by
 have hl := pS_len s
 obtain ⟨f1, f2, f3, _⟩ := pic_facts hl h
 obtain ⟨g1, g2, g3⟩ := gs_law (rolF (pS (bz s))) (bz t) 0 f1
 have hp := pD_rng h
 have hv : dval (gsGo (rolF (pS (bz s))) (bz t)) = rdA (bz s) (bz t) := by rw [dval, g3, f2, rdA]
 have hlen : (gsGo (rolF (pS (bz s))) (bz t)).length = (pD (bz s)).toNat := by omega
 have hr := dval_rng _ g2
 rw [hv, hlen] at hr
 refine ⟨by rw [← hv]; exact digZ_val' _ _ hlen g2, hr.1, hr.2, hv, by rw [cN_nv _ f1, f2, pN_nv h]⟩
def s22 (s : ByteArray) (t : ByteArray) : Bool × Value := (decide (s.size ≤ 9223372036854775807 ∧ t.size ≤ 9223372036854775807), .tuple ⟨[.int .i64 (rdV (bz s) (bz t)).1, .int .i64 (rdV (bz s) (bz t)).2]⟩)
theorem fn22 : Fn1 Tryz.prog 22 Tryz.f22 := ⟨Tryz.func22, by kernel_rfl, by kernel_rfl, by kernel_rfl⟩
theorem v22 (s : ByteArray) (t : ByteArray) (R : Value → Prop) : bodyQ Tryz.prog G38 noL Tryz.f22 [Enc.enc s, Enc.enc t] (fun _ => none) 0 (fun v _ _ => R v) = ( bif decide (ByteArray.size s ≤ 9223372036854775807) then bif pN (bz s) then ∀ (k cap : Nat) (d : List Value), rowIOK d k cap = true → zc d k = rolF (pS (bz s)) → bif (↑(ByteArray.size t) : Int) != pW (bz s) then R (.tuple (.mk [.int .i64 0, .int .i64 31])) else bif rowIOK d k cap && decide (k ≤ 1000 ∧ cN (zc d k) ≤ (↑(ByteArray.size t) : Int)) then ∀ (e : ByteArray), sz (gsGo (zc d k) (bz t)) = e → bif decide (1 ≤ ByteArray.size e ∧ ByteArray.size e ≤ 18) && dgL (bz e) then bif rowIOK d k cap && (roOK (zc d k) && (dgL (bz e) && decide ((k ≤ 1000 ∧ ByteArray.size e ≤ 1000 ∧ k ≤ ByteArray.size (sz (pS (bz s))) ∧ ByteArray.size (sz (pS (bz s))) ≤ 1000 ∧ 0 ≤ pW (bz s) ∧ pW (bz s) ≤ 1000) ∧ cdg (zc d k) ≤ (↑(ByteArray.size e) : Int) ∧ (fdFl (pS (bz s)) = 32 ∨ fdFl (pS (bz s)) = 42)))) then ∀ (t_1 : ByteArray) (l : Int), sz (Prod.fst (wrV (bz (sz (pS (bz s)))) (pW (bz s)) (Prod.snd (Prod.snd (nD (bodyZ (pS (bz s)))))) (crZ (pS (bz s))) (drZ (bodyZ (pS (bz s)))) (fdFl (pS (bz s))) (↑(cntZ (mkGo (drZ (bodyZ (pS (bz s)))) false (bodyZ (pS (bz s)))) 100) : Int) (zc d k) (bz e) false)) = t_1 → Prod.snd (wrV (bz (sz (pS (bz s)))) (pW (bz s)) (Prod.snd (Prod.snd (nD (bodyZ (pS (bz s)))))) (crZ (pS (bz s))) (drZ (bodyZ (pS (bz s)))) (fdFl (pS (bz s))) (↑(cntZ (mkGo (drZ (bodyZ (pS (bz s)))) false (bodyZ (pS (bz s)))) 100) : Int) (zc d k) (bz e) false) = l → bif ByteArray.toList t_1 == ByteArray.toList t then R (.tuple (.mk [.int .i64 (dval (bz e)), .int .i64 0])) else bif rowIOK d k cap && (roOK (zc d k) && (dgL (bz e) && decide ((k ≤ 1000 ∧ ByteArray.size e ≤ 1000 ∧ k ≤ ByteArray.size (sz (pS (bz s))) ∧ ByteArray.size (sz (pS (bz s))) ≤ 1000 ∧ 0 ≤ pW (bz s) ∧ pW (bz s) ≤ 1000) ∧ cdg (zc d k) ≤ (↑(ByteArray.size e) : Int) ∧ (fdFl (pS (bz s)) = 32 ∨ fdFl (pS (bz s)) = 42)))) then ∀ (t_2 : ByteArray) (l : Int), sz (Prod.fst (wrV (bz (sz (pS (bz s)))) (pW (bz s)) (Prod.snd (Prod.snd (nD (bodyZ (pS (bz s)))))) (crZ (pS (bz s))) (drZ (bodyZ (pS (bz s)))) (fdFl (pS (bz s))) (↑(cntZ (mkGo (drZ (bodyZ (pS (bz s)))) false (bodyZ (pS (bz s)))) 100) : Int) (zc d k) (bz e) true)) = t_2 → Prod.snd (wrV (bz (sz (pS (bz s)))) (pW (bz s)) (Prod.snd (Prod.snd (nD (bodyZ (pS (bz s)))))) (crZ (pS (bz s))) (drZ (bodyZ (pS (bz s)))) (fdFl (pS (bz s))) (↑(cntZ (mkGo (drZ (bodyZ (pS (bz s)))) false (bodyZ (pS (bz s)))) 100) : Int) (zc d k) (bz e) true) = l → bif bif ByteArray.toList t_2 == ByteArray.toList t then pG (bz s) || true else true then bif ByteArray.toList t_2 == ByteArray.toList t && (pG (bz s) && decide (dval (bz e) > 0)) then R (.tuple (.mk [.int .i64 (IntKind.wrap .i64 (0 - dval (bz e))), .int .i64 0])) else R (.tuple (.mk [.int .i64 0, .int .i64 31])) else False else False else False else False else False else R (.tuple (.mk [.int .i64 0, .int .i64 30])) else False) := by kernel_rfl
theorem ok22 : PureOK Tryz.prog 22 (sp2 s22) := by
 refine qure2 ok_G38 hmix fn22 lokf_none (Nat.le_of_ble_eq_true (by kernel_rfl)) fun s t hc => ?_
 rw [DoesQ, v22]
 have hc : (s.size ≤ 9223372036854775807 ∧ t.size ≤ 9223372036854775807) := of_decide_eq_true hc
 try dsimp only [s22]
 refine c_t (decide_eq_true hc.1) (cond_intro (fun h => ?_) (fun h => ?_))
 ·intro k cap d hR hz
  obtain ⟨u1, u2, u3, u4, u5⟩ := gs_use (t := t) h
  have hl := pS_len s
  have hr := rowIOK_iff.1 hR
  have hk : k = (pS (bz s)).length := by rw [← rol_len h, ← hz, zi_length hr]
  have hp := pD_rng h
  have bl : ((bz t).length : Int) = t.size := by rw [bz_length]
  refine cond_intro (fun hw => ?_) (fun hw => ?_)
  ·have hw : ¬ (t.size : Int) = pW (bz s) := by simpa using hw
   rw [rdV, if_pos h, bl, if_neg hw]
  ·have hw : (t.size : Int) = pW (bz s) := by simpa using hw
   refine c_t (by rw [hR, hz, u5]; simp only [Bool.true_and, decide_eq_true_eq]; omega) fun e he => ?_
   rw [hz, ← u1] at he
   have hdd := digZ_dg (pD (bz s)).toNat (rdA (bz s) (bz t))
   have be : bz e = digZ (rdA (bz s) (bz t)) (pD (bz s)).toNat := by rw [← he, bz_sz (dg_isB hdd)]
   have ze : e.size = (pD (bz s)).toNat := by rw [← bz_length, be, digZ_len]
   have hv : dval (bz e) = rdA (bz s) (bz t) := by rw [be, u1, u4]
   rw [hv, rdV, if_pos h, bl, if_pos hw]
   generalize rdA (bz s) (bz t) = m at *
   have hm : ((m.natAbs : Nat) : Int) = m := by omega
   have hm' : (((0 - m).natAbs : Nat) : Int) = m := by omega
   obtain ⟨g1, g2⟩ := wr_use h hR hz (m := m) (by omega)
   obtain ⟨k1, k2⟩ := wr_use h hR hz (m := 0 - m) (by omega)
   rw [hm, he] at g1 g2
   rw [hm', he] at k2
   have d0 : decide (m < 0) = false := decide_eq_false (by omega)
   rw [d0] at g2
   have ht : tenZ (pD (bz s)).toNat ≤ 1000000000 := tenZ_le9 (by omega)
   have hF : ∀ (a : ByteArray) (n : Int), sz (fieldZ (pS (bz s)) (pW (bz s)) (pD (bz s)).toNat n) = a → (a.toList == t.toList) = decide (fdN (bz s) n = bz t) := fun a n e => by
    rw [toList_beq, ← e, bz_sz (field_isB hl.1 _ _ _)]
    rfl
   refine c_t (by rw [be, hdd, ze, Bool.and_true, decide_eq_true_eq]; omega) (c_t g1 fun a1 l1 q1 q2 => cond_intro (fun p => ?_) (fun p => c_t g1 fun a2 l2 q3 q4 => ?_))
   ·rw [hF _ _ (by rw [← q1, g2])] at p
    rw [if_pos (of_decide_eq_true p)]
   ·rw [hF _ _ (by rw [← q1, g2])] at p
    have p := of_decide_eq_false p
    rw [if_neg p]
    refine c_t (by cases ByteArray.toList a2 == ByteArray.toList t <;> simp) ?_
    by_cases m0 : m > 0
    ·have d1 : decide (0 - m < 0) = true := decide_eq_true (by omega)
     rw [d1] at k2
     rw [hF _ _ (by rw [← q3, k2]), w64 (n := 0 - m) (by omega)]
     by_cases r1 : fdN (bz s) (0 - m) = bz t
     ·cases hG : pG (bz s) with
      | true =>
       have : (decide (fdN (bz s) (0 - m) = bz t) && (true && decide (m > 0))) = true := by rw [decide_eq_true r1, decide_eq_true m0]; rfl
       rw [this, if_pos ⟨rfl, m0, r1⟩]
       rfl
      | false =>
       rw [Bool.false_and, Bool.and_false, if_neg (fun q => by cases q.1)]
       rfl
     ·rw [decide_eq_false r1, Bool.false_and, if_neg (fun q => r1 q.2.2)]
      rfl
    ·rw [decide_eq_false m0, Bool.and_false, Bool.and_false, if_neg (fun q => m0 q.2.1)]
     rfl
 ·have h1 : ¬ pN (bz s) = true := by rw [h]; simp
  rw [rdV, if_neg h1]
end Go.Px
end
noncomputable section
set_option maxHeartbeats 3200000
namespace Go.Px
open Go Go.Ab Go.Proofs Go.Shelf
def G39 : Env := (G38.add 22 (sp2 s22))
theorem ok_G39 : EnvOK Tryz.prog G39 := env_add (ok_G38) ok22
theorem ch_all {l : List Int} (h : vOK l = true) (hn : pN l = false) : (pS l).all (hasZ [65, 88, 57]) = true := by
 have hc : charZ (exZ l) = true := by
  simp only [vOK, Bool.and_eq_true, Bool.or_eq_true] at h
  simp only [pN] at hn
  rcases h.2 with q | q
  ·exact q
  ·rw [h.1, q] at hn; cases hn
 rw [pS, if_pos h]
 simp only [charZ, Bool.and_eq_true] at hc
 exact hc.1
def s24 (s : ByteArray) (t : ByteArray) : Bool × Value := (decide (s.size ≤ 9223372036854775807 ∧ t.size ≤ 9223372036854775807), .bool (hoZ (bz s) (bz t)))
theorem fn24 : Fn1 Tryz.prog 24 Tryz.f24 := ⟨Tryz.func24, by kernel_rfl, by kernel_rfl, by kernel_rfl⟩
theorem v24 (s : ByteArray) (t : ByteArray) (R : Value → Prop) : bodyQ Tryz.prog G39 noL Tryz.f24 [Enc.enc s, Enc.enc t] (fun _ => none) 0 (fun v _ _ => R v) = ( bif decide (ByteArray.size s ≤ 9223372036854775807) then bif vOK (bz s) then bif pN (bz s) then ∀ (k cap : Nat) (d : List Value), rowIOK d k cap = true → zc d k = rolF (pS (bz s)) → bif decide (ByteArray.size s ≤ 9223372036854775807 ∧ ByteArray.size t ≤ 9223372036854775807) then R (.bool (Prod.snd (rdV (bz s) (bz t)) == 0)) else False else bif List.all (bz (sz (pS (bz s)))) (hasZ [65, 88, 57]) && decide (ByteArray.size (sz (pS (bz s))) ≤ 1000 ∧ ByteArray.size t ≤ 9223372036854775807) then R (.bool (decide ((↑(ByteArray.size t) : Int) = (↑(ByteArray.size (sz (pS (bz s)))) : Int)) && onGo (bz (sz (pS (bz s)))) (bz t))) else False else R (.bool false) else False) := by kernel_rfl
theorem ok24 : PureOK Tryz.prog 24 (sp2 s24) := by
 refine qure2 ok_G39 hmix fn24 lokf_none (Nat.le_of_ble_eq_true (by kernel_rfl)) fun s t hc => ?_
 rw [DoesQ, v24]
 have hc : (s.size ≤ 9223372036854775807 ∧ t.size ≤ 9223372036854775807) := of_decide_eq_true hc
 try dsimp only [s24]
 refine c_t (decide_eq_true hc.1) (cond_intro (fun h => cond_intro (fun hn => ?_) (fun hn => ?_)) (fun h => ?_))
 ·intro k cap d _ _
  refine c_t (decide_eq_true hc) ?_
  rw [hoZ, if_pos h, if_pos hn]
  rfl
 ·have hl := pS_len s
  have b1 : bz (sz (pS (bz s))) = pS (bz s) := bz_sz hl.1
  have z1 : (sz (pS (bz s))).size = (pS (bz s)).length := by rw [← bz_length, b1]
  have hn' : ¬ pN (bz s) = true := by rw [hn]; simp
  rw [b1, z1, ch_all h hn]
  refine c_t (by simp only [Bool.true_and, decide_eq_true_eq]; omega) ?_
  rw [hoZ, if_pos h, if_neg hn', pCh h hn, bz_length]
 ·have h1 : ¬ vOK (bz s) = true := by rw [h]; simp
  rw [hoZ, if_neg h1]
end Go.Px
end
noncomputable section
namespace Go.Px
open Go Go.Ab Go.Proofs
def cel0 (le fill dr : Int) (neg : Bool) (m c d o : Int) : Int :=
 bif m == 100 then fmZ c d neg else bif m == 99 then (bif decide (o < le) then fill else d)
 else bif m == 105 then (bif c == 66 then 32 else bif decide (o < le) then fill else c) else ssZ c dr neg
def celZ (le fill dr : Int) (neg : Bool) (m c d o : Int) : Int := bif dr != 0 && o == le - 1 then sgZ dr neg else cel0 le fill dr neg m c d o
def fsGo (le fill dr : Int) (neg : Bool) : List Int → List Int → List Int → Int → List Int
 | [], _, _, _ => []
 | m :: r, sp, ds, o => bif m == 118 then fsGo le fill dr neg r sp.tail ds o
  else celZ le fill dr neg m (sp.headD 0) (ds.headD 0) o :: fsGo le fill dr neg r sp.tail (bif isP m then ds.tail else ds) (o + 1)
theorem fd_cons (le fill dr : Int) (neg : Bool) (m : Int) (r sp ds : List Int) (o : Int) : fdGo le fill dr neg (m :: r) sp ds o =
  bif m == 118 then fdGo le fill dr neg r sp.tail ds o else cel0 le fill dr neg m (sp.headD 0) (ds.headD 0) o :: fdGo le fill dr neg r sp.tail (bif isP m then ds.tail else ds) (o + 1) := by
 rw [fdGo, cel0, isP]
 by_cases h1 : m = 100
 ·subst h1; rfl
 by_cases h2 : m = 99
 ·subst h2; rfl
 by_cases h3 : m = 105
 ·subst h3; rfl
 have e1 : (m == 100) = false := beq_eq_false_iff_ne.2 h1
 have e2 : (m == 99) = false := beq_eq_false_iff_ne.2 h2
 have e3 : (m == 105) = false := beq_eq_false_iff_ne.2 h3
 rw [e1, e2, e3]
 by_cases h4 : m = 118
 ·subst h4; rfl
 have e4 : (m == 118) = false := beq_eq_false_iff_ne.2 h4
 have e5 : (m != 118) = true := by rw [bne, e4]; rfl
 rw [e4, e5]
 rfl
theorem fs_past {le fill dr : Int} {neg : Bool} : ∀ (ms sp ds : List Int) (o : Int), dr = 0 ∨ le - 1 < o → fsGo le fill dr neg ms sp ds o = fdGo le fill dr neg ms sp ds o
 | [], _, _, _, _ => rfl
 | m :: r, sp, ds, o, h => by
  have hc : (dr != 0 && o == le - 1) = false := by
   rcases h with rfl | h
   ·rfl
   ·have : (o == le - 1) = false := beq_eq_false_iff_ne.2 (by omega)
    rw [this, Bool.and_false]
  rw [fsGo, fd_cons, celZ, hc, cond_false, fs_past r _ _ (o + 1) (by omega), fs_past r _ _ o h]
theorem fs_set {le fill dr : Int} {neg : Bool} (hd : dr ≠ 0) : ∀ (ms sp ds : List Int) (o : Int), o ≤ le - 1 → le - 1 < o + nv ms → fsGo le fill dr neg ms sp ds o = (fdGo le fill dr neg ms sp ds o).set (le - 1 - o).toNat (sgZ dr neg)
 | [], _, _, o, h1, h2 => by simp [nv] at h2; omega
 | m :: r, sp, ds, o, h1, h2 => by
  rw [nv_cons] at h2
  rw [fsGo, fd_cons]
  by_cases hm : m = 118
  ·subst hm
   rw [if_pos rfl] at h2
   exact fs_set hd r _ _ o h1 (by omega)
  ·have e : (m == 118) = false := beq_eq_false_iff_ne.2 hm
   rw [if_neg hm] at h2
   rw [e, cond_false, cond_false, celZ]
   have hd' : (dr != 0) = true := bne_iff_ne.2 hd
   by_cases ho : o = le - 1
   ·have e2 : (o == le - 1) = true := beq_iff_eq.2 ho
    rw [hd', e2, fs_past r _ _ (o + 1) (.inr (by omega))]
    have : (le - 1 - o).toNat = 0 := by omega
    rw [this]
    rfl
   ·have e2 : (o == le - 1) = false := beq_eq_false_iff_ne.2 ho
    have : (le - 1 - o).toNat = (le - 1 - (o + 1)).toNat + 1 := by omega
    rw [e2, Bool.and_false, cond_false, fs_set hd r _ _ (o + 1) (by omega) (by omega), this]
    rfl
theorem fs_len (le fill dr : Int) (neg : Bool) : ∀ (ms sp ds : List Int) (o : Int), (fsGo le fill dr neg ms sp ds o).length = nv ms
 | [], _, _, _ => rfl
 | m :: r, sp, ds, o => by
  rw [fsGo, nv_cons]
  by_cases hm : m = 118
  ·subst hm
   rw [if_pos rfl, Nat.zero_add]
   exact fs_len le fill dr neg r _ _ _
  ·have e : (m == 118) = false := beq_eq_false_iff_ne.2 hm
   rw [e, cond_false, List.length_cons, fs_len, if_neg hm]
   omega
theorem field_fs {sp : List Int} {w : Int} {k : Nat} {n : Int} (h : fdOK sp w k n = true) : fieldZ sp w k n =
  bif fdBl sp w k n then rep1 (fdFl sp) w.toNat else fsGo (fdLe sp w k n) (fdFl sp) (fdDr sp) (decide (n < 0)) (marksZ sp) sp (digZ n.natAbs k) 0 := by
 unfold fieldZ
 cases hb : fdBl sp w k n with
 | true => rfl
 | false =>
  rw [cond_false, cond_false]
  unfold fdOK at h
  rw [hb, Bool.false_or] at h
  by_cases h0 : fdDr sp = 0
  ·have e : (fdDr sp != 0) = false := by rw [h0]; rfl
   rw [e, cond_false, fdOut, fs_past _ _ _ _ (.inl h0)]
  ·have e : (fdDr sp != 0) = true := bne_iff_ne.2 h0
   have e2 : (fdDr sp == 0) = false := beq_eq_false_iff_ne.2 h0
   rw [e2, Bool.false_or, decide_eq_true_eq, fdOut, fd_len] at h
   rw [e, cond_true, fdOut, fs_set h0 _ _ _ _ (by omega) (by omega), Int.sub_zero]
def ldOK (le : Int) : List Int → List Int → Int → Prop
 | [], _, _ => True
 | m :: r, ds, o => (o < le → m ≠ 100 ∧ (m = 99 → ds.headD 0 = 48)) ∧ ldOK le r (bif isP m then ds.tail else ds) (bif m == 118 then o else o + 1)
theorem ld_past {le : Int} : ∀ (ms ds : List Int) (o : Int), le ≤ o → ldOK le ms ds o
 | [], _, _, _ => trivial
 | m :: r, ds, o, h => ⟨fun q => by omega, ld_past r _ _ (by cases m == 118 <;> simp <;> omega)⟩
theorem ld_end : ∀ (ms ds : List Int) (o : Int), ldOK (endGo ms ds o) ms ds o
 | [], _, _ => trivial
 | m :: r, ds, o => by
  rw [endGo]
  cases h : ((m == 118 || m == 100) || (m == 99 && ds.headD 0 != 48)) with
  | true => exact ld_past _ _ _ (by rw [cond_true]; omega)
  | false =>
   rw [cond_false]
   simp only [Bool.or_eq_false_iff, beq_eq_false_iff_ne, Bool.and_eq_false_imp, beq_iff_eq, bne_eq_false_iff_eq] at h
   obtain ⟨⟨h1, h2⟩, h3⟩ := h
   have e1 : (m == 118) = false := beq_eq_false_iff_ne.2 h1
   have e2 : isP m = (m == 99) := by rw [isP, beq_eq_false_iff_ne.2 h2, Bool.false_or]
   have := ld_end r (bif m == 99 then ds.tail else ds) (o + 1)
   rw [ldOK, e1, e2, cond_false]
   exact ⟨fun _ => ⟨h2, h3⟩, this⟩
theorem pd_cons (m : Int) (r : List Int) : pdGo (m :: r) = (if isP m = true then 1 else 0) + pdGo r := by
 rw [pdGo]; cases isP m <;> rfl
theorem isP_iff {m : Int} : isP m = true ↔ m = 100 ∨ m = 99 := by simp [isP]
theorem ld_zero {le : Int} : ∀ (ms ds : List Int) (o : Int), 100 ∉ ms → (∀ c ∈ ds, c = 48) → pdGo ms ≤ ds.length → ldOK le ms ds o
 | [], _, _, _, _, _ => trivial
 | m :: r, ds, o, h1, h2, h3 => by
  have hr : 100 ∉ r := fun q => h1 (List.mem_cons_of_mem _ q)
  have hm : m ≠ 100 := fun q => h1 (by rw [q]; exact List.mem_cons_self)
  rw [pd_cons] at h3
  have hn := pd_nn r
  refine ⟨fun _ => ⟨hm, fun h99 => ?_⟩, ?_⟩
  ·rw [if_pos (isP_iff.2 (.inr h99))] at h3
   cases ds with
   | nil => simp at h3; omega
   | cons d ds => exact h2 d List.mem_cons_self
  ·refine ld_zero r _ _ hr ?_ ?_
   ·cases isP m with
    | true => exact fun c hc => h2 c (List.mem_of_mem_tail hc)
    | false => exact h2
   ·cases hp : isP m with
    | true => rw [hp, if_pos rfl] at h3; rw [cond_true, List.length_tail]; omega
    | false => rw [hp] at h3; simp at h3; exact h3
theorem ld_law {sp : List Int} {w : Int} {k : Nat} {n : Int} (hp : pdGo (marksZ sp) ≤ k) : ldOK (fdLe sp w k n) (marksZ sp) (digZ n.natAbs k) 0 := by
 unfold fdLe endZ
 cases h9 : hasZ (marksZ sp) 99 with
 | false => exact ld_past _ _ _ (by simp)
 | true =>
  rw [Bool.not_true, cond_false]
  cases hq : (!hasZ (marksZ sp) 100 && decide (digZ n.natAbs k = rep1 48 k)) with
  | false => exact ld_end _ _ _
  | true =>
   simp only [Bool.and_eq_true, Bool.not_eq_true', decide_eq_true_eq] at hq
   refine ld_zero _ _ _ (fun q => by rw [hasZ_iff.2 q] at hq; cases hq.1) ?_ (by rw [digZ_len]; exact hp)
   exact (rep48 (digZ_len _ _)).1 hq.2
theorem dg10 {d : Int} (h : 48 ≤ d ∧ d ≤ 57) : d = 48 ∨ d = 49 ∨ d = 50 ∨ d = 51 ∨ d = 52 ∨ d = 53 ∨ d = 54 ∨ d = 55 ∨ d = 56 ∨ d = 57 := by omega
theorem rd_fm (c : Int) {d : Int} (neg : Bool) (h : 48 ≤ d ∧ d ≤ 57) : rdD (fmZ c d neg) = d - 48 := by
 unfold fmZ
 split
 ·rename_i q
  rw [q.2]; decide
 ·split
  ·rcases dg10 h with rfl | rfl | rfl | rfl | rfl | rfl | rfl | rfl | rfl | rfl <;> cases neg <;> decide
  ·rcases dg10 h with rfl | rfl | rfl | rfl | rfl | rfl | rfl | rfl | rfl | rfl <;> decide
theorem rd_d {d : Int} (h : 48 ≤ d ∧ d ≤ 57) : rdD d = d - 48 := by
 rcases dg10 h with rfl | rfl | rfl | rfl | rfl | rfl | rfl | rfl | rfl | rfl <;> decide
theorem dr_four {dr : Int} (h : hasZ [36, 83, 43, 45] dr = true) : dr = 36 ∨ dr = 83 ∨ dr = 43 ∨ dr = 45 := by
 simpa using hasZ_iff.1 h
theorem rd_sg {dr : Int} (h : hasZ [36, 83, 43, 45] dr = true) (neg : Bool) : rdD (sgZ dr neg) = 0 := by
 rcases dr_four h with rfl | rfl | rfl | rfl <;> cases neg <;> decide
theorem rd_fl (sp : List Int) : rdD (fdFl sp) = 0 := by
 unfold fdFl; split <;> decide
theorem rd_fs {le fill dr : Int} {neg : Bool} (hf : rdD fill = 0) (hd : dr = 0 ∨ hasZ [36, 83, 43, 45] dr = true) : ∀ (ms sp ds : List Int) (o a : Int), dgL ds = true → pdGo ms ≤ ds.length → ldOK le ms ds o →
  rdGo ms (fsGo le fill dr neg ms sp ds o) a = numZ (ds.take (pdGo ms).toNat) a
 | [], _, _, _, _, _, _, _ => by simp [rdGo, pdGo, numZ]
 | m :: r, sp, ds, o, a, h1, h2, h3 => by
  have hn := pd_nn r
  rw [pd_cons] at h2
  rw [fsGo, rdGo, pd_cons]
  obtain ⟨g1, g2⟩ := h3
  by_cases hm : m = 118
  ·subst hm
   exact rd_fs hf hd r _ ds o a h1 (by simpa [isP] using h2) (by simpa [isP] using g2) |>.trans (by simp [isP])
  ·have e : (m == 118) = false := beq_eq_false_iff_ne.2 hm
   rw [e, cond_false] at g2
   rw [e, cond_false, cond_false, List.tail_cons, List.headD_cons]
   cases hp : isP m with
   | false =>
    have hp2 : (m == 100 || m == 99) = false := hp
    rw [hp] at g2 h2
    rw [hp2, cond_false, cond_false, rd_fs hf hd r _ ds (o + 1) a h1 (by simpa using h2) g2]
    simp
   | true =>
    have hp2 : (m == 100 || m == 99) = true := hp
    rw [hp, if_pos rfl] at h2
    rw [hp] at g2
    cases ds with
    | nil => simp at h2; omega
    | cons d ds =>
     obtain ⟨hdd, hds⟩ := dgL_cons.1 h1
     rw [List.length_cons] at h2
     rw [hp2, cond_true, cond_true, List.tail_cons, List.headD_cons, rd_fs hf hd r _ ds (o + 1) _ hds (by omega) g2]
     have et : (1 + pdGo r).toNat = (pdGo r).toNat + 1 := by omega
     have hc : rdD (celZ le fill dr neg m (sp.headD 0) d o) = d - 48 := by
      unfold celZ
      cases hs : (dr != 0 && o == le - 1) with
      | true =>
       simp only [Bool.and_eq_true, bne_iff_ne, beq_iff_eq] at hs
       obtain ⟨k1, k2⟩ := g1 (by omega)
       have h99 : m = 99 := (isP_iff.1 hp).resolve_left k1
       have : d = 48 := k2 h99
       rw [cond_true, rd_sg (hd.resolve_left hs.1), this]
       rfl
      | false =>
       rw [cond_false, cel0]
       rcases isP_iff.1 hp with rfl | rfl
       ·exact rd_fm _ _ hdd
       ·show rdD (bif decide (o < le) then fill else d) = _
        by_cases ho : o < le
        ·have : d = 48 := (g1 ho).2 rfl
         rw [decide_eq_true ho, cond_true, hf, this]
         rfl
        ·rw [decide_eq_false ho, cond_false, rd_d hdd]
     rw [hc]
     simp only [if_true]
     rw [et, List.take_succ_cons, numZ]
theorem rd_none : ∀ (ms l : List Int), (∀ c ∈ l, rdD c = 0) → rdGo ms l 0 = 0
 | [], _, _ => rfl
 | m :: r, l, h => by
  rw [rdGo]
  cases m == 118 with
  | true => exact rd_none r l h
  | false =>
   rw [cond_false]
   have h0 : rdD (l.headD 0) = 0 := by
    cases l with
    | nil => decide
    | cons c l => exact h c List.mem_cons_self
   rw [h0]
   have : (bif m == 100 || m == 99 then (0 : Int) * 10 + 0 else 0) = 0 := by cases (m == 100 || m == 99) <;> rfl
   rw [this]
   exact rd_none r _ fun c hc => h c (List.mem_of_mem_tail hc)
theorem fdDr_sign (sp : List Int) : fdDr sp = 0 ∨ hasZ [36, 83, 43, 45] (fdDr sp) = true := by
 unfold fdDr
 cases (!hasZ sp 90 && (!hasZ sp 42 && hasZ (marksZ sp) 99)) with
 | false => exact .inl rfl
 | true => exact (dr_sign sp sp).imp id And.left
theorem fdBl_zero {sp : List Int} {w : Int} {k : Nat} {n : Int} (h : fdBl sp w k n = true) : n = 0 := by
 simp only [fdBl, Bool.and_eq_true, beq_iff_eq] at h
 exact h.2.2.1
theorem rdA_field {l : List Int} (hl : IsB (pS l) ∧ (pS l).length ≤ 32) (h : pN l = true) {n : Int} (hn : (n.natAbs : Int) < tenZ (pD l).toNat) : rdA l (fdN l n) = n.natAbs := by
 obtain ⟨_, _, p3, p4, _, p6⟩ := pN_ok hl h n
 have hp := pD_rng h
 rw [rdA, fdN, field_fs p6]
 cases hb : fdBl (pS l) (pW l) (pD l).toNat n with
 | true =>
  rw [cond_true, fdBl_zero hb]
  exact rd_none _ _ fun c hc => by rw [List.eq_of_mem_replicate hc]; exact rd_fl _
 | false =>
  have hlen := digZ_len (pD l).toNat n.natAbs
  rw [cond_false, rd_fs (rd_fl _) (fdDr_sign _) _ _ _ _ _ (digZ_dg _ _) (by rw [hlen]; omega) (ld_law (by omega)), List.take_of_length_le (by rw [hlen]; omega)]
  have := dval_dig (pD l).toNat n.natAbs (by omega)
  rw [dval, Int.emod_eq_of_lt (by omega) hn] at this
  exact this
end Go.Px
end
noncomputable section
namespace Go.Px
open Go Go.Ab Go.Proofs
theorem fs_app (le fill dr : Int) (neg : Bool) : ∀ (a b sp ds : List Int) (o : Int), fsGo le fill dr neg (a ++ b) sp ds o =
  fsGo le fill dr neg a sp ds o ++ fsGo le fill dr neg b (sp.drop a.length) (ds.drop (pdGo a).toNat) (o + nv a)
 | [], b, sp, ds, o => by simp [fsGo, pdGo, nv]
 | m :: r, b, sp, ds, o => by
  have hn := pd_nn r
  have et : ∀ x : List Int, x.tail.drop r.length = x.drop (r.length + 1) := fun x => by rw [List.drop_tail]
  rw [List.cons_append, fsGo, fsGo, pd_cons, nv_cons, List.length_cons]
  by_cases hm : m = 118
  ·subst hm
   have e : ((118 : Int) == 118) = true := rfl
   have ip : isP 118 = false := rfl
   rw [e, cond_true, cond_true, ip, if_pos rfl, if_neg (by decide), Int.zero_add, Nat.zero_add, fs_app le fill dr neg r b, et]
  ·have e : (m == 118) = false := beq_eq_false_iff_ne.2 hm
   rw [e, cond_false, cond_false, fs_app le fill dr neg r b, et, if_neg hm, List.cons_append]
   have eo : o + 1 + (nv r : Int) = o + ((1 + nv r : Nat) : Int) := by omega
   rw [eo]
   cases hp : isP m with
   | false => rw [cond_false, if_neg (by decide), Int.zero_add]
   | true =>
    have e1 : (1 + pdGo r).toNat = (pdGo r).toNat + 1 := by omega
    rw [cond_true, if_pos rfl, e1, List.drop_tail]
theorem mk_app (dr : Int) : ∀ (a b : List Int) (seen : Bool), mkGo dr seen (a ++ b) = mkGo dr seen a ++ mkGo dr (seen || (dr != 0 && decide (dr ∈ a))) b
 | [], b, seen => by simp [mkGo]
 | c :: r, b, seen => by
  rw [List.cons_append, mkGo, mkGo, mk_app dr r b, List.cons_append]
  congr 3
  have : decide (dr ∈ c :: r) = (c == dr || decide (dr ∈ r)) := by
   rw [Bool.eq_iff_iff, decide_eq_true_eq, Bool.or_eq_true, decide_eq_true_eq, beq_iff_eq, List.mem_cons]
   exact ⟨fun h => h.imp Eq.symm id, fun h => h.imp Eq.symm id⟩
  rw [this]
  cases seen <;> cases dr != 0 <;> simp
theorem pd_zero {a : List Int} : pdGo a = 0 ↔ ∀ m ∈ a, isP m = false := by
 induction a with
 | nil => simp [pdGo]
 | cons m r ih =>
  have := pd_nn r
  rw [pd_cons]
  cases hp : isP m with
  | true => simp [hp]; omega
  | false => simp [hp, ih]
theorem ld_at {le m : Int} : ∀ {a b ds : List Int} {o : Int}, ldOK le (a ++ m :: b) ds o → o + nv a < le → m ≠ 100 ∧ (m = 99 → (ds.drop (pdGo a).toNat).headD 0 = 48)
 | [], b, ds, o, h, ho => by
  have := h.1 (by simpa [nv] using ho)
  simpa [pdGo] using this
 | x :: r, b, ds, o, h, ho => by
  have hn := pd_nn r
  rw [nv_cons] at ho
  have := ld_at (a := r) (b := b) h.2 (by
   by_cases hm : x = 118
   ·subst hm
    simpa using ho
   ·have e : (x == 118) = false := beq_eq_false_iff_ne.2 hm
    rw [if_neg hm] at ho
    rw [e, cond_false]
    omega)
  rw [pd_cons]
  cases hp : isP x with
  | false =>
   rw [hp] at this
   simpa using this
  | true =>
   rw [hp, cond_true, List.drop_tail] at this
   have e1 : (1 + pdGo r).toNat = (pdGo r).toNat + 1 := by omega
   rw [if_pos rfl, e1]
   exact this
theorem end_app : ∀ (a b ds : List Int) (o : Int), endGo (a ++ b) ds o ≤ o + nv a ∨
  (118 ∉ a ∧ 100 ∉ a ∧ (∀ c ∈ ds.take (pdGo a).toNat, c = 48) ∧ endGo (a ++ b) ds o = endGo b (ds.drop (pdGo a).toNat) (o + nv a))
 | [], b, ds, o => .inr ⟨by simp, by simp, by simp [pdGo], by simp [pdGo, nv]⟩
 | m :: r, b, ds, o => by
  have hn := pd_nn r
  rw [List.cons_append, endGo, nv_cons, pd_cons]
  cases h : ((m == 118 || m == 100) || (m == 99 && ds.headD 0 != 48)) with
  | true => left; rw [cond_true]; omega
  | false =>
   rw [cond_false]
   simp only [Bool.or_eq_false_iff, beq_eq_false_iff_ne, Bool.and_eq_false_imp, beq_iff_eq, bne_eq_false_iff_eq] at h
   obtain ⟨⟨h1, h2⟩, h3⟩ := h
   have eo : o + 1 + (nv r : Int) = o + ((1 + nv r : Nat) : Int) := by omega
   rw [if_neg h1, ← eo]
   rcases end_app r b (bif m == 99 then ds.tail else ds) (o + 1) with g | ⟨g1, g2, g3, g4⟩
   ·exact .inl g
   ·refine .inr ⟨?_, ?_, ?_, ?_⟩
    ·simp only [List.mem_cons, not_or]; exact ⟨Ne.symm h1, g1⟩
    ·simp only [List.mem_cons, not_or]; exact ⟨Ne.symm h2, g2⟩
    ·by_cases h9 : m = 99
     ·subst h9
      have e1 : (1 + pdGo r).toNat = (pdGo r).toNat + 1 := by omega
      have hp : isP 99 = true := rfl
      rw [hp, if_pos rfl, e1]
      cases ds with
      | nil => simp
      | cons d ds =>
       rw [List.take_succ_cons]
       intro c hc
       rcases List.mem_cons.1 hc with rfl | hc
       ·exact h3 rfl
       ·exact g3 c hc
     ·have e : (m == 99) = false := beq_eq_false_iff_ne.2 h9
      have hp : isP m = false := by simp [isP, h2, h9]
      rw [e, cond_false] at g3
      rw [hp]
      simpa using g3
    ·rw [g4]
     by_cases h9 : m = 99
     ·subst h9
      have e1 : (1 + pdGo r).toNat = (pdGo r).toNat + 1 := by omega
      have hp : isP 99 = true := rfl
      rw [hp, if_pos rfl, e1]
      show endGo b (ds.tail.drop _) _ = _
      rw [List.drop_tail]
     ·have e : (m == 99) = false := beq_eq_false_iff_ne.2 h9
      have hp : isP m = false := by simp [isP, h2, h9]
      rw [e, hp]
      simp
theorem drift_C {b : List Int} (h : driftsZ b = true) (h0 : drZ b ≠ 0) : drC b (drZ b) = true := by
 obtain ⟨_, hm⟩ := (drGo_spec b b).resolve_left h0
 have hm : drZ b ∈ b := hm
 simp only [driftsZ, Bool.or_eq_true, beq_iff_eq, Bool.and_eq_true] at h
 obtain ⟨h1, h2⟩ := h.resolve_left h0
 obtain ⟨q1, q2⟩ := df1_fl b (drZ b) b 0 (-1) (-1) (by omega) h1
 rw [if_pos (by omega), if_pos hm, Int.zero_add] at q1
 rw [if_pos hm, Int.zero_add] at q2
 rw [q1, q2, d2_drC hm] at h2
 exact h2
theorem stIn_app (dr x : Int) : ∀ (a am b bm : List Int) (j : Int) (p q : Bool), a.length = am.length →
  stIn dr x (a ++ b) (am ++ bm) j p q = stIn dr x b bm (j + a.length) (stIn dr x a am j p q).1 (stIn dr x a am j p q).2
 | [], [], b, bm, j, p, q, _ => by simp [stIn]
 | c :: r, m :: ms, b, bm, j, p, q, h => by
  rw [List.cons_append, List.cons_append, stIn, stIn]
  have hl : r.length = ms.length := by simpa using h
  have e : j + ((c :: r).length : Int) = j + 1 + r.length := by rw [List.length_cons]; omega
  rw [e]
  cases m == 100 || (m == 99 || c == dr) with
  | true => exact stIn_app dr x r ms b bm _ _ _ hl
  | false => exact stIn_app dr x r ms b bm _ _ _ hl
theorem stIn_mono (dr x : Int) : ∀ (a am : List Int) (j : Int) (p q : Bool), (p = true → (stIn dr x a am j p q).1 = true) ∧ (q = true → (stIn dr x a am j p q).2 = true)
 | [], _, _, p, q => by simp [stIn]
 | _ :: _, [], _, p, q => by simp [stIn]
 | c :: r, m :: ms, j, p, q => by
  rw [stIn]
  have h := fun p q => stIn_mono dr x r ms (j + 1) p q
  cases m == 100 || (m == 99 || c == dr) with
  | true => exact ⟨fun e => (h _ _).1 (by rw [e]; rfl), fun e => (h _ _).2 (by rw [e]; rfl)⟩
  | false => exact ⟨fun e => (h _ _).1 e, fun e => (h _ _).2 e⟩
theorem stIn_lo (dr x : Int) : ∀ (a am : List Int) (j : Int) (p q : Bool), a.length = am.length → ((∃ m ∈ am, isP m = true) ∨ dr ∈ a) → j + a.length ≤ x → (stIn dr x a am j p q).1 = true
 | [], [], _, _, _, _, h, _ => by simp at h
 | c :: r, m :: ms, j, p, q, hl, h, hx => by
  rw [List.length_cons] at hx
  have hl' : r.length = ms.length := by simpa using hl
  rw [stIn]
  cases hm : m == 100 || (m == 99 || c == dr) with
  | true => exact (stIn_mono dr x r ms _ _ _).1 (by rw [decide_eq_true (by omega)]; simp)
  | false =>
   refine stIn_lo dr x r ms _ _ _ hl' ?_ (by omega)
   simp only [Bool.or_eq_false_iff, beq_eq_false_iff_ne] at hm
   rcases h with ⟨y, hy, hp⟩ | h
   ·rcases List.mem_cons.1 hy with rfl | hy
    ·rcases isP_iff.1 hp with rfl | rfl
     ·exact absurd rfl hm.1
     ·exact absurd rfl hm.2.1
    ·exact .inl ⟨y, hy, hp⟩
   ·rcases List.mem_cons.1 h with e | h
    ·exact absurd e.symm hm.2.2
    ·exact .inr h
theorem stIn_hi (dr x : Int) : ∀ (a am : List Int) (j : Int) (p q : Bool), a.length = am.length → ((∃ m ∈ am, isP m = true) ∨ dr ∈ a) → x < j → (stIn dr x a am j p q).2 = true
 | [], [], _, _, _, _, h, _ => by simp at h
 | c :: r, m :: ms, j, p, q, hl, h, hx => by
  have hl' : r.length = ms.length := by simpa using hl
  rw [stIn]
  cases hm : m == 100 || (m == 99 || c == dr) with
  | true => exact (stIn_mono dr x r ms _ _ _).2 (by rw [decide_eq_true (show j > x by omega)]; simp)
  | false =>
   refine stIn_hi dr x r ms _ _ _ hl' ?_ (by omega)
   simp only [Bool.or_eq_false_iff, beq_eq_false_iff_ne] at hm
   rcases h with ⟨y, hy, hp⟩ | h
   ·rcases List.mem_cons.1 hy with rfl | hy
    ·rcases isP_iff.1 hp with rfl | rfl
     ·exact absurd rfl hm.1
     ·exact absurd rfl hm.2.1
    ·exact .inl ⟨y, hy, hp⟩
   ·rcases List.mem_cons.1 h with e | h
    ·exact absurd e.symm hm.2.2
    ·exact .inr h
theorem stGo_at (dr : Int) (body ms : List Int) : ∀ {a b : List Int} {c i : Int}, stGo dr body ms (a ++ c :: b) i = true → hasZ [36, 83, 43, 45] c = true → c ≠ dr →
  ((stIn dr (i + a.length) body ms 0 false false).1 && (stIn dr (i + a.length) body ms 0 false false).2) = false
 | [], b, c, i, h, h4, hc => by
  rw [List.nil_append, stGo, h4, beq_eq_false_iff_ne.2 hc] at h
  have := (Bool.and_eq_true_iff.1 h).1
  have e : ((([] : List Int).length : Nat) : Int) = 0 := rfl
  rw [e, Int.add_zero]
  cases q : ((stIn dr i body ms 0 false false).1 && (stIn dr i body ms 0 false false).2) with
  | false => rfl
  | true => rw [q] at this; cases this
 | x :: a, b, c, i, h, h4, hc => by
  rw [List.cons_append, stGo] at h
  have e : i + ((x :: a).length : Int) = i + 1 + a.length := by rw [List.length_cons]; omega
  rw [e]
  exact stGo_at dr body ms (Bool.and_eq_true_iff.1 h).2 h4 hc
theorem ld_split : ∀ (a b : List Int) (fm bh pt : Bool) (dg : Int), (ldGo (a ++ 100 :: b) fm bh pt dg).1 = true → 99 ∉ b
 | [], b, fm, bh, pt, dg, h, h9 => by
  have key : (ldGo (100 :: b) fm bh pt dg).1 = (ldGo b true bh pt (dg + 1)).1 := rfl
  rw [List.nil_append, key, ld_firm b _ _ _ h9] at h
  cases h
 | m :: a, b, fm, bh, pt, dg, h, h9 => by
  rw [List.cons_append, ldGo] at h
  cases hm : m == 118 with
  | true => rw [hm] at h; exact ld_split a b _ _ _ _ h h9
  | false =>
   rw [hm, cond_false] at h
   cases hm2 : m == 100 with
   | true => rw [hm2] at h; exact ld_split a b _ _ _ _ h h9
   | false =>
    rw [hm2, cond_false] at h
    cases hm3 : m == 99 with
    | false => rw [hm3] at h; exact ld_split a b _ _ _ _ h h9
    | true =>
     rw [hm3, cond_true] at h
     cases fm with
     | true => cases h
     | false => exact ld_split a b _ _ _ _ h h9
theorem mk1_99 {dr : Int} {seen : Bool} {c : Int} (h : mk1 dr seen c = 99) : hasZ [90, 42] c = true ∨ (dr ≠ 0 ∧ c = dr ∧ seen = true) := by
 unfold mk1 at h
 cases h1 : hasZ [57, 89, 84, 73, 82] c with
 | true => rw [h1, cond_true] at h; exact absurd h (by decide)
 | false =>
  rw [h1, cond_false] at h
  cases h2 : hasZ [90, 42] c || (dr != 0 && (c == dr && seen)) with
  | true =>
   rcases Bool.or_eq_true_iff.1 h2 with q | q
   ·exact .inl q
   ·simp only [Bool.and_eq_true, bne_iff_ne, beq_iff_eq] at q
    exact .inr q
  | false =>
   rw [h2, cond_false] at h
   cases h3 : c == 86 <;> cases h4 : c == 36 <;> cases h5 : hasZ [83, 43, 45] c <;> rw [h3] at h <;> simp [h4, h5] at h
theorem mk_99_mem {dr : Int} : ∀ {l : List Int} {seen : Bool}, 99 ∈ mkGo dr seen l → (∃ c ∈ l, hasZ [90, 42] c = true) ∨ (dr ≠ 0 ∧ dr ∈ l)
 | c :: r, seen, h => by
  rw [mkGo] at h
  rcases List.mem_cons.1 h with h | h
  ·rcases mk1_99 h.symm with q | ⟨q1, q2, _⟩
   ·exact .inl ⟨c, List.mem_cons_self, q⟩
   ·exact .inr ⟨q1, by rw [← q2]; exact List.mem_cons_self⟩
  ·rcases mk_99_mem h with ⟨x, hx, q⟩ | ⟨q1, q2⟩
   ·exact .inl ⟨x, List.mem_cons_of_mem _ hx, q⟩
   ·exact .inr ⟨q1, List.mem_cons_of_mem _ q2⟩
theorem NumP.noZ {s : List Int} (h : NumP s) (h0 : drZ (bodyZ s) ≠ 0) : ∀ c ∈ bodyZ s, hasZ [90, 42] c = false := by
 have hld := h.ld
 unfold leadsZ at hld
 intro c hc
 cases e : hasZ [90, 42] c with
 | false => rfl
 | true =>
  exfalso
  have hm : hasZ (bodyZ s) 90 = true ∨ hasZ (bodyZ s) 42 = true := by
   have := hasZ_iff.1 e
   rcases List.mem_cons.1 this with rfl | this
   ·exact .inl (hasZ_iff.2 hc)
   ·rcases List.mem_cons.1 this with rfl | this
    ·exact .inr (hasZ_iff.2 hc)
    ·cases this
  have : (hasZ (bodyZ s) 90 || hasZ (bodyZ s) 42) = true := by rcases hm with q | q <;> rw [q] <;> simp
  rw [this, bne_iff_ne.2 h0] at hld
  cases h9 : hasZ (bodyZ s) 90 && hasZ (bodyZ s) 42 with
  | true => rw [h9] at hld; cases hld
  | false => rw [h9] at hld; cases hld
theorem NumP.ld1 {s : List Int} (h : NumP s) : (ldGo (mkGo (drZ (bodyZ s)) false (bodyZ s)) false false false 0).1 = true := by
 have hld := h.ld
 unfold leadsZ at hld
 cases h1 : hasZ (bodyZ s) 90 && hasZ (bodyZ s) 42 with
 | true => rw [h1] at hld; cases hld
 | false =>
  rw [h1, cond_false] at hld
  cases h2 : (hasZ (bodyZ s) 90 || hasZ (bodyZ s) 42) && drZ (bodyZ s) != 0 with
  | true => rw [h2] at hld; cases hld
  | false =>
   rw [h2, cond_false] at hld
   exact (Bool.and_eq_true_iff.1 hld).1
theorem idx_ge {d : Int} : ∀ {a b : List Int}, d ∉ a → d ∈ b → (a.length : Int) ≤ idxZ (a ++ b) d
 | a, b, ha, hb => by
  rw [idx_app, if_neg ha, if_pos hb]
  have := (idx_has d b).2.2 hb
  omega
def tmZ (s : List Int) : List Int := if crZ s = true then [115, 115] else []
theorem marks_eq (s : List Int) : marksZ s = mkGo (drZ (bodyZ s)) false (bodyZ s) ++ tmZ s := rfl
theorem tm_pd (s : List Int) : pdGo (tmZ s) = 0 := by unfold tmZ; split <;> rfl
theorem still_ne {s : List Int} (h : NumP s) {k : Nat} {n w : Int} (hk : pdGo (marksZ s) = k) (hn : ¬ ∀ c ∈ digZ n.natAbs k, c = 48) {pre suf : List Int} {c : Int} (hb : bodyZ s = pre ++ c :: suf) (hc : c = 83 ∨ c = 43 ∨ c = 45 ∨ c = 36) (h0 : drZ (bodyZ s) ≠ 0) (hne : c ≠ drZ (bodyZ s)) :
  fdLe s w k n - 1 ≠ nv (mkGo (drZ (bodyZ s)) false pre) := by
 have hlen := digZ_len k n.natAbs
 generalize hds : digZ n.natAbs k = ds at *
 have hnz := h.noZ h0
 have hld := h.ld1
 have hst := h.st
 have hD := drift_C h.dr h0
 have hms := marks_eq s
 have ht := tm_pd s
 have htm : tmZ s = [] ∨ tmZ s = [115, 115] := by unfold tmZ; split <;> simp
 have hdm : drZ (bodyZ s) ∈ bodyZ s := ((drGo_spec (bodyZ s) (bodyZ s)).resolve_left h0).2
 unfold fdLe endZ
 rw [hds]
 have hrep : decide (ds = rep1 48 k) = false := decide_eq_false fun q => hn ((rep48 hlen).1 q)
 rw [hrep, Bool.and_false, cond_false]
 unfold statsZ at hst
 generalize hdr : drZ (bodyZ s) = dr at *
 cases h9 : hasZ (marksZ s) 99 with
 | false => rw [Bool.not_false, cond_true]; omega
 | true =>
  rw [Bool.not_true, cond_false]
  have h4 : hasZ [36, 83, 43, 45] c = true := by rcases hc with rfl | rfl | rfl | rfl <;> decide
  have hmk : ∀ seen, mk1 dr seen c = 115 ∨ mk1 dr seen c = 109 := fun seen => by
   have : (c == dr) = false := beq_eq_false_iff_ne.2 hne
   unfold mk1
   rw [this]
   rcases hc with rfl | rfl | rfl | rfl <;> simp [hasZ]
  rw [hb] at hst
  have hst' := stGo_at dr (pre ++ c :: suf) _ hst h4 hne
  rw [Int.zero_add] at hst'
  rw [hb] at hms hld
  rw [mk_app, mkGo] at hms hld hst'
  generalize hsn : (false || (dr != 0 && decide (dr ∈ pre))) = sn at *
  generalize hM : mk1 dr sn c = M at *
  have hM' : M = 115 ∨ M = 109 := by rw [← hM]; exact hmk sn
  have hl1 := mk_len dr pre false
  have hl2 := mk_len dr suf (sn || (dr != 0 && c == dr))
  generalize hA : mkGo dr false pre = A at *
  generalize hB : mkGo dr (sn || (dr != 0 && c == dr)) suf = B at *
  rw [List.append_assoc, List.cons_append] at hms
  have hPM : isP M = false := by rcases hM' with rfl | rfl <;> rfl
  rcases end_app A (M :: (B ++ tmZ s)) ds 0 with g | ⟨g1, g2, g3, g4⟩
  ·rw [hms]; omega
  ·have hpB : pdGo B ≠ 0 := fun q => by
    refine hn fun x hx => g3 x ?_
    have : pdGo (marksZ s) = pdGo A := by rw [hms, pd_app, pd_cons, pd_app, hPM, q, ht]; simp
    rw [List.take_of_length_le (by rw [hlen]; omega)]
    exact hx
   have hPB : ∃ m ∈ B, isP m = true := by
    apply Classical.byContradiction
    intro q
    refine hpB (pd_zero.2 fun m hm => ?_)
    cases e : isP m with
    | false => rfl
    | true => exact absurd ⟨m, hm, e⟩ q
   by_cases hdp : dr ∈ pre
   ·exfalso
    rw [stIn_app _ _ _ _ _ _ _ _ _ hl1.symm, Int.zero_add] at hst'
    rw [stIn] at hst'
    have e1 := stIn_lo dr pre.length pre A 0 false false hl1.symm (.inr hdp) (by omega)
    have e3 : (M == 100 || (M == 99 || c == dr)) = false := by
     rw [beq_eq_false_iff_ne.2 hne]
     rcases hM' with rfl | rfl <;> rfl
    rw [e3, cond_false, e1] at hst'
    have e2 := fun p q => stIn_hi dr pre.length suf B (pre.length + 1) p q hl2.symm (.inl hPB) (by omega)
    rw [(stIn_mono dr pre.length suf B _ true _).1 rfl, e2] at hst'
    cases hst'
   ·have h99A : 99 ∉ A := fun q => by
     rw [← hA] at q
     rcases mk_99_mem q with ⟨x, hx, e⟩ | ⟨_, e⟩
     ·rw [hnz x (by rw [hb]; exact List.mem_append_left _ hx)] at e; cases e
     ·exact hdp e
    have hsnf : (sn || (dr != 0 && c == dr)) = false := by
     rw [← hsn, beq_eq_false_iff_ne.2 hne, decide_eq_false hdp]
     simp
    have h99B : 99 ∈ B := by
     have := hasZ_iff.1 h9
     rw [hms] at this
     simp only [List.mem_append, List.mem_cons] at this
     rcases this with q | q | q | q
     ·exact absurd q h99A
     ·rcases hM' with rfl | rfl <;> cases q
     ·exact q
     ·rcases htm with e | e <;> rw [e] at q <;> simp at q
    rw [hsnf] at hB
    cases suf with
    | nil => rw [← hB] at h99B; cases h99B
    | cons c1 s1 =>
     rw [mkGo] at hB
     have n99 : mk1 dr false c1 ≠ 99 := fun q => by
      rcases mk1_99 q with e | ⟨_, _, e⟩
      ·rw [hnz c1 (by rw [hb]; simp)] at e; cases e
      ·cases e
     have n100 : mk1 dr false c1 ≠ 100 := fun q => by
      rw [q] at hB
      rw [← hB] at hld h99B
      have := ld_split (A ++ [M]) (mkGo dr (false || (dr != 0 && c1 == dr)) s1) false false false 0 (by simpa using hld)
      rcases List.mem_cons.1 h99B with e | e
      ·cases e
      ·exact this e
     have n118 : mk1 dr false c1 ≠ 118 := fun q => by
      have h4d := (dr_sign (bodyZ s) (bodyZ s))
      have h4d : dr = 0 ∨ hasZ [36, 83, 43, 45] dr = true := by
       rw [← hdr]; exact h4d.imp id And.left
      have e86 := (mk1_pt h4d false c1).1 q
      subst e86
      simp only [drC, Bool.and_eq_true, Bool.not_eq_true'] at hD
      have hd86 : dr ≠ 86 := fun e => by
       rw [e] at h4d
       rcases h4d with e | e
       ·cases e
       ·exact absurd e (by decide)
      have hbb : bodyZ s = (pre ++ [c, 86]) ++ s1 := by rw [hb]; simp
      have hdp2 : dr ∉ pre ++ [c, 86] := by
       simp only [List.mem_append, List.mem_cons, List.not_mem_nil, or_false, not_or]
       exact ⟨hdp, Ne.symm hne, hd86⟩
      have hds1 : dr ∈ s1 := by
       rw [hbb] at hdm
       exact (List.mem_append.1 hdm).resolve_left hdp2
      have hi := idx_ge hdp2 hds1
      rw [← hbb] at hi
      have : hasZ ((bodyZ s).take (idxZ (bodyZ s) dr).toNat) 86 = true := by
       apply hasZ_iff.2
       have e := List.take_append_drop (idxZ (bodyZ s) dr).toNat (bodyZ s)
       rw [hbb, List.take_append, List.mem_append]
       left
       rw [List.take_of_length_le (by rw [← hbb]; omega)]
       simp
      rw [this] at hD
      cases hD.1
     rw [hms, g4]
     have hM1 : ∀ d : List Int, ((M == 118 || M == 100) || (M == 99 && d.headD 0 != 48)) = false := fun d => by rcases hM' with rfl | rfl <;> rfl
     have hM9 : (M == 99) = false := by rcases hM' with rfl | rfl <;> rfl
     rw [endGo, hM1, cond_false, hM9, cond_false, ← hB, List.cons_append, endGo]
     have e1 : (mk1 dr false c1 == 118) = false := beq_eq_false_iff_ne.2 n118
     have e2 : (mk1 dr false c1 == 100) = false := beq_eq_false_iff_ne.2 n100
     have e3 : (mk1 dr false c1 == 99) = false := beq_eq_false_iff_ne.2 n99
     rw [e1, e2, e3]
     have := (end_ge (mkGo dr (false || (dr != 0 && c1 == dr)) s1 ++ tmZ s) (ds.drop (pdGo A).toNat) (0 + nv A + 1 + 1)).1
     show endGo _ (ds.drop (pdGo A).toNat) (0 + nv A + 1 + 1) - 1 ≠ _
     omega
end Go.Px
end
noncomputable section
namespace Go.Px
open Go Go.Ab Go.Proofs
theorem fdLe_neg (s : List Int) (w : Int) (k : Nat) (n : Int) : fdLe s w k (0 - n) = fdLe s w k n := by
 have : (0 - n).natAbs = n.natAbs := by omega
 rw [fdLe, fdLe, this]
theorem cel_eq {le fl dr : Int} {ms s ds A B P R : List Int} {m c : Int} (h : fsGo le fl dr false ms s ds 0 = fsGo le fl dr true ms s ds 0) (hm : ms = A ++ m :: B) (hs : s = P ++ c :: R) (hl : A.length = P.length) (h1 : m ≠ 118) :
  celZ le fl dr false m c ((ds.drop (pdGo A).toNat).headD 0) (nv A) = celZ le fl dr true m c ((ds.drop (pdGo A).toNat).headD 0) (nv A) := by
 have e1 : (m == 118) = false := beq_eq_false_iff_ne.2 h1
 have e2 : s.drop A.length = c :: R := by rw [hs, hl, List.drop_left]
 rw [hm, fs_app, fs_app, e2, fsGo, fsGo, e1, cond_false, cond_false] at h
 have := (List.append_inj h (by rw [fs_len, fs_len])).2
 have := (List.cons.inj this).1
 rw [Int.zero_add, List.headD_cons] at this
 exact this
theorem le_body {s : List Int} {k : Nat} {n w : Int} (hk : pdGo (marksZ s) = k) (hn : ¬ ∀ c ∈ digZ n.natAbs k, c = 48) : fdLe s w k n ≤ nv (mkGo (drZ (bodyZ s)) false (bodyZ s)) := by
 have hlen := digZ_len k n.natAbs
 generalize hds : digZ n.natAbs k = ds at *
 have ht := tm_pd s
 unfold fdLe endZ
 rw [hds]
 have hrep : decide (ds = rep1 48 k) = false := decide_eq_false fun q => hn ((rep48 hlen).1 q)
 rw [hrep, Bool.and_false, cond_false]
 cases h9 : hasZ (marksZ s) 99 with
 | false => rw [Bool.not_false, cond_true]; omega
 | true =>
  rw [Bool.not_true, cond_false, marks_eq]
  rcases end_app (mkGo (drZ (bodyZ s)) false (bodyZ s)) (tmZ s) ds 0 with g | ⟨_, _, g, _⟩
  ·omega
  ·rw [marks_eq, pd_app, ht] at hk
   exact absurd (fun x hx => g x (by rw [List.take_of_length_le (by omega)]; exact hx)) hn
theorem mk1_firm {dr : Int} {seen : Bool} {c : Int} (h : hasZ [57, 89, 84, 73, 82] c = true) : mk1 dr seen c = 100 := by
 unfold mk1; rw [h]; rfl
theorem cnt_mem' {l : List Int} {c : Int} (h : 0 < cntZ l c) : c ∈ l := by
 apply Classical.byContradiction
 intro q
 rw [cnt_none q] at h
 omega
theorem hd_dig {ds : List Int} (h : dgL ds = true) {i : Nat} (hi : i < ds.length) : 48 ≤ (ds.drop i).headD 0 ∧ (ds.drop i).headD 0 ≤ 57 := by
 rw [List.drop_eq_getElem_cons hi, List.headD_cons]
 simp only [dgL, List.all_eq_true, decide_eq_true_eq] at h
 exact h _ (List.getElem_mem _)
theorem fm_ne {c d : Int} (hc : c = 84 ∨ c = 73 ∨ c = 82) (hd : 48 ≤ d ∧ d ≤ 57) : fmZ c d false ≠ fmZ c d true := by
 rcases hc with rfl | rfl | rfl <;> rcases dg10 hd with rfl | rfl | rfl | rfl | rfl | rfl | rfl | rfl | rfl | rfl <;> decide
theorem mk1_sign {dr : Int} {seen : Bool} {c : Int} (hc : c = 83 ∨ c = 43 ∨ c = 45) (hne : c ≠ dr) : mk1 dr seen c = 115 := by
 have : (c == dr) = false := beq_eq_false_iff_ne.2 hne
 unfold mk1
 rw [this]
 rcases hc with rfl | rfl | rfl <;> simp [hasZ]
theorem sg_ne {c : Int} (hc : c = 83 ∨ c = 43 ∨ c = 45) : sgZ c false ≠ sgZ c true := by
 rcases hc with rfl | rfl | rfl <;> decide
theorem field_ne {l : List Int} (hl : IsB (pS l) ∧ (pS l).length ≤ 32) (h : pN l = true) (hg : pG l = true) {n : Int} (hn : (n.natAbs : Int) < tenZ (pD l).toNat) (h0 : 0 < n) : fdN l n ≠ fdN l (0 - n) := by
 obtain ⟨_, _, p3, p4, _, p6⟩ := pN_ok hl h n
 obtain ⟨_, _, _, _, _, p7⟩ := pN_ok hl h (0 - n)
 have hp := pD_rng h
 have hS : pS l = exZ l := by rw [pS, if_pos (pN_vOK h)]
 have hnp : NumP (pS l) := by rw [hS]; exact pN_num h
 have hsg : signsZ (pS l) = 1 := by
  simp only [pG, Bool.and_eq_true, beq_iff_eq] at hg
  rw [hS]; exact hg.2
 have hz : ¬ ∀ c ∈ digZ n.natAbs (pD l).toNat, c = 48 := fun q => by have := (dig_zero hn).1 q; omega
 have b1 : fdBl (pS l) (pW l) (pD l).toNat n = false := by
  cases e : fdBl (pS l) (pW l) (pD l).toNat n with
  | false => rfl
  | true => have := fdBl_zero e; omega
 have b2 : fdBl (pS l) (pW l) (pD l).toNat (0 - n) = false := by
  cases e : fdBl (pS l) (pW l) (pD l).toNat (0 - n) with
  | false => rfl
  | true => have := fdBl_zero e; omega
 have ea : (0 - n).natAbs = n.natAbs := by omega
 intro heq
 rw [fdN, fdN, field_fs p6, field_fs p7, b1, b2, fdLe_neg, ea, decide_eq_false (show ¬ n < 0 by omega), decide_eq_true (show 0 - n < 0 by omega), cond_false, cond_false] at heq
 have hk : pdGo (marksZ (pS l)) = (pD l).toNat := by omega
 have hlen := digZ_len (pD l).toNat n.natAbs
 have hdg := digZ_dg (pD l).toNat n.natAbs
 have hld := ld_law (sp := pS l) (w := pW l) (k := (pD l).toNat) (n := n) (by omega)
 have hle := le_body (w := pW l) hk hz
 obtain ⟨f1, f2⟩ := dr_facts hnp
 have hfd : fdDr (pS l) = drZ (bodyZ (pS l)) := by
  by_cases e : drZ (bodyZ (pS l)) = 0
  ·rw [f2 e, e]
  ·exact (f1 e).1
 have hd4 : drZ (bodyZ (pS l)) = 0 ∨ hasZ [36, 83, 43, 45] (drZ (bodyZ (pS l))) = true := (dr_sign _ _).imp id And.left
 obtain ⟨t, ht, ht2⟩ := body_app (pS l)
 have hms := marks_eq (pS l)
 have hml := mk_len (drZ (bodyZ (pS l))) (bodyZ (pS l)) false
 -- a firm digit with a sign
 have caseT : ∀ c, c = 84 ∨ c = 73 ∨ c = 82 → c ∈ bodyZ (pS l) → False := fun c hc hm => by
  obtain ⟨pre, suf, hb⟩ := List.append_of_mem hm
  have hf : hasZ [57, 89, 84, 73, 82] c = true := by rcases hc with rfl | rfl | rfl <;> decide
  have hmm : marksZ (pS l) = mkGo (drZ (bodyZ (pS l))) false pre ++ 100 :: (mkGo (drZ (bodyZ (pS l))) ((false || (drZ (bodyZ (pS l)) != 0 && decide (drZ (bodyZ (pS l)) ∈ pre))) || (drZ (bodyZ (pS l)) != 0 && c == drZ (bodyZ (pS l)))) suf ++ tmZ (pS l)) := by
   rw [hms]
   conv => lhs; arg 1; arg 3; rw [hb]
   rw [mk_app, mkGo, mk1_firm hf, List.append_assoc, List.cons_append]
  have hss : pS l = pre ++ c :: (suf ++ t) := by
   conv => lhs; rw [ht, hb]
   simp
  have hq := cel_eq heq hmm hss (mk_len _ _ _) (by decide)
  rw [hmm] at hld
  have hno : ¬ ((0 : Int) + nv (mkGo (drZ (bodyZ (pS l))) false pre) < fdLe (pS l) (pW l) (pD l).toNat n) := fun q => (ld_at hld q).1 rfl
  have es : ∀ d : Int, (d != 0 && ((nv (mkGo (drZ (bodyZ (pS l))) false pre) : Int) == fdLe (pS l) (pW l) (pD l).toNat n - 1)) = false := fun d => by
   have : ((nv (mkGo (drZ (bodyZ (pS l))) false pre) : Int) == fdLe (pS l) (pW l) (pD l).toNat n - 1) = false := beq_eq_false_iff_ne.2 (by omega)
   rw [this, Bool.and_false]
  rw [celZ, celZ, es, cond_false, cond_false] at hq
  have hpd := congrArg pdGo hmm
  rw [pd_app, pd_cons] at hpd
  have h1 := pd_nn (mkGo (drZ (bodyZ (pS l))) false pre)
  have h2 := pd_nn (mkGo (drZ (bodyZ (pS l))) ((false || (drZ (bodyZ (pS l)) != 0 && decide (drZ (bodyZ (pS l)) ∈ pre))) || (drZ (bodyZ (pS l)) != 0 && c == drZ (bodyZ (pS l)))) suf ++ tmZ (pS l))
  have i100 : isP 100 = true := rfl
  rw [i100, if_pos rfl] at hpd
  exact fm_ne hc (hd_dig hdg (by omega)) hq
 -- a sign
 have caseS : ∀ c, c = 83 ∨ c = 43 ∨ c = 45 → c ∈ bodyZ (pS l) → False := fun c hc hm => by
  by_cases hcd : c = drZ (bodyZ (pS l))
  ·have hd0 : fdDr (pS l) ≠ 0 := by rw [hfd, ← hcd]; omega
   have e2 : (fdDr (pS l) == 0) = false := beq_eq_false_iff_ne.2 hd0
   unfold fdOK at p6
   rw [b1, Bool.false_or, e2, Bool.false_or, decide_eq_true_eq, fdOut, fd_len] at p6
   rw [fs_set hd0 _ _ _ _ (by omega) (by omega), fs_set hd0 _ _ _ _ (by omega) (by omega)] at heq
   have := congrArg (fun x : List Int => x[(fdLe (pS l) (pW l) (pD l).toNat n - 1 - 0).toNat]?) heq
   rw [List.getElem?_set_self (by rw [fd_len]; omega), List.getElem?_set_self (by rw [fd_len]; omega), hfd, ← hcd] at this
   exact sg_ne hc (Option.some.inj this)
  ·obtain ⟨pre, suf, hb⟩ := List.append_of_mem hm
   have hmm : marksZ (pS l) = mkGo (drZ (bodyZ (pS l))) false pre ++ 115 :: (mkGo (drZ (bodyZ (pS l))) ((false || (drZ (bodyZ (pS l)) != 0 && decide (drZ (bodyZ (pS l)) ∈ pre))) || (drZ (bodyZ (pS l)) != 0 && c == drZ (bodyZ (pS l)))) suf ++ tmZ (pS l)) := by
    rw [hms]
    conv => lhs; arg 1; arg 3; rw [hb]
    rw [mk_app, mkGo, mk1_sign hc hcd, List.append_assoc, List.cons_append]
   have hss : pS l = pre ++ c :: (suf ++ t) := by
    conv => lhs; rw [ht, hb]
    simp
   have hq := cel_eq heq hmm hss (mk_len _ _ _) (by decide)
   have es : (fdDr (pS l) != 0 && ((nv (mkGo (drZ (bodyZ (pS l))) false pre) : Int) == fdLe (pS l) (pW l) (pD l).toNat n - 1)) = false := by
    by_cases e0 : drZ (bodyZ (pS l)) = 0
    ·rw [hfd, e0]; rfl
    ·have := still_ne hnp (w := pW l) hk hz hb (by omega) e0 hcd
     have : ((nv (mkGo (drZ (bodyZ (pS l))) false pre) : Int) == fdLe (pS l) (pW l) (pD l).toNat n - 1) = false := beq_eq_false_iff_ne.2 (by omega)
     rw [this, Bool.and_false]
   rw [celZ, celZ, es, cond_false, cond_false] at hq
   have hss2 : ∀ m, cel0 (fdLe (pS l) (pW l) (pD l).toNat n) (fdFl (pS l)) (fdDr (pS l)) m 115 c (((digZ n.natAbs (pD l).toNat).drop (pdGo (mkGo (drZ (bodyZ (pS l))) false pre)).toNat).headD 0) (nv (mkGo (drZ (bodyZ (pS l))) false pre)) = sgZ c m := fun m => by
    show ssZ c (fdDr (pS l)) m = sgZ c m
    have e1 : (c == fdDr (pS l)) = false := beq_eq_false_iff_ne.2 (by rw [hfd]; exact hcd)
    have e2 : hasZ [67, 82, 68, 66] c = false := by rcases hc with rfl | rfl | rfl <;> decide
    rw [ssZ, e1, e2, Bool.and_false]
    rfl
   rw [hss2, hss2] at hq
   exact sg_ne hc hq
 unfold signsZ at hsg
 cases hcr : crZ (pS l) with
 | true =>
  have ht3 : t = [67, 82] ∨ t = [68, 66] := by
   rcases ht2 with ⟨_, q⟩ | ⟨q, _⟩
   ·rw [hcr] at q; cases q
   ·exact q
  obtain ⟨c, c2, rfl, hcc⟩ : ∃ c c2, t = [c, c2] ∧ (c = 67 ∨ c = 68) := by
   rcases ht3 with rfl | rfl
   ·exact ⟨_, _, rfl, .inl rfl⟩
   ·exact ⟨_, _, rfl, .inr rfl⟩
  have htm : tmZ (pS l) = [115, 115] := by unfold tmZ; rw [if_pos hcr]
  rw [htm] at hms
  have hq := cel_eq heq hms ht hml (by decide)
  have es : (fdDr (pS l) != 0 && ((nv (mkGo (drZ (bodyZ (pS l))) false (bodyZ (pS l))) : Int) == fdLe (pS l) (pW l) (pD l).toNat n - 1)) = false := by
   have : ((nv (mkGo (drZ (bodyZ (pS l))) false (bodyZ (pS l))) : Int) == fdLe (pS l) (pW l) (pD l).toNat n - 1) = false := beq_eq_false_iff_ne.2 (by omega)
   rw [this, Bool.and_false]
  rw [celZ, celZ, es, cond_false, cond_false] at hq
  have hss2 : ∀ m, cel0 (fdLe (pS l) (pW l) (pD l).toNat n) (fdFl (pS l)) (fdDr (pS l)) m 115 c (((digZ n.natAbs (pD l).toNat).drop (pdGo (mkGo (drZ (bodyZ (pS l))) false (bodyZ (pS l)))).toNat).headD 0) (nv (mkGo (drZ (bodyZ (pS l))) false (bodyZ (pS l)))) = bif m then c else 32 := fun m => by
   show ssZ c (fdDr (pS l)) m = _
   have e1 : (c == fdDr (pS l)) = false := by
    apply beq_eq_false_iff_ne.2
    rw [hfd]
    intro q
    rw [← q] at hd4
    rcases hcc with rfl | rfl <;> rcases hd4 with e | e <;> exact absurd e (by decide)
   have e2 : hasZ [67, 82, 68, 66] c = true := by rcases hcc with rfl | rfl <;> decide
   rw [ssZ, e1, e2, Bool.and_false]
   rfl
  rw [hss2, hss2] at hq
  rcases hcc with rfl | rfl <;> exact absurd hq (by decide)
 | false =>
  rw [hcr] at hsg
  have e0 : b2i false = 0 := rfl
  have e1 : b2i true = 1 := rfl
  rw [e0] at hsg
  cases h83 : hasZ (bodyZ (pS l)) 83 with
  | true => exact caseS 83 (by omega) (hasZ_iff.1 h83)
  | false =>
   cases h43 : hasZ (bodyZ (pS l)) 43 with
   | true => exact caseS 43 (by omega) (hasZ_iff.1 h43)
   | false =>
    cases h45 : hasZ (bodyZ (pS l)) 45 with
    | true => exact caseS 45 (by omega) (hasZ_iff.1 h45)
    | false =>
     rw [h83, h43, h45, e0] at hsg
     by_cases c84 : 0 < cntZ (bodyZ (pS l)) 84
     ·exact caseT 84 (by omega) (cnt_mem' c84)
     ·by_cases c73 : 0 < cntZ (bodyZ (pS l)) 73
      ·exact caseT 73 (by omega) (cnt_mem' c73)
      ·exact caseT 82 (by omega) (cnt_mem' (by omega))
theorem rd_back {l : List Int} (hl : IsB (pS l) ∧ (pS l).length ≤ 32) (h : pN l = true) {n : Int} (hn : (n.natAbs : Int) < tenZ (pD l).toNat) (hg : n < 0 → pG l = true) : rdV l (fdN l n) = (n, 0) := by
 have hlen : ((fdN l n).length : Int) = pW l := by
  obtain ⟨_, _, p3, p4, _, p6⟩ := pN_ok hl h n
  rw [fdN, field_fs p6]
  cases fdBl (pS l) (pW l) (pD l).toNat n with
  | true => simp [rep1]; omega
  | false => rw [cond_false, fs_len, pN_nv h]
 rw [rdV, if_pos h, if_pos hlen, rdA_field hl h hn]
 by_cases h0 : 0 ≤ n
 ·have : (n.natAbs : Int) = n := by omega
  rw [this, if_pos rfl]
 ·have e : (n.natAbs : Int) = 0 - n := by omega
  have hne := field_ne hl h (hg (by omega)) (n := 0 - n) (by omega) (by omega)
  have e2 : 0 - (0 - n) = n := by omega
  rw [e2] at hne
  rw [e, if_neg hne, e2, if_pos ⟨hg (by omega), by omega, rfl⟩]
theorem fdN_len {l : List Int} (hl : IsB (pS l) ∧ (pS l).length ≤ 32) (h : pN l = true) (n : Int) : ((fdN l n).length : Int) = pW l := by
 obtain ⟨_, _, p3, p4, _, p6⟩ := pN_ok hl h n
 rw [fdN, field_fs p6]
 cases fdBl (pS l) (pW l) (pD l).toNat n with
 | true => simp [rep1]; omega
 | false => rw [cond_false, fs_len, pN_nv h]
end Go.Px
end
noncomputable section
set_option maxHeartbeats 3200000
namespace Go.Px
open Go Go.Ab Go.Proofs Go.Shelf
def L19 : Env := (((((((Env.nil.add 20 (sp3 s20)).add 22 (sp2 s22)).add 24 (sp2 s24)).add 31 (sp1 s31)).add 33 (sp1 s33)).add 35 (sp1 s35)).add 44 (sp1 s44))
theorem ok_L19 : EnvOK Tryz.prog L19 := env_add (env_add (env_add (env_add (env_add (env_add (env_add (env_nil) ok20) ok22) ok24) ok31) ok33) ok35) ok44
def s19 : Bool × Value := (true, .bool true)
theorem fn19 : Fn1 Tryz.prog 19 Tryz.f19 := ⟨Tryz.func19, by kernel_rfl, by kernel_rfl, by kernel_rfl⟩
theorem v19  (R : Value → Prop) : bodyQ Tryz.prog L19 noL Tryz.f19 [] (fun _ => none) 0 (fun v _ _ => R v) = ( R (.bool (Prod.snd (rdV (bz (ByteArray.mk #[83, 57, 57])) (bz (ByteArray.mk #[45, 48, 48]))) == 31 && (pN (bz (ByteArray.mk #[90, 86, 57])) && (!pN (bz (ByteArray.mk #[65, 88])) && (hoZ (bz (ByteArray.mk #[65, 57])) (bz (ByteArray.mk #[120, 32])) && pE (bz (ByteArray.mk #[57, 90])) == 30)))))) := by kernel_rfl
theorem ok19 : PureOK Tryz.prog 19 (sp0 s19) := by
 refine qure0 ok_L19 hmix fn19 lokf_none fun hc => ?_
 rw [DoesQ, v19]
 try dsimp only [s19]
 have e : ∀ b : Bool, b = true → Value.bool b = Value.bool true := fun b h => by rw [h]
 exact e _ (by kernel_rfl)
def L3 : Env := (((Env.nil.add 19 (sp0 s19)).add 20 (sp3 s20)).add 21 (sp3 s21))
def s3 (s : ByteArray) (n : Int) (q : Int) : Bool × Value := (decide (s.size ≤ 9223372036854775807 ∧ -9223372036854775808 ≤ n ∧ n ≤ 9223372036854775807), .bool true)
theorem v3 (s : ByteArray) (n : Int) (q : Int) (R : Value → Prop) : bodyQ Tryz.prog L3 noL Tryz.f3 [Enc.enc s, Enc.enc n, Enc.enc q] (fun _ => none) 0 (fun v _ _ => R v) = ( bif decide (ByteArray.size s ≤ 9223372036854775807 ∧ -9223372036854775808 ≤ n ∧ n ≤ 9223372036854775807) then bif decide (ByteArray.size s ≤ 9223372036854775807 ∧ -9223372036854775808 ≤ n ∧ n ≤ 9223372036854775807) then bif bif ByteArray.toList (sz (edS (bz s) n q)) == ByteArray.toList (sz (edS (bz s) n q)) then edF (bz s) n q == edF (bz s) n q || true else true then R (.bool (ByteArray.toList (sz (edS (bz s) n q)) == ByteArray.toList (sz (edS (bz s) n q)) && (edF (bz s) n q == edF (bz s) n q && edE (bz s) q == edE (bz s) q))) else False else False else False) := by kernel_rfl
def L4 : Env := (((((Env.nil.add 19 (sp0 s19)).add 22 (sp2 s22)).add 23 (sp2 s23)).add 24 (sp2 s24)).add 25 (sp2 s25))
def s4 (s : ByteArray) (t : ByteArray) : Bool × Value := (decide (s.size ≤ 9223372036854775807 ∧ t.size ≤ 9223372036854775807), .bool true)
end Go.Px
end
noncomputable section
set_option maxHeartbeats 3200000
namespace Go.Px
open Go Go.Ab Go.Proofs Go.Shelf
def L32 : Env := ((((Env.nil.add 60 (sp1 s60)).add 52 (sp1 s52)).add 96 (sp1 s96)).add 85 (sp2 s85))
theorem ok_L32 : EnvOK Tryz.prog L32 := env_add (env_add (env_add (env_add (env_nil) ok60) ok52) ok96) ok85
def wiZ (l : List Int) (n : Int) : Int := if n.tmod (raH l + 1) < raL l then 0 - n.tmod (raH l + 1) else n.tmod (raH l + 1)
theorem raH_rng (l : List Int) : 0 ≤ raH l ∧ raH l < 1000000000 := by
 unfold raH
 split
 ·rename_i h
  have hp := pD_rng h
  have h1 := tenZ_pos (pD l).toNat
  have h2 : tenZ (pD l).toNat ≤ 1000000000 := tenZ_le9 (by omega)
  omega
 ·omega
theorem tmod_rng (n : Int) {m : Int} (h : 0 < m) : -m < n.tmod m ∧ n.tmod m < m := by
 have h1 := Int.natAbs_tmod n m
 have h2 : n.natAbs % m.natAbs < m.natAbs := Nat.mod_lt _ (by omega)
 omega
def s32 (s : ByteArray) (n : Int) : Bool × Value := (decide (s.size ≤ 9223372036854775807), .int .i64 (wiZ (bz s) n))
theorem fn32 : Fn1 Tryz.prog 32 Tryz.f32 := ⟨Tryz.func32, by kernel_rfl, by kernel_rfl, by kernel_rfl⟩
theorem v32 (s : ByteArray) (n : Int) (R : Value → Prop) : bodyQ Tryz.prog L32 noL Tryz.f32 [Enc.enc s, Enc.enc n] (fun _ => none) 0 (fun v _ _ => R v) = ( bif decide (ByteArray.size s ≤ 9223372036854775807) then bif decide (IntKind.wrap .i64 (raH (bz s) + 1) ≠ 0) then bif decide (Int.tmod n (IntKind.wrap .i64 (raH (bz s) + 1)) < raL (bz s)) then R (.int .i64 (IntKind.wrap .i64 (0 - Int.tmod n (IntKind.wrap .i64 (raH (bz s) + 1))))) else R (.int .i64 (Int.tmod n (IntKind.wrap .i64 (raH (bz s) + 1)))) else False else False) := by kernel_rfl
theorem ok32 : PureOK Tryz.prog 32 (sp2 s32) := by
 refine qure2 ok_L32 hmix fn32 lokf_none (Nat.le_of_ble_eq_true (by kernel_rfl)) fun s n hc => ?_
 rw [DoesQ, v32]
 have hc : (s.size ≤ 9223372036854775807) := of_decide_eq_true hc
 try dsimp only [s32]
 have hr := raH_rng (bz s)
 have e1 : IntKind.wrap IntKind.i64 (raH (bz s) + 1) = raH (bz s) + 1 := w64 (by omega)
 have ht := tmod_rng n (m := raH (bz s) + 1) (by omega)
 rw [e1, wiZ, w64 (n := 0 - n.tmod (raH (bz s) + 1)) (by omega)]
 refine c_t (decide_eq_true hc) (c_t (decide_eq_true (by omega)) (cond_intro (fun h => ?_) (fun h => ?_)))
 ·rw [if_pos (of_decide_eq_true h)]
 ·rw [if_neg (of_decide_eq_false h)]
def s39 (c : U8) : Bool × Value := (true, .bool (isDig c.n))
theorem fn39 : Fn1 Tryz.prog 39 Tryz.f39 := ⟨Tryz.func39, by kernel_rfl, by kernel_rfl, by kernel_rfl⟩
theorem v39 (c : U8) (R : Value → Prop) : bodyQ Tryz.prog L32 noL Tryz.f39 [Enc.enc c] (fun _ => none) 0 (fun v _ _ => R v) = ( bif decide (U8.n c ≥ 48) || true then R (.bool (decide (U8.n c ≥ 48) && decide (U8.n c ≤ 57))) else False) := by kernel_rfl
theorem ok39 : PureOK Tryz.prog 39 (sp1 s39) := by
 refine qure1 ok_L32 hmix fn39 lokf_none (Nat.le_of_ble_eq_true (by kernel_rfl)) fun c hc => ?_
 rw [DoesQ, v39]
 try dsimp only [s39]
 refine c_t (by simp) ?_
 rw [isDig, Bool.decide_and]
def ctN (n q c : Int) : Int × Bool :=
 if q ≥ c then (n.tdiv (tenZ (q - c).toNat), decide (-1000000000 < n.tdiv (tenZ (q - c).toNat) ∧ n.tdiv (tenZ (q - c).toNat) < 1000000000))
 else if n ≥ 1000000000 ∨ n ≤ -1000000000 then (0, false) else (n * tenZ (c - q).toNat, decide (-1000000000 < n * tenZ (c - q).toNat ∧ n * tenZ (c - q).toNat < 1000000000))
theorem tdiv_rng (n : Int) {m : Int} (h : 0 < m) : ((n.tdiv m).natAbs ≤ n.natAbs ∧ (n < 0 → n.tdiv m ≤ 0)) := by
 constructor
 ·rw [Int.natAbs_tdiv]
  exact Nat.div_le_self _ _
 ·intro hn
  have : (-(-n)).tdiv m = -((-n).tdiv m) := Int.neg_tdiv _ _
  rw [Int.neg_neg] at this
  have h2 := Int.tdiv_nonneg (show 0 ≤ -n by omega) (show 0 ≤ m by omega)
  omega
def s51 (n : Int) (q : Int) (c : Int) : Bool × Value := (decide (0 ≤ q ∧ q ≤ 9 ∧ 0 ≤ c ∧ c ≤ 9 ∧ -9223372036854775808 ≤ n ∧ n ≤ 9223372036854775807), .tuple ⟨[.int .i64 (ctN n q c).1, .bool (ctN n q c).2]⟩)
theorem fn51 : Fn1 Tryz.prog 51 Tryz.f51 := ⟨Tryz.func51, by kernel_rfl, by kernel_rfl, by kernel_rfl⟩
theorem v51 (n : Int) (q : Int) (c : Int) (R : Value → Prop) : bodyQ Tryz.prog L32 noL Tryz.f51 [Enc.enc n, Enc.enc q, Enc.enc c] (fun _ => none) 0 (fun v _ _ => R v) = ( bif decide (q ≥ c) then bif decide (0 ≤ IntKind.wrap .i64 (q - c) ∧ IntKind.wrap .i64 (q - c) ≤ 18) then bif decide (tenZ (Int.toNat (IntKind.wrap .i64 (q - c))) ≠ 0) then bif decide (IntKind.wrap .i64 (Int.tdiv n (tenZ (Int.toNat (IntKind.wrap .i64 (q - c))))) < 1000000000) || true then R (.tuple (.mk [.int .i64 (bif decide (IntKind.wrap .i64 (Int.tdiv n (tenZ (Int.toNat (IntKind.wrap .i64 (q - c))))) < 1000000000) then IntKind.wrap .i64 (Int.tdiv n (tenZ (Int.toNat (IntKind.wrap .i64 (q - c))))) else IntKind.wrap .i64 (Int.tdiv n (tenZ (Int.toNat (IntKind.wrap .i64 (q - c)))))), .bool (decide (IntKind.wrap .i64 (Int.tdiv n (tenZ (Int.toNat (IntKind.wrap .i64 (q - c))))) < 1000000000) && decide (IntKind.wrap .i64 (Int.tdiv n (tenZ (Int.toNat (IntKind.wrap .i64 (q - c))))) > -1000000000))])) else False else False else False else bif decide (n ≥ 1000000000) || true then bif decide (n ≥ 1000000000) || decide (n ≤ -1000000000) then R (.tuple (.mk [.int .i64 0, .bool false])) else bif decide (0 ≤ IntKind.wrap .i64 (c - q) ∧ IntKind.wrap .i64 (c - q) ≤ 18) then bif decide (IntKind.wrap .i64 (n * tenZ (Int.toNat (IntKind.wrap .i64 (c - q)))) < 1000000000) || true then R (.tuple (.mk [.int .i64 (bif decide (IntKind.wrap .i64 (n * tenZ (Int.toNat (IntKind.wrap .i64 (c - q)))) < 1000000000) then IntKind.wrap .i64 (n * tenZ (Int.toNat (IntKind.wrap .i64 (c - q)))) else IntKind.wrap .i64 (n * tenZ (Int.toNat (IntKind.wrap .i64 (c - q))))), .bool (decide (IntKind.wrap .i64 (n * tenZ (Int.toNat (IntKind.wrap .i64 (c - q)))) < 1000000000) && decide (IntKind.wrap .i64 (n * tenZ (Int.toNat (IntKind.wrap .i64 (c - q)))) > -1000000000))])) else False else False else False) := by kernel_rfl
theorem ok51 : PureOK Tryz.prog 51 (sp3 s51) := by
 refine qure3 ok_L32 hmix fn51 lokf_none (Nat.le_of_ble_eq_true (by kernel_rfl)) fun n q c hc => ?_
 rw [DoesQ, v51]
 have hc : (0 ≤ q ∧ q ≤ 9 ∧ 0 ≤ c ∧ c ≤ 9 ∧ -9223372036854775808 ≤ n ∧ n ≤ 9223372036854775807) := of_decide_eq_true hc
 try dsimp only [s51]
 rw [ctN]
 refine cond_intro (fun h => ?_) (fun h => ?_)
 ·have h := of_decide_eq_true h
  rw [w64 (n := q - c) (by omega), if_pos h]
  have hp := tenZ_pos (q - c).toNat
  have hd := tdiv_rng n hp
  rw [w64 (n := n.tdiv (tenZ (q - c).toNat)) (by omega)]
  refine c_t (decide_eq_true (by omega)) (c_t (decide_eq_true (by omega)) (c_t (by simp) ?_))
  rw [Bool.decide_and, Bool.and_comm]
  cases decide (n.tdiv (tenZ (q - c).toNat) < 1000000000) <;> rfl
 ·have h := of_decide_eq_false h
  rw [if_neg h]
  refine c_t (by simp) (cond_intro (fun h2 => ?_) (fun h2 => ?_))
  ·rw [if_pos (by simpa using h2)]
  ·have h3 : ¬ (n ≥ 1000000000 ∨ n ≤ -1000000000) := by
    simp only [Bool.or_eq_false_iff, decide_eq_false_iff_not] at h2
    omega
   rw [w64 (n := c - q) (by omega), if_neg h3]
   have hp := tenZ_pos (c - q).toNat
   have ht : tenZ (c - q).toNat ≤ 1000000000 := tenZ_le9 (by omega)
   have hb : -1000000000000000000 ≤ n * tenZ (c - q).toNat ∧ n * tenZ (c - q).toNat ≤ 1000000000000000000 := by
    generalize tenZ (c - q).toNat = t at *
    have g1 : n * t ≤ 1000000000 * t := Int.mul_le_mul_of_nonneg_right (by omega) (by omega)
    have g2 : -1000000000 * t ≤ n * t := Int.mul_le_mul_of_nonneg_right (by omega) (by omega)
    omega
   rw [w64 (n := n * tenZ (c - q).toNat) (by omega)]
   refine c_t (decide_eq_true (by omega)) (c_t (by simp) ?_)
   rw [Bool.decide_and, Bool.and_comm]
   cases decide (n * tenZ (c - q).toNat < 1000000000) <;> rfl
end Go.Px
end
noncomputable section
namespace Go.Px
open Go Go.Ab Go.Proofs
theorem pe_pn (l : List Int) : (pE l != 0 || !pN l) = !pN l := by
 rw [pE_ne]
 cases h : pN l with
 | true => rw [pN_vOK h]; rfl
 | false => simp
theorem wi_rng {l : List Int} (h : pN l = true) (n : Int) : ((wiZ l n).natAbs : Int) < tenZ (pD l).toNat ∧ (wiZ l n < 0 → pG l = true) := by
 have hr : raH l = tenZ (pD l).toNat - 1 := by rw [raH, if_pos h]
 have hp := tenZ_pos (pD l).toNat
 have ht := tmod_rng n (m := raH l + 1) (by omega)
 have hL : raL l = if pG l = true then 0 - (tenZ (pD l).toNat - 1) else 0 := rfl
 unfold wiZ
 cases hg : pG l with
 | true =>
  rw [hg, if_pos rfl] at hL
  rw [if_neg (by omega)]
  exact ⟨by omega, fun _ => rfl⟩
 | false =>
  rw [hg, if_neg (by decide)] at hL
  split
  ·exact ⟨by omega, fun q => by omega⟩
  ·exact ⟨by omega, fun q => by omega⟩
theorem wi_64 (l : List Int) (n : Int) : -9223372036854775808 ≤ wiZ l n ∧ wiZ l n ≤ 9223372036854775807 := by
 have hr := raH_rng l
 have ht := tmod_rng n (m := raH l + 1) (by omega)
 unfold wiZ
 split <;> omega
theorem cuM_same (n q : Int) : cuM n q q = n.natAbs := by
 rw [cuM, if_pos (by omega), Int.sub_self]
 exact Int.ediv_one _
theorem cu_in {l : List Int} {n : Int} (hn : (n.natAbs : Int) < tenZ (pD l).toNat) (hg : n < 0 → pG l = true) : cuN n (pQ l) (pQ l) (pD l) (pG l) = n ∧ cuF n (pQ l) (pQ l) (pD l) (pG l) = true := by
 have e : cuV n (pQ l) (pQ l) (pD l) = n.natAbs := by rw [cuV, cuM_same, Int.emod_eq_of_lt (by omega) hn]
 constructor
 ·rw [cuN, e]
  by_cases h0 : n < 0
  ·rw [if_pos ⟨h0, hg h0⟩]; omega
  ·rw [if_neg (fun q => h0 q.1)]; omega
 ·rw [cuF, cuM_same, decide_eq_true hn, Bool.true_and]
  by_cases h0 : n < 0
  ·rw [hg h0]; simp
  ·rw [decide_eq_true (show n ≥ 0 by omega)]; rfl
theorem ed_in {l : List Int} (h : pN l = true) {n : Int} (hn : (n.natAbs : Int) < tenZ (pD l).toNat) (hg : n < 0 → pG l = true) : edS l n (pQ l) = fdN l n ∧ edF l n (pQ l) = true ∧ edE l (pQ l) = 0 := by
 have hp := pD_rng h
 have hq : 0 ≤ pQ l ∧ pQ l ≤ 9 := by omega
 obtain ⟨e1, e2⟩ := cu_in hn hg
 rw [edS, edF, edE, if_pos ⟨h, hq⟩, if_pos ⟨h, hq⟩, if_pos h, if_pos hq, e1, e2]
 exact ⟨rfl, rfl, rfl⟩
theorem ho_rd {l t : List Int} (h : pN l = true) : hoZ l t = decide ((rdV l t).2 = 0) := by
 rw [hoZ, if_pos (pN_vOK h), if_pos h]
theorem ho_not {l t : List Int} (h : pN l = true) (q : (rdV l t).2 ≠ 0) : hoZ l t = false := by
 rw [ho_rd h]; exact decide_eq_false q
theorem rd_val {s t : ByteArray} (h : pN (bz s) = true) : ((rdV (bz s) (bz t)).1.natAbs : Int) < tenZ (pD (bz s)).toNat ∧ ((rdV (bz s) (bz t)).1 < 0 → pG (bz s) = true) ∧ ((rdV (bz s) (bz t)).2 = 0 → fdN (bz s) (rdV (bz s) (bz t)).1 = bz t) := by
 obtain ⟨_, u2, u3, _⟩ := gs_use (t := t) h
 have hp := tenZ_pos (pD (bz s)).toNat
 rw [rdV, if_pos h]
 split
 ·split
  ·rename_i h1
   exact ⟨by dsimp only; omega, fun q => by dsimp only at q; omega, fun _ => h1⟩
  ·split
   ·rename_i h1
    exact ⟨by dsimp only; omega, fun _ => h1.1, fun _ => h1.2.2⟩
   ·exact ⟨by dsimp only; omega, fun q => by dsimp only at q; omega, fun q => by cases q⟩
 ·exact ⟨by dsimp only; omega, fun q => by dsimp only at q; omega, fun q => by cases q⟩
theorem fdN_isB {s : ByteArray} (n : Int) : IsB (fdN (bz s) n) := field_isB (pS_len s).1 _ _ _
theorem bz_fdN (s : ByteArray) (n : Int) : bz (sz (fdN (bz s) n)) = fdN (bz s) n := bz_sz (fdN_isB n)
theorem size_fdN {s : ByteArray} (h : pN (bz s) = true) (n : Int) : ((sz (fdN (bz s) n)).size : Int) = pW (bz s) := by
 rw [sz_size, fdN_len (pS_len s) h n]
theorem ten_9 {l : List Int} (h : pN l = true) : tenZ (pD l).toNat ≤ 1000000000 := by
 have hp := pD_rng h
 exact tenZ_le9 (by omega)
end Go.Px
end
noncomputable section
namespace Go.Px
open Go Go.Ab Go.Proofs
theorem ct_law {n q c : Int} (hn : -9223372036854775808 ≤ n ∧ n ≤ 9223372036854775807) (hq : 0 ≤ q ∧ q ≤ 9) (hc : 0 ≤ c ∧ c ≤ 9) :
  ((ctN n q c).2 = true → ((ctN n q c).1.natAbs : Int) = cuM n q c ∧ (0 ≤ n → 0 ≤ (ctN n q c).1) ∧ (n ≤ 0 → (ctN n q c).1 ≤ 0) ∧ cuM n q c < 1000000000) ∧
  ((ctN n q c).2 = false → 1000000000 ≤ cuM n q c) := by
 unfold ctN cuM
 by_cases h : q ≥ c
 ·rw [if_pos h, if_pos h]
  have hp := tenZ_pos (q - c).toNat
  have e1 : ((n.tdiv (tenZ (q - c).toNat)).natAbs : Int) = n.natAbs / tenZ (q - c).toNat := by
   have e0 : (n.tdiv (tenZ (q - c).toNat)).natAbs = n.natAbs / (tenZ (q - c).toNat).natAbs := Int.natAbs_tdiv _ _
   rw [e0, Int.natCast_ediv, Int.natAbs_of_nonneg (a := tenZ (q - c).toNat) (by omega)]
  have e2 : 0 ≤ n → 0 ≤ n.tdiv (tenZ (q - c).toNat) := fun g => Int.tdiv_nonneg g (by omega)
  have e3 : n ≤ 0 → n.tdiv (tenZ (q - c).toNat) ≤ 0 := fun g => by
   by_cases g0 : n = 0
   ·subst g0; simp
   ·exact (tdiv_rng n hp).2 (by omega)
  dsimp only
  generalize n.tdiv (tenZ (q - c).toNat) = x at *
  constructor
  ·intro g
   have g := of_decide_eq_true g
   exact ⟨e1, e2, e3, by omega⟩
  ·intro g
   have g := of_decide_eq_false g
   omega
 ·rw [if_neg h, if_neg h]
  have hp := tenZ_pos (c - q).toNat
  have h10 : 10 ≤ tenZ (c - q).toNat := by
   have := tenZ_mono (a := 1) (b := (c - q).toNat) (by omega)
   exact this
  by_cases g : n ≥ 1000000000 ∨ n ≤ -1000000000
  ·rw [if_pos g]
   refine ⟨fun q => (by cases q), fun _ => ?_⟩
   have : (1000000000 : Int) * 1 ≤ n.natAbs * tenZ (c - q).toNat := Int.mul_le_mul (by omega) (by omega) (by omega) (by omega)
   omega
  ·rw [if_neg g]
   have e1 : ((n * tenZ (c - q).toNat).natAbs : Int) = n.natAbs * tenZ (c - q).toNat := by
    rw [Int.natAbs_mul, Int.natCast_mul, Int.natAbs_of_nonneg (a := tenZ (c - q).toNat) (by omega)]
   have e2 : 0 ≤ n → 0 ≤ n * tenZ (c - q).toNat := fun g => Int.mul_nonneg g (by omega)
   have e3 : n ≤ 0 → n * tenZ (c - q).toNat ≤ 0 := fun g => Int.mul_nonpos_of_nonpos_of_nonneg g (by omega)
   dsimp only
   generalize n * tenZ (c - q).toNat = x at *
   generalize (n.natAbs : Int) * tenZ (c - q).toNat = y at *
   constructor
   ·intro g
    have g := of_decide_eq_true g
    exact ⟨e1, e2, e3, by omega⟩
   ·intro g
    have g := of_decide_eq_false g
    omega
theorem cu_rng {l : List Int} (n q : Int) : ((cuN n q (pQ l) (pD l) (pG l)).natAbs : Int) = cuM n q (pQ l) % tenZ (pD l).toNat ∧ ((cuN n q (pQ l) (pD l) (pG l)).natAbs : Int) < tenZ (pD l).toNat ∧ (cuN n q (pQ l) (pD l) (pG l) < 0 → pG l = true ∧ n < 0) := by
 have hp := tenZ_pos (pD l).toNat
 have h1 := Int.emod_nonneg (cuM n q (pQ l)) (b := tenZ (pD l).toNat) (by omega)
 have h2 := Int.emod_lt_of_pos (cuM n q (pQ l)) hp
 unfold cuN cuV
 split
 ·rename_i h
  exact ⟨by omega, by omega, fun _ => ⟨h.2, h.1⟩⟩
 ·exact ⟨by omega, by omega, fun q => by omega⟩
theorem fit_iff {l : List Int} (h : pN l = true) {n q : Int} (hn : -9223372036854775808 ≤ n ∧ n ≤ 9223372036854775807) (hq : 0 ≤ q ∧ q ≤ 9) :
  cuF n q (pQ l) (pD l) (pG l) = ((ctN n q (pQ l)).2 && (decide ((ctN n q (pQ l)).1 ≥ raL l) && decide ((ctN n q (pQ l)).1 ≤ raH l))) ∧
  (cuF n q (pQ l) (pD l) (pG l) = true → cuN n q (pQ l) (pD l) (pG l) = (ctN n q (pQ l)).1) := by
 have hp := pD_rng h
 obtain ⟨c1, c2⟩ := ct_law hn hq (c := pQ l) (by omega)
 have h9 := ten_9 h
 have hr : raH l = tenZ (pD l).toNat - 1 := by rw [raH, if_pos h]
 have hL : raL l = if pG l = true then 0 - (tenZ (pD l).toNat - 1) else 0 := rfl
 have hM := cuM_nn n q (pQ l)
 unfold cuF cuN cuV
 generalize (ctN n q (pQ l)).1 = x at *
 generalize (ctN n q (pQ l)).2 = sm at *
 generalize cuM n q (pQ l) = M at *
 generalize tenZ (pD l).toNat = T at *
 cases sm with
 | false =>
  have := c2 rfl
  rw [decide_eq_false (show ¬ M < T by omega)]
  exact ⟨rfl, fun q => by cases q⟩
 | true =>
  obtain ⟨d1, d2, d3, d4⟩ := c1 rfl
  rw [Bool.true_and]
  by_cases hlt : M < T
  ·rw [decide_eq_true hlt, Bool.true_and, Int.emod_eq_of_lt hM hlt]
   cases hg : pG l with
   | true =>
    rw [hg, if_pos rfl] at hL
    rw [decide_eq_true (show x ≥ raL l by omega), decide_eq_true (show x ≤ raH l by omega)]
    refine ⟨by simp, fun _ => ?_⟩
    by_cases h0 : n < 0
    ·rw [if_pos ⟨h0, rfl⟩]; omega
    ·rw [if_neg (fun q => h0 q.1)]; omega
   | false =>
    rw [hg, if_neg (by decide)] at hL
    rw [decide_eq_true (show x ≤ raH l by omega), if_neg (fun q => by cases q.2), Bool.and_true, Bool.false_or]
    by_cases h0 : n ≥ 0
    ·rw [decide_eq_true h0, decide_eq_true (show x ≥ raL l by omega)]
     exact ⟨rfl, fun _ => by omega⟩
    ·rw [decide_eq_false h0, Bool.false_or]
     by_cases m0 : M = 0
     ·rw [m0, decide_eq_true (show x ≥ raL l by omega)]
      exact ⟨rfl, fun _ => by omega⟩
     ·rw [beq_eq_false_iff_ne.2 m0, decide_eq_false (show ¬ x ≥ raL l by omega)]
      exact ⟨rfl, fun q => by cases q⟩
  ·rw [decide_eq_false hlt, Bool.false_and]
   refine ⟨?_, fun q => by cases q⟩
   symm
   rw [Bool.and_eq_false_iff, decide_eq_false_iff_not, decide_eq_false_iff_not]
   cases hg : pG l with
   | true =>
    rw [hg, if_pos rfl] at hL
    omega
   | false =>
    rw [hg, if_neg (by decide)] at hL
    omega
theorem le_W {l : List Int} (hl : IsB (pS l) ∧ (pS l).length ≤ 32) (h : pN l = true) {n : Int} (hn : (n.natAbs : Int) < tenZ (pD l).toNat) :
  0 ≤ fdLe (pS l) (pW l) (pD l).toNat n ∧ fdLe (pS l) (pW l) (pD l).toNat n ≤ pW l := by
 have hw := (pN_ok hl h n).2.2.2
 refine ⟨fdLe_nn hw.1, ?_⟩
 have hnv := pN_nv h
 unfold fdLe endZ
 cases hasZ (marksZ (pS l)) 99 with
 | false => exact hw.1
 | true =>
  rw [Bool.not_true, cond_false]
  cases (!hasZ (marksZ (pS l)) 100 && decide (digZ n.natAbs (pD l).toNat = rep1 48 (pD l).toNat)) with
  | true => exact Int.le_refl _
  | false =>
   rw [cond_false]
   have := (end_ge (marksZ (pS l)) (digZ n.natAbs (pD l).toNat) 0).2
   omega
structure HdP (s : ByteArray) (m : Int) : Prop where
 le : leZ (bz s) m = fdLe (pS (bz s)) (pW (bz s)) (pD (bz s)).toNat m
 nE : nE (bz s) = 0
 ms : bz (sz (roZ (bz s))) = marksZ (pS (bz s))
 sp : bz (sz (pS (bz s))) = pS (bz s)
 ds : bz (sz (digZ m.natAbs (pD (bz s)).toNat)) = digZ m.natAbs (pD (bz s)).toNat
 zm : ((sz (roZ (bz s))).size : Int) = (pS (bz s)).length
 zs : ((sz (pS (bz s))).size : Int) = (pS (bz s)).length
 zd : ((sz (digZ m.natAbs (pD (bz s)).toNat)).size : Int) = pD (bz s)
 l32 : ((pS (bz s)).length : Int) ≤ 32
 nv : (nv (marksZ (pS (bz s))) : Int) = pW (bz s)
 pd : pdGo (marksZ (pS (bz s))) = pD (bz s)
theorem hd_mk {s : ByteArray} (h : pN (bz s) = true) {m : Int} (hm : (m.natAbs : Int) < tenZ (pD (bz s)).toNat) (hg : m < 0 → pG (bz s) = true) : HdP s m := by
 have hl := pS_len s
 obtain ⟨_, _, p3, _⟩ := pN_ok hl h m
 have hp := pD_rng h
 have hr : roZ (bz s) = marksZ (pS (bz s)) := by rw [roZ, if_pos h]
 refine ⟨?_, by rw [nE, if_pos h], ?_, bz_sz hl.1, bz_sz (dg_isB (digZ_dg _ _)), ?_, ?_, ?_, by omega, (pN_nv h).symm, p3⟩
 ·rw [leZ, if_pos h, leN, (cu_in hm hg).1]
 ·rw [hr, bz_sz (marks_isB _)]
 ·rw [hr, sz_size, marks_len]
 ·rw [sz_size]
 ·rw [sz_size, digZ_len]; omega
end Go.Px
end
noncomputable section
set_option maxHeartbeats 3200000
namespace Go.Px
open Go Go.Ab Go.Proofs Go.Shelf
def L6 : Env := (((((((Env.nil.add 19 (sp0 s19)).add 30 (sp1 s30)).add 31 (sp1 s31)).add 32 (sp2 s32)).add 20 (sp3 s20)).add 24 (sp2 s24)).add 22 (sp2 s22))
theorem ok_L6 : EnvOK Tryz.prog L6 := env_add (env_add (env_add (env_add (env_add (env_add (env_add (env_nil) ok19) ok30) ok31) ok32) ok20) ok24) ok22
def s6 (s : ByteArray) (n : Int) (t : ByteArray) : Bool × Value := (decide (s.size ≤ 9223372036854775807 ∧ t.size ≤ 9223372036854775807), .bool true)
theorem fn6 : Fn1 Tryz.prog 6 Tryz.f6 := ⟨Tryz.func6, by kernel_rfl, by kernel_rfl, by kernel_rfl⟩
theorem v6 (s : ByteArray) (n : Int) (t : ByteArray) (R : Value → Prop) : bodyQ Tryz.prog L6 noL Tryz.f6 [Enc.enc s, Enc.enc n, Enc.enc t] (fun _ => none) 0 (fun v _ _ => R v) = ( bif decide (ByteArray.size s ≤ 9223372036854775807) then bif pE (bz s) != 0 || true then bif pE (bz s) != 0 || !pN (bz s) then bif decide (ByteArray.size s ≤ 9223372036854775807) then R (.bool !pN (bz s)) else False else bif decide (ByteArray.size s ≤ 9223372036854775807) then bif decide (ByteArray.size s ≤ 9223372036854775807 ∧ -9223372036854775808 ≤ wiZ (bz s) n ∧ wiZ (bz s) n ≤ 9223372036854775807) then bif !edF (bz s) (wiZ (bz s) n) (pQ (bz s)) || (edE (bz s) (pQ (bz s)) != 0 || decide (ByteArray.size s ≤ 9223372036854775807 ∧ ByteArray.size (sz (edS (bz s) (wiZ (bz s) n) (pQ (bz s)))) ≤ 9223372036854775807) && true) then bif !edF (bz s) (wiZ (bz s) n) (pQ (bz s)) || (edE (bz s) (pQ (bz s)) != 0 || !hoZ (bz s) (bz (sz (edS (bz s) (wiZ (bz s) n) (pQ (bz s)))))) then R (.bool false) else bif decide (ByteArray.size s ≤ 9223372036854775807 ∧ ByteArray.size (sz (edS (bz s) (wiZ (bz s) n) (pQ (bz s)))) ≤ 9223372036854775807) then bif Prod.fst (rdV (bz s) (bz (sz (edS (bz s) (wiZ (bz s) n) (pQ (bz s)))))) != wiZ (bz s) n || true then bif Prod.fst (rdV (bz s) (bz (sz (edS (bz s) (wiZ (bz s) n) (pQ (bz s)))))) != wiZ (bz s) n || Prod.snd (rdV (bz s) (bz (sz (edS (bz s) (wiZ (bz s) n) (pQ (bz s)))))) != 0 then R (.bool false) else bif decide (ByteArray.size s ≤ 9223372036854775807 ∧ ByteArray.size t ≤ 9223372036854775807) then bif Prod.snd (rdV (bz s) (bz t)) != 0 then bif decide (ByteArray.size s ≤ 9223372036854775807 ∧ ByteArray.size t ≤ 9223372036854775807) then R (.bool !hoZ (bz s) (bz t)) else False else bif decide (ByteArray.size s ≤ 9223372036854775807 ∧ -9223372036854775808 ≤ Prod.fst (rdV (bz s) (bz t)) ∧ Prod.fst (rdV (bz s) (bz t)) ≤ 9223372036854775807) then bif bif ByteArray.toList (sz (edS (bz s) (Prod.fst (rdV (bz s) (bz t))) (pQ (bz s)))) == ByteArray.toList t then bif edF (bz s) (Prod.fst (rdV (bz s) (bz t))) (pQ (bz s)) then bif edE (bz s) (pQ (bz s)) == 0 then decide (ByteArray.size s ≤ 9223372036854775807 ∧ ByteArray.size t ≤ 9223372036854775807) && true else true else true else true then R (.bool (ByteArray.toList (sz (edS (bz s) (Prod.fst (rdV (bz s) (bz t))) (pQ (bz s)))) == ByteArray.toList t && (edF (bz s) (Prod.fst (rdV (bz s) (bz t))) (pQ (bz s)) && (edE (bz s) (pQ (bz s)) == 0 && hoZ (bz s) (bz t))))) else False else False else False else False else False else False else False else False else False else False) := by kernel_rfl
theorem ok6 : PureOK Tryz.prog 6 (sp3 s6) := by
 refine qure3 ok_L6 hmix fn6 lokf_none (Nat.le_of_ble_eq_true (by kernel_rfl)) fun s n t hc => ?_
 rw [DoesQ, v6]
 have hc : (s.size ≤ 9223372036854775807 ∧ t.size ≤ 9223372036854775807) := of_decide_eq_true hc
 try dsimp only [s6]
 rw [pe_pn]
 refine c_t (decide_eq_true hc.1) (c_t (by simp) (cond_intro (fun h => ?_) (fun h => ?_)))
 ·refine c_t (decide_eq_true hc.1) ?_
  rw [h]
 have h : pN (bz s) = true := by simpa using h
 have hl := pS_len s
 have h9 := ten_9 h
 have hw := @pW_rng s
 obtain ⟨w1, w2⟩ := wi_rng h n
 have w3 := wi_64 (bz s) n
 generalize wiZ (bz s) n = m at *
 obtain ⟨e1, e2, e3⟩ := ed_in h w1 w2
 have hz := size_fdN h m
 rw [e1, e2, e3, bz_fdN, ho_rd h, rd_back hl h w1 w2]
 have hd : decide (s.size ≤ 9223372036854775807 ∧ (sz (fdN (bz s) m)).size ≤ 9223372036854775807) = true := decide_eq_true (by omega)
 rw [hd]
 refine c_t (decide_eq_true hc.1) (c_t (decide_eq_true ⟨hc.1, w3⟩) (c_t rfl (c_f rfl (c_t rfl (c_t (by simp) (c_f (by simp) (c_t (decide_eq_true hc) ?_)))))))
 obtain ⟨r1, r2, r3⟩ := rd_val (t := t) h
 refine cond_intro (fun q => ?_) (fun q => ?_)
 ·refine c_t (decide_eq_true hc) ?_
  rw [ho_not h (by simpa using q)]
  rfl
 ·have q : (rdV (bz s) (bz t)).2 = 0 := by simpa using q
  have r3 := r3 q
  rw [ho_rd h, q]
  generalize (rdV (bz s) (bz t)).1 = c at *
  obtain ⟨f1, f2, f3⟩ := ed_in h r1 r2
  rw [f1, f2, r3, sz_bz]
  refine c_t (decide_eq_true (by omega)) (c_t (by simp [hc]) ?_)
  simp
def L14 : Env := ((((((((Env.nil.add 19 (sp0 s19)).add 30 (sp1 s30)).add 33 (sp1 s33)).add 50 (sp1 s50)).add 20 (sp3 s20)).add 51 (sp3 s51)).add 22 (sp2 s22)).add 52 (sp1 s52))
theorem ok_L14 : EnvOK Tryz.prog L14 := env_add (env_add (env_add (env_add (env_add (env_add (env_add (env_add (env_nil) ok19) ok30) ok33) ok50) ok20) ok51) ok22) ok52
def s14 (s : ByteArray) (n : Int) (q : Int) : Bool × Value := (decide (s.size ≤ 9223372036854775807 ∧ -9223372036854775808 ≤ n ∧ n ≤ 9223372036854775807), .bool true)
theorem fn14 : Fn1 Tryz.prog 14 Tryz.f14 := ⟨Tryz.func14, by kernel_rfl, by kernel_rfl, by kernel_rfl⟩
theorem v14 (s : ByteArray) (n : Int) (q : Int) (R : Value → Prop) : bodyQ Tryz.prog L14 noL Tryz.f14 [Enc.enc s, Enc.enc n, Enc.enc q] (fun _ => none) 0 (fun v _ _ => R v) = ( bif decide (ByteArray.size s ≤ 9223372036854775807) then bif pE (bz s) != 0 || (!pN (bz s) || (decide (q < 0) || true)) then bif pE (bz s) != 0 || (!pN (bz s) || (decide (q < 0) || decide (q > 9))) then bif decide (ByteArray.size s ≤ 9223372036854775807) then R (.bool (pE (bz s) == pE (bz s))) else False else bif decide (ByteArray.size s ≤ 9223372036854775807) then bif decide (ByteArray.size s ≤ 9223372036854775807 ∧ -9223372036854775808 ≤ n ∧ n ≤ 9223372036854775807) then bif decide (0 ≤ q ∧ q ≤ 9 ∧ 0 ≤ pQ (bz s) ∧ pQ (bz s) ≤ 9 ∧ -9223372036854775808 ≤ n ∧ n ≤ 9223372036854775807) then bif edE (bz s) q != 0 || bif Prod.snd (ctN n q (pQ (bz s))) then decide (Prod.fst (ctN n q (pQ (bz s))) ≥ raL (bz s)) || true else true then bif edE (bz s) q != 0 || bif Prod.snd (ctN n q (pQ (bz s))) then bif decide (Prod.fst (ctN n q (pQ (bz s))) ≥ raL (bz s)) then !edF (bz s) n q == decide (Prod.fst (ctN n q (pQ (bz s))) ≤ raH (bz s)) else !edF (bz s) n q == false else !edF (bz s) n q == false then R (.bool false) else bif decide (ByteArray.size s ≤ 9223372036854775807 ∧ ByteArray.size (sz (edS (bz s) n q)) ≤ 9223372036854775807) then bif Prod.snd (rdV (bz s) (bz (sz (edS (bz s) n q)))) != 0 then R (.bool false) else bif edF (bz s) n q then R (.bool (Prod.fst (rdV (bz s) (bz (sz (edS (bz s) n q)))) == Prod.fst (ctN n q (pQ (bz s))))) else bif !Prod.snd (ctN n q (pQ (bz s))) then bif decide (Prod.fst (rdV (bz s) (bz (sz (edS (bz s) n q)))) ≥ raL (bz s)) || true then R (.bool (decide (Prod.fst (rdV (bz s) (bz (sz (edS (bz s) n q)))) ≥ raL (bz s)) && decide (Prod.fst (rdV (bz s) (bz (sz (edS (bz s) n q)))) ≤ raH (bz s)))) else False else bif decide (0 ≤ pD (bz s) ∧ pD (bz s) ≤ 18) then bif decide (Prod.fst (rdV (bz s) (bz (sz (edS (bz s) n q)))) < 0) then bif decide (Prod.fst (ctN n q (pQ (bz s))) < 0) then bif decide (tenZ (Int.toNat (pD (bz s))) ≠ 0) then R (.bool (IntKind.wrap .i64 (0 - Prod.fst (rdV (bz s) (bz (sz (edS (bz s) n q))))) == Int.tmod (IntKind.wrap .i64 (0 - Prod.fst (ctN n q (pQ (bz s))))) (tenZ (Int.toNat (pD (bz s)))))) else False else bif decide (tenZ (Int.toNat (pD (bz s))) ≠ 0) then R (.bool (IntKind.wrap .i64 (0 - Prod.fst (rdV (bz s) (bz (sz (edS (bz s) n q))))) == Int.tmod (Prod.fst (ctN n q (pQ (bz s)))) (tenZ (Int.toNat (pD (bz s)))))) else False else bif decide (Prod.fst (ctN n q (pQ (bz s))) < 0) then bif decide (tenZ (Int.toNat (pD (bz s))) ≠ 0) then R (.bool (Prod.fst (rdV (bz s) (bz (sz (edS (bz s) n q)))) == Int.tmod (IntKind.wrap .i64 (0 - Prod.fst (ctN n q (pQ (bz s))))) (tenZ (Int.toNat (pD (bz s)))))) else False else bif decide (tenZ (Int.toNat (pD (bz s))) ≠ 0) then R (.bool (Prod.fst (rdV (bz s) (bz (sz (edS (bz s) n q)))) == Int.tmod (Prod.fst (ctN n q (pQ (bz s)))) (tenZ (Int.toNat (pD (bz s)))))) else False else False else False else False else False else False else False else False else False) := by kernel_rfl
theorem ok14 : PureOK Tryz.prog 14 (sp3 s14) := by
 refine qure3 ok_L14 hmix fn14 lokf_none (Nat.le_of_ble_eq_true (by kernel_rfl)) fun s n q hc => ?_
 rw [DoesQ, v14]
 have hc : (s.size ≤ 9223372036854775807 ∧ -9223372036854775808 ≤ n ∧ n ≤ 9223372036854775807) := of_decide_eq_true hc
 try dsimp only [s14]
 have epn : ∀ x : Bool, (pE (bz s) != 0 || (!pN (bz s) || x)) = (!pN (bz s) || x) := fun x => by rw [← Bool.or_assoc, pe_pn]
 rw [epn, epn]
 refine c_t (decide_eq_true hc.1) (c_t (by simp) (cond_intro (fun h => ?_) (fun h => ?_)))
 ·refine c_t (decide_eq_true hc.1) ?_
  simp
 have h : pN (bz s) = true ∧ 0 ≤ q ∧ q ≤ 9 := by
  simp only [Bool.or_eq_false_iff, Bool.not_eq_false', decide_eq_false_iff_not] at h
  exact ⟨h.1, by omega, by omega⟩
 obtain ⟨h, hq⟩ := h
 have hn : -9223372036854775808 ≤ n ∧ n ≤ 9223372036854775807 := hc.2
 have hp := pD_rng h
 have hw := @pW_rng s
 have h9 := ten_9 h
 have hl := pS_len s
 obtain ⟨u1, u2, u3⟩ := cu_rng (l := bz s) n q
 obtain ⟨c1, c2⟩ := ct_law hn hq (c := pQ (bz s)) (by omega)
 obtain ⟨i1, i2⟩ := fit_iff h hn hq
 have hM := cuM_nn n q (pQ (bz s))
 have hrb := rd_back hl h u2 (fun z => (u3 z).1)
 have hz := size_fdN h (cuN n q (pQ (bz s)) (pD (bz s)) (pG (bz s)))
 have e1 : edS (bz s) n q = fdN (bz s) (cuN n q (pQ (bz s)) (pD (bz s)) (pG (bz s))) := by rw [edS, if_pos ⟨h, hq⟩]; rfl
 have e2 : edF (bz s) n q = cuF n q (pQ (bz s)) (pD (bz s)) (pG (bz s)) := by rw [edF, if_pos ⟨h, hq⟩]
 have e3 : edE (bz s) q = 0 := by rw [edE, if_pos h, if_pos hq]
 rw [e1, e2, e3, bz_fdN, hrb]
 dsimp only
 have hr : raH (bz s) = tenZ (pD (bz s)).toNat - 1 := by rw [raH, if_pos h]
 have hL : raL (bz s) = if pG (bz s) = true then 0 - (tenZ (pD (bz s)).toNat - 1) else 0 := rfl
 have hT := tenZ_pos (pD (bz s)).toNat
 refine c_t (decide_eq_true hc.1) (c_t (decide_eq_true hc) (c_t (decide_eq_true (by omega)) (c_t ?_ (c_f ?_ (c_t (decide_eq_true (by omega)) (c_f rfl ?_))))))
 ·cases (ctN n q (pQ (bz s))).2 <;> simp
 ·rw [i1]
  cases (ctN n q (pQ (bz s))).2 <;> cases decide ((ctN n q (pQ (bz s))).1 ≥ raL (bz s)) <;> cases decide ((ctN n q (pQ (bz s))).1 ≤ raH (bz s)) <;> rfl
 ·generalize hx : (ctN n q (pQ (bz s))).1 = x at *
  generalize hsm : (ctN n q (pQ (bz s))).2 = sm at *
  generalize hcu : cuN n q (pQ (bz s)) (pD (bz s)) (pG (bz s)) = m at *
  generalize hcf : cuF n q (pQ (bz s)) (pD (bz s)) (pG (bz s)) = ok at *
  generalize cuM n q (pQ (bz s)) = M at *
  generalize tenZ (pD (bz s)).toNat = T at *
  cases ok with
  | true =>
   rw [cond_true, i2 rfl]
   simp
  | false =>
   rw [cond_false]
   cases sm with
   | false =>
    refine c_t rfl (c_t (by simp) ?_)
    have : m ≥ raL (bz s) := by
     cases hg : pG (bz s) with
     | true => rw [hg, if_pos rfl] at hL; omega
     | false =>
      rw [hg, if_neg (by decide)] at hL
      have : ¬ m < 0 := fun z => by have := (u3 z).1; rw [hg] at this; cases this
      omega
    rw [decide_eq_true this, decide_eq_true (show m ≤ raH (bz s) by omega)]
    rfl
   | true =>
    obtain ⟨d1, d2, d3, d4⟩ := c1 rfl
    have hTn : decide (T ≠ 0) = true := decide_eq_true (by omega)
    rw [hTn, w64 (n := 0 - m) (by omega), w64 (n := 0 - x) (by omega)]
    have t1 : 0 ≤ x → x.tmod T = x.natAbs % T := fun z => by rw [Int.tmod_eq_emod_of_nonneg z]; congr 1; omega
    have t2 : x ≤ 0 → (0 - x).tmod T = x.natAbs % T := fun z => by rw [Int.tmod_eq_emod_of_nonneg (by omega)]; congr 1; omega
    refine c_f rfl (c_t (decide_eq_true (by omega)) ?_)
    have fin : ∀ a b : Int, a = b → Value.bool (a == b) = Value.bool true := fun a b e => by rw [e]; simp
    rw [d1] at t1 t2
    refine cond_intro (fun k1 => ?_) (fun k1 => ?_)
    ·have k1 := of_decide_eq_true k1
     refine cond_intro (fun k2 => ?_) (fun k2 => ?_)
     ·have k2 := of_decide_eq_true k2
      refine c_t rfl (fin _ _ ?_)
      rw [t2 (by omega)]; omega
     ·have k2 := of_decide_eq_false k2
      refine c_t rfl (fin _ _ ?_)
      rw [t1 (by omega)]; omega
    ·have k1 := of_decide_eq_false k1
     refine cond_intro (fun k2 => ?_) (fun k2 => ?_)
     ·have k2 := of_decide_eq_true k2
      refine c_t rfl (fin _ _ ?_)
      rw [t2 (by omega)]; omega
     ·have k2 := of_decide_eq_false k2
      refine c_t rfl (fin _ _ ?_)
      rw [t1 (by omega)]; omega
end Go.Px
end
noncomputable section
set_option maxHeartbeats 3200000
namespace Go.Px
open Go Go.Ab Go.Proofs Go.Shelf
def L9 : Env := ((((((((((Env.nil.add 19 (sp0 s19)).add 30 (sp1 s30)).add 33 (sp1 s33)).add 32 (sp2 s32)).add 20 (sp3 s20)).add 36 (sp2 s36)).add 37 (sp1 s37)).add 38 (sp2 s38)).add 39 (sp1 s39)).add 40 (sp2 s40))
theorem ok_L9 : EnvOK Tryz.prog L9 := env_add (env_add (env_add (env_add (env_add (env_add (env_add (env_add (env_add (env_add (env_nil) ok19) ok30) ok33) ok32) ok20) ok36) ok37) ok38) ok39) ok40
def suGo (le : Int) : List Int → List Int → List Int → List Int → Int → Bool
 | [], _, _, _, _ => true
 | m :: r, sp, a, ds, o => bif m == 118 then suGo le r sp.tail a ds o
  else bif decide (o < le) && isDig (a.headD 0) then false
  else bif isP m then (bif decide (o < le) && ds.headD 0 != 48 then false else bif decide (o ≥ le) && (!hasZ [89, 84, 73, 82] (sp.headD 0) && a.headD 0 != ds.headD 0) then false else suGo le r sp.tail a.tail ds.tail (o + 1))
  else suGo le r sp.tail a.tail ds (o + 1)
def V9_0 : Bool × ByteArray × Bool × Int × Int × Int × Bool × ByteArray × Int × ByteArray × ByteArray × Int × Int × Int → List Value := fun (r, z, zb, z1, z2, z3, zg, a, le, ms, ds, o, d, i) => [B r, .pointer (some ⟨8, 0, some 0⟩), S a, I le, S ms, S ds, I o, I d, I i]
def B9_0 : Bool × ByteArray × Bool × Int × Int × Int × Bool × ByteArray × Int × ByteArray × ByteArray × Int × Int × Int → List (Option Blk) := fun (r, z, zb, z1, z2, z3, zg, a, le, ms, ds, o, d, i) => [some ⟨[S z, B zb, I z1, I z2, I z3, B zg], 36, true⟩]
def S9_0 : LSpec (Bool × ByteArray × Bool × Int × Int × Int × Bool × ByteArray × Int × ByteArray × ByteArray × Int × Int × Int) where
 live := [4, 5, 8, 10, 12, 14, 15, 16, 17]
 mid := [8]
 n := 120
 dec vs bs := match vs, bs with | [.bool r, .pointer (some ⟨8, 0, some 0⟩), .string a, .int .i64 le, .string ms, .string ds, .int .i64 o, .int .i64 d, .int .i64 i], [some ⟨[.string z, .bool zb, .int .i64 z1, .int .i64 z2, .int .i64 z3, .bool zg], 36, true⟩] => some (r, z, zb, z1, z2, z3, zg, a, le, ms, ds, o, d, i) | _, _ => none
 pre := fun (r, z, zb, z1, z2, z3, zg, a, le, ms, ds, o, d, i) => decide (0 ≤ i ∧ i ≤ ms.size ∧ ms.size ≤ 1000 ∧ ms.size = z.size ∧ 0 ≤ o ∧ o + nv ((bz ms).drop i.toNat) = a.size ∧ a.size ≤ 1000 ∧ 0 ≤ d ∧ d + pdGo ((bz ms).drop i.toNat) ≤ ds.size ∧ ds.size ≤ 1000)
 fin := fun (r, z, zb, z1, z2, z3, zg, a, le, ms, ds, o, d, i) Z => bif suGo le ((bz ms).drop i.toNat) ((bz z).drop i.toNat) ((bz a).drop o.toNat) ((bz ds).drop d.toNat) o then (∀ o' d', Z (.exit 0) [B r, .pointer (some ⟨8, 0, some 0⟩), S a, I le, S ms, S ds, I o', I d', I ms.size] [some ⟨[S z, B zb, I z1, I z2, I z3, B zg], 36, true⟩]) else (∀ o' d' i', Z .ret [B false, .pointer (some ⟨8, 0, some 0⟩), S a, I le, S ms, S ds, I o', I d', I i'] [some ⟨[S z, B zb, I z1, I z2, I z3, B zg], 36, true⟩])
theorem r9_0 (r : Bool) (z : ByteArray) (zb : Bool) (z1 : Int) (z2 : Int) (z3 : Int) (zg : Bool) (a : ByteArray) (le : Int) (ms : ByteArray) (ds : ByteArray) (o : Int) (d : Int) (i : Int) (jk : Tmps) (R : Exit → List Value → List (Option Blk) → Prop) : (codeQ Tryz.prog L9 noL Tryz.f9.ntmps (loopOf Tryz.f9 0) (tl S9_0.live (V9_0 (r, z, zb, z1, z2, z3, zg, a, le, ms, ds, o, d, i)) jk) (ml S9_0.mid (B9_0 (r, z, zb, z1, z2, z3, zg, a, le, ms, ds, o, d, i))) S9_0.n fun e t' m' _ => R e (List.map t' S9_0.live) (List.map m' S9_0.mid)) = ( bif decide (i < (↑(ByteArray.size ms) : Int)) then bif decide (0 ≤ i ∧ i < (↑(ByteArray.size ms) : Int)) then bif byteAt ms (Int.toNat i) == 118 then R Exit.normal [.bool r, .pointer (some (.mk 8 0 (some 0))), .string a, .int .i64 le, .string ms, .string ds, .int .i64 o, .int .i64 d, .int .i64 (IntKind.wrap .i64 (i + 1))] [some (.mk [.string z, .bool zb, .int .i64 z1, .int .i64 z2, .int .i64 z3, .bool zg] 36 true)] else bif bif decide (o < le) then decide (0 ≤ o ∧ o < (↑(ByteArray.size a) : Int)) && true else true then bif decide (o < le) && isDig (byteAt a (Int.toNat o)) then R Exit.ret [.bool false, .pointer (some (.mk 8 0 (some 0))), .string a, .int .i64 le, .string ms, .string ds, .int .i64 o, .int .i64 d, .int .i64 i] [some (.mk [.string z, .bool zb, .int .i64 z1, .int .i64 z2, .int .i64 z3, .bool zg] 36 true)] else bif decide (0 ≤ i ∧ i < (↑(ByteArray.size ms) : Int)) && (byteAt ms (Int.toNat i) == 100 || decide (0 ≤ i ∧ i < (↑(ByteArray.size ms) : Int)) && true) then bif byteAt ms (Int.toNat i) == 100 || byteAt ms (Int.toNat i) == 99 then bif bif decide (o < le) then decide (0 ≤ d ∧ d < (↑(ByteArray.size ds) : Int)) && true else true then bif decide (o < le) && byteAt ds (Int.toNat d) != 48 then R Exit.ret [.bool false, .pointer (some (.mk 8 0 (some 0))), .string a, .int .i64 le, .string ms, .string ds, .int .i64 o, .int .i64 d, .int .i64 i] [some (.mk [.string z, .bool zb, .int .i64 z1, .int .i64 z2, .int .i64 z3, .bool zg] 36 true)] else bif bif decide (o ≥ le) then decide (0 ≤ i ∧ i < (↑(ByteArray.size z) : Int)) && bif !hasZ (bz (ByteArray.mk #[89, 84, 73, 82])) (byteAt z (Int.toNat i)) then decide (0 ≤ o ∧ o < (↑(ByteArray.size a) : Int)) && (decide (0 ≤ d ∧ d < (↑(ByteArray.size ds) : Int)) && true) else true else true then bif decide (o ≥ le) && (!hasZ (bz (ByteArray.mk #[89, 84, 73, 82])) (byteAt z (Int.toNat i)) && byteAt a (Int.toNat o) != byteAt ds (Int.toNat d)) then R Exit.ret [.bool false, .pointer (some (.mk 8 0 (some 0))), .string a, .int .i64 le, .string ms, .string ds, .int .i64 o, .int .i64 d, .int .i64 i] [some (.mk [.string z, .bool zb, .int .i64 z1, .int .i64 z2, .int .i64 z3, .bool zg] 36 true)] else R Exit.normal [.bool r, .pointer (some (.mk 8 0 (some 0))), .string a, .int .i64 le, .string ms, .string ds, .int .i64 (IntKind.wrap .i64 (o + 1)), .int .i64 (IntKind.wrap .i64 (d + 1)), .int .i64 (IntKind.wrap .i64 (i + 1))] [some (.mk [.string z, .bool zb, .int .i64 z1, .int .i64 z2, .int .i64 z3, .bool zg] 36 true)] else False else False else R Exit.normal [.bool r, .pointer (some (.mk 8 0 (some 0))), .string a, .int .i64 le, .string ms, .string ds, .int .i64 (IntKind.wrap .i64 (o + 1)), .int .i64 d, .int .i64 (IntKind.wrap .i64 (i + 1))] [some (.mk [.string z, .bool zb, .int .i64 z1, .int .i64 z2, .int .i64 z3, .bool zg] 36 true)] else False else False else False else R (Exit.exit 0) [.bool r, .pointer (some (.mk 8 0 (some 0))), .string a, .int .i64 le, .string ms, .string ds, .int .i64 o, .int .i64 d, .int .i64 i] [some (.mk [.string z, .bool zb, .int .i64 z1, .int .i64 z2, .int .i64 z3, .bool zg] 36 true)]) := by kernel_rfl
theorem l9_0 : LOKf Tryz.prog (oneL 0 S9_0.h) Tryz.f9 := by
 refine lokf_one (h := S9_0.h) (by kernel_rfl) (loop_specQ ok_L9 hmix (by kernel_rfl) (lok_none _) S9_0 V9_0 B9_0 (fun (r, z, zb, z1, z2, z3, zg, a, le, ms, ds, o, d, i) => (ms.size - i).toNat) ?_ ?_ ?_)
 ·intro vs bs s h
  simp only [S9_0] at h
  split at h
  all_goals first | (cases h; exact ⟨rfl, rfl⟩) | cases h | (split at h <;> first | (rename_i hq; cases h; have hq := Nat.eq_of_beq_eq_true hq; subst hq; exact ⟨rfl, rfl⟩) | cases h)
 ·exact fun _ _ _ h => h
 ·intro ⟨r, z, zb, z1, z2, z3, zg, a, le, ms, ds, o, d, i⟩ jk Z hp hf
  rw [r9_0]
  simp only [S9_0] at hp hf
  simp only [decide_eq_true_eq] at hp
  obtain ⟨h1, h2, h3, h4, h5, h6, h7, h8, h9, h10⟩ := hp
  have e4 : bz (ByteArray.mk #[89, 84, 73, 82]) = [89, 84, 73, 82] := rfl
  rw [e4]
  refine cond_intro (fun h => ?_) (fun h => ?_)
  ·have h := of_decide_eq_true h
   have g1 : decide (0 ≤ i ∧ i < (ms.size : Int)) = true := decide_eq_true (by omega)
   have g2 : decide (0 ≤ i ∧ i < (z.size : Int)) = true := decide_eq_true (by omega)
   rw [bz_at h1 h, nv_cons] at h6
   rw [bz_at h1 h, pd_cons] at h9
   rw [bz_at h1 h, bz_at (s := z) h1 (by omega), suGo, List.tail_cons, List.headD_cons] at hf
   have nn := pd_nn ((bz ms).drop (i + 1).toNat)
   have fin : ∀ (o2 d2 : Int), 0 ≤ o2 → o2 + nv ((bz ms).drop (i + 1).toNat) = a.size → 0 ≤ d2 → d2 + pdGo ((bz ms).drop (i + 1).toNat) ≤ ds.size →
     (bif suGo le ((bz ms).drop (i + 1).toNat) ((bz z).drop (i + 1).toNat) ((bz a).drop o2.toNat) ((bz ds).drop d2.toNat) o2 then (∀ o' d', Z (.exit 0) [B r, .pointer (some ⟨8, 0, some 0⟩), S a, I le, S ms, S ds, I o', I d', I ms.size] [some ⟨[S z, B zb, I z1, I z2, I z3, B zg], 36, true⟩]) else (∀ o' d' i', Z .ret [B false, .pointer (some ⟨8, 0, some 0⟩), S a, I le, S ms, S ds, I o', I d', I i'] [some ⟨[S z, B zb, I z1, I z2, I z3, B zg], 36, true⟩])) →
     S9_0.step V9_0 B9_0 (fun (r, z, zb, z1, z2, z3, zg, a, le, ms, ds, o, d, i) => (ms.size - i).toNat) (r, z, zb, z1, z2, z3, zg, a, le, ms, ds, o, d, i) Z Exit.normal
      [B r, .pointer (some ⟨8, 0, some 0⟩), S a, I le, S ms, S ds, I o2, I d2, I (IntKind.wrap .i64 (i + 1))] [some ⟨[S z, B zb, I z1, I z2, I z3, B zg], 36, true⟩] := by
    intro o2 d2 q1 q2 q3 q4 q5
    rw [w64 (n := i + 1) (by omega)]
    exact ⟨(r, z, zb, z1, z2, z3, zg, a, le, ms, ds, o2, d2, i + 1), rfl, rfl, by simp only [S9_0, decide_eq_true_eq]; exact ⟨by omega, by omega, h3, h4, q1, q2, h7, q3, q4, h10⟩, by simp only; omega, q5⟩
   refine c_t g1 (cond_intro (fun b => ?_) (fun b => ?_))
   ·rw [b, cond_true] at hf
    have ip : isP 118 = false := rfl
    rw [eq_of_beq b, if_pos rfl, Nat.zero_add] at h6
    rw [eq_of_beq b, ip, if_neg (by decide), Int.zero_add] at h9
    exact fin o d h5 h6 h8 h9 hf
   ·have hne : byteAt ms i.toNat ≠ 118 := by simpa using b
    rw [b, cond_false] at hf
    rw [if_neg hne] at h6
    have ho : o < a.size := by omega
    have g3 : decide (0 ≤ o ∧ o < (a.size : Int)) = true := decide_eq_true (by omega)
    rw [bz_at h5 ho, List.headD_cons, List.tail_cons] at hf
    rw [w64 (n := o + 1) (by omega), g1, g2, g3]
    refine c_t (by cases decide (o < le) <;> rfl) (cond_intro (fun q => ?_) (fun q => c_t (by cases byteAt ms i.toNat == 100 <;> rfl) ?_))
    ·rw [q] at hf
     exact hf o d i
    ·rw [q, cond_false] at hf
     refine cond_intro (fun c => ?_) (fun c => ?_)
     ·have hP : isP (byteAt ms i.toNat) = true := c
      rw [hP, if_pos rfl] at h9
      rw [hP, cond_true] at hf
      have hd : d < ds.size := by omega
      have g4 : decide (0 ≤ d ∧ d < (ds.size : Int)) = true := decide_eq_true (by omega)
      rw [bz_at h8 hd, List.headD_cons, List.tail_cons] at hf
      rw [w64 (n := d + 1) (by omega), g4]
      refine c_t (by cases decide (o < le) <;> rfl) (cond_intro (fun q2 => ?_) (fun q2 => c_t (by cases decide (o ≥ le) <;> cases !hasZ [89, 84, 73, 82] (byteAt z i.toNat) <;> rfl) (cond_intro (fun q3 => ?_) (fun q3 => ?_))))
      ·rw [q2] at hf
       exact hf o d i
      ·rw [q2, cond_false, q3] at hf
       exact hf o d i
      ·rw [q2, cond_false, q3, cond_false] at hf
       exact fin (o + 1) (d + 1) (by omega) (by omega) (by omega) (by omega) hf
     ·have hP : isP (byteAt ms i.toNat) = false := c
      rw [hP, if_neg (by decide), Int.zero_add] at h9
      rw [hP, cond_false] at hf
      exact fin (o + 1) d (by omega) (by omega) h8 h9 hf
  ·have h := of_decide_eq_false h
   have e : i = ms.size := by omega
   rw [bz_end (s := ms) (by omega), suGo, cond_true] at hf
   rw [e]
   exact hf o d
end Go.Px
end
noncomputable section
namespace Go.Px
open Go Go.Ab Go.Proofs
theorem fl_notDig (s : List Int) : isDig (fdFl s) = false := by unfold fdFl; split <;> decide
theorem sg_notDig {dr : Int} (h : hasZ [36, 83, 43, 45] dr = true) (neg : Bool) : isDig (sgZ dr neg) = false := by
 rcases dr_four h with rfl | rfl | rfl | rfl <;> cases neg <;> decide
def mcOK (m c : Int) : Prop := (m = 105 → isDig c = false) ∧ (m ≠ 105 → m ≠ 118 → isP m = false → hasZ [67, 82, 68, 66] c = true ∨ hasZ [36, 83, 43, 45] c = true)
def mcL : List Int → List Int → Prop
 | [], _ => True
 | m :: r, sp => mcOK m (sp.headD 0) ∧ mcL r sp.tail
theorem ss_notDig {c dr : Int} (neg : Bool) (h : hasZ [67, 82, 68, 66] c = true ∨ hasZ [36, 83, 43, 45] c = true) : isDig (ssZ c dr neg) = false := by
 unfold ssZ
 cases dr != 0 && c == dr with
 | true => rfl
 | false =>
  rw [cond_false]
  cases h1 : hasZ [67, 82, 68, 66] c with
  | true =>
   rw [cond_true]
   have : c = 67 ∨ c = 82 ∨ c = 68 ∨ c = 66 := by simpa using hasZ_iff.1 h1
   rcases this with rfl | rfl | rfl | rfl <;> cases neg <;> decide
  | false =>
   rw [cond_false]
   rw [h1] at h
   exact sg_notDig (h.resolve_left (by decide)) neg
theorem kL_dig {c : Int} (h : hasZ kL c = true) (h9 : c ≠ 57) : isDig c = false := by
 have hk : c ∈ kL := hasZ_iff.1 h
 simp only [kL, List.mem_cons, List.not_mem_nil, or_false] at hk
 rcases hk with rfl | hk
 ·exact absurd rfl h9
 ·rcases hk with rfl | rfl | rfl | rfl | rfl | rfl | rfl | rfl | rfl | rfl | rfl | rfl | rfl | rfl | rfl | rfl | rfl | rfl | rfl <;> decide
theorem mk1_mc (dr : Int) (seen : Bool) {c : Int} (hc : hasZ kL c = true) : mcOK (mk1 dr seen c) c := by
 have e118 : mcOK 118 c := ⟨fun q => absurd q (by decide), fun _ q => absurd rfl q⟩
 have e100 : mcOK 100 c := ⟨fun q => absurd q (by decide), fun _ _ q => by cases q⟩
 have e99 : mcOK 99 c := ⟨fun q => absurd q (by decide), fun _ _ q => by cases q⟩
 unfold mk1
 cases h1 : hasZ [57, 89, 84, 73, 82] c with
 | true => exact e100
 | false =>
  rw [cond_false]
  cases hasZ [90, 42] c || (dr != 0 && (c == dr && seen)) with
  | true => exact e99
  | false =>
   rw [cond_false]
   cases c == 86 with
   | true => exact e118
   | false =>
    rw [cond_false]
    cases h4 : c == 36 with
    | true =>
     rw [cond_true, eq_of_beq h4]
     exact ⟨fun q => absurd q (by decide), fun _ _ _ => .inr (by decide)⟩
    | false =>
     rw [cond_false]
     cases h5 : hasZ [83, 43, 45] c with
     | true =>
      rw [cond_true]
      refine ⟨fun q => absurd q (by decide), fun _ _ _ => .inr ?_⟩
      have : c = 83 ∨ c = 43 ∨ c = 45 := by simpa using hasZ_iff.1 h5
      rcases this with rfl | rfl | rfl <;> decide
     | false =>
      rw [cond_false]
      refine ⟨fun _ => kL_dig hc fun q => ?_, fun q => absurd rfl q⟩
      subst q
      revert h1
      decide
theorem mcL_app : ∀ (a b sp : List Int), mcL a sp → mcL b (sp.drop a.length) → mcL (a ++ b) sp
 | [], _, _, _, h => h
 | m :: a, b, sp, h1, h2 => ⟨h1.1, mcL_app a b sp.tail h1.2 (by rw [List.drop_tail]; exact h2)⟩
theorem mk_mc (dr : Int) : ∀ (l : List Int) (seen : Bool) (t : List Int), allK l = true → mcL (mkGo dr seen l) (l ++ t)
 | [], _, _, _ => trivial
 | c :: r, seen, t, h => by
  rw [mkGo]
  have h : hasZ kL c = true ∧ allK r = true := by
   simp only [allK, List.all_cons, Bool.and_eq_true] at h
   exact h
  exact ⟨mk1_mc dr seen h.1, mk_mc dr r _ t h.2⟩
theorem marks_mc {l : List Int} (h : allK l = true) : mcL (marksZ l) l := by
 obtain ⟨t, ht, ht2⟩ := body_app l
 rw [marks_eq]
 have hb : allK (bodyZ l) = true := by
  simp only [allK, List.all_eq_true] at h ⊢
  exact fun c hc => h c (body_sub hc)
 refine mcL_app _ _ _ ?_ ?_
 ·conv => rhs; rw [ht]
  exact mk_mc _ _ _ _ hb
 ·have e : l.drop (mkGo (drZ (bodyZ l)) false (bodyZ l)).length = t := by
   rw [mk_len]
   conv => lhs; arg 2; rw [ht]
   exact List.drop_left
  rw [e]
  unfold tmZ
  rcases ht2 with ⟨rfl, hc⟩ | ⟨rfl | rfl, hc⟩
  ·rw [if_neg (by rw [hc]; decide)]; trivial
  ·rw [if_pos hc]
   exact ⟨⟨fun q => absurd q (by decide), fun _ _ _ => .inl (by decide)⟩, ⟨fun q => absurd q (by decide), fun _ _ _ => .inl (by decide)⟩, trivial⟩
  ·rw [if_pos hc]
   exact ⟨⟨fun q => absurd q (by decide), fun _ _ _ => .inl (by decide)⟩, ⟨fun q => absurd q (by decide), fun _ _ _ => .inl (by decide)⟩, trivial⟩
theorem su_fs {le fill dr : Int} {neg : Bool} (hf : isDig fill = false) (hd : dr = 0 ∨ hasZ [36, 83, 43, 45] dr = true) : ∀ (ms sp ds : List Int) (o : Int), dgL ds = true → pdGo ms ≤ ds.length → ldOK le ms ds o → mcL ms sp →
  suGo le ms sp (fsGo le fill dr neg ms sp ds o) ds o = true
 | [], _, _, _, _, _, _, _ => rfl
 | m :: r, sp, ds, o, h1, h2, h3, h4 => by
  have hn := pd_nn r
  rw [pd_cons] at h2
  obtain ⟨g1, g2⟩ := h3
  obtain ⟨k1, k2⟩ := h4
  rw [fsGo, suGo]
  by_cases hm : m = 118
  ·subst hm
   exact su_fs hf hd r _ ds o h1 (by simpa [isP] using h2) (by simpa [isP] using g2) k2
  ·have e : (m == 118) = false := beq_eq_false_iff_ne.2 hm
   rw [e, cond_false] at g2
   rw [e, cond_false, cond_false, List.tail_cons, List.headD_cons]
   have hcel : o < le → isDig (celZ le fill dr neg m (sp.headD 0) (ds.headD 0) o) = false := fun ho => by
    obtain ⟨q1, q2⟩ := g1 ho
    unfold celZ
    cases hs : dr != 0 && o == le - 1 with
    | true =>
     simp only [Bool.and_eq_true, bne_iff_ne] at hs
     exact sg_notDig (hd.resolve_left hs.1) neg
    | false =>
     rw [cond_false, cel0, beq_eq_false_iff_ne.2 q1, cond_false]
     by_cases h99 : m = 99
     ·rw [h99, decide_eq_true ho]; exact hf
     ·rw [beq_eq_false_iff_ne.2 h99, cond_false, decide_eq_true ho]
      by_cases h105 : m = 105
      ·rw [h105]
       show isDig (bif sp.headD 0 == 66 then 32 else fill) = false
       cases sp.headD 0 == 66 with
       | true => rfl
       | false => exact hf
      ·rw [beq_eq_false_iff_ne.2 h105, cond_false]
       exact ss_notDig neg (k1.2 h105 hm (by simp [isP, q1, h99]))
   have hc1 : (decide (o < le) && isDig (celZ le fill dr neg m (sp.headD 0) (ds.headD 0) o)) = false := by
    by_cases ho : o < le
    ·rw [hcel ho, Bool.and_false]
    ·rw [decide_eq_false ho, Bool.false_and]
   rw [hc1, cond_false]
   cases hp : isP m with
   | false =>
    rw [hp] at g2 h2
    exact su_fs hf hd r _ ds (o + 1) h1 (by simpa using h2) g2 k2
   | true =>
    rw [hp, if_pos rfl] at h2
    rw [hp] at g2
    cases ds with
    | nil => simp at h2; omega
    | cons d ds =>
     obtain ⟨hdd, hds⟩ := dgL_cons.1 h1
     rw [List.length_cons] at h2
     rw [List.headD_cons] at g1 ⊢
     rw [cond_true, cond_true, List.tail_cons]
     have c2 : (decide (o < le) && d != 48) = false := by
      by_cases ho : o < le
      ·obtain ⟨q1, q2⟩ := g1 ho
       have : d = 48 := q2 ((isP_iff.1 hp).resolve_left q1)
       rw [this]; simp
      ·rw [decide_eq_false ho, Bool.false_and]
     have c3 : (decide (o ≥ le) && (!hasZ [89, 84, 73, 82] (sp.headD 0) && celZ le fill dr neg m (sp.headD 0) d o != d)) = false := by
      by_cases ho : o < le
      ·rw [decide_eq_false (show ¬ o ≥ le by omega), Bool.false_and]
      ·cases hY : hasZ [89, 84, 73, 82] (sp.headD 0) with
       | true => simp
       | false =>
        have hs : (dr != 0 && o == le - 1) = false := by
         have : (o == le - 1) = false := beq_eq_false_iff_ne.2 (by omega)
         rw [this, Bool.and_false]
        have : celZ le fill dr neg m (sp.headD 0) d o = d := by
         rw [celZ, hs, cond_false, cel0]
         have hne : ∀ x ∈ [89, 84, 73, (82 : Int)], sp.headD 0 ≠ x := fun x hx q => by
          rw [q, hasZ_iff.2 hx] at hY; cases hY
         rcases isP_iff.1 hp with rfl | rfl
         ·show fmZ (sp.headD 0) d neg = d
          rw [fmZ, if_neg (fun q => hne 89 (by simp) q.1), if_neg]
          rintro (q | q | q)
          ·exact hne 84 (by simp) q
          ·exact hne 73 (by simp) q.1
          ·exact hne 82 (by simp) q.1
         ·show (bif decide (o < le) then fill else d) = d
          rw [decide_eq_false ho]; rfl
        rw [this]; simp
     rw [c2, c3]
     exact su_fs hf hd r _ ds (o + 1) hds (by omega) g2 k2
theorem su_rep {le fl : Int} (hf : isDig fl = false) : ∀ (ms sp ds : List Int) (o : Int) (k : Nat), k = nv ms → o + k ≤ le → (∀ c ∈ ds, c = 48) → pdGo ms ≤ ds.length → suGo le ms sp (rep1 fl k) ds o = true
 | [], _, _, _, _, _, _, _, _ => rfl
 | m :: r, sp, ds, o, k, h1, h2, h3, h4 => by
  have hn := pd_nn r
  rw [nv_cons] at h1
  rw [pd_cons] at h4
  rw [suGo]
  by_cases hm : m = 118
  ·subst hm
   exact su_rep hf r _ ds o k (by simpa using h1) h2 h3 (by simpa [isP] using h4)
  ·have e : (m == 118) = false := beq_eq_false_iff_ne.2 hm
   rw [if_neg hm] at h1
   obtain ⟨j, rfl⟩ : ∃ j, k = j + 1 := ⟨k - 1, by omega⟩
   have er : rep1 fl (j + 1) = fl :: rep1 fl j := rfl
   rw [e, cond_false, er, List.headD_cons, hf, Bool.and_false, cond_false, List.tail_cons]
   cases hp : isP m with
   | false =>
    rw [hp] at h4
    exact su_rep hf r _ ds (o + 1) j (by omega) (by omega) h3 (by simpa using h4)
   | true =>
    rw [hp, if_pos rfl] at h4
    cases ds with
    | nil => simp at h4; omega
    | cons d ds =>
     have hd : d = 48 := h3 d List.mem_cons_self
     rw [List.length_cons] at h4
     rw [List.headD_cons, List.tail_cons, hd, decide_eq_false (show ¬ o ≥ le by omega), cond_true]
     have : (decide (o < le) && (48 : Int) != 48) = false := by simp
     rw [this]
     exact su_rep hf r _ ds (o + 1) j (by omega) (by omega) (fun c hc => h3 c (List.mem_cons_of_mem _ hc)) (by omega)
theorem su_law {s : ByteArray} (h : pN (bz s) = true) {n : Int} (hn : (n.natAbs : Int) < tenZ (pD (bz s)).toNat) :
  suGo (fdLe (pS (bz s)) (pW (bz s)) (pD (bz s)).toNat n) (marksZ (pS (bz s))) (pS (bz s)) (fdN (bz s) n) (digZ n.natAbs (pD (bz s)).toNat) 0 = true := by
 have hl := pS_len s
 obtain ⟨_, _, p3, p4, _, p6⟩ := pN_ok hl h n
 have hp := pD_rng h
 have hlen := digZ_len (pD (bz s)).toNat n.natAbs
 have hS : pS (bz s) = exZ (bz s) := by rw [pS, if_pos (pN_vOK h)]
 have hK : allK (pS (bz s)) = true := by rw [hS]; exact ex_kL _
 obtain ⟨e1, e2⟩ := en_law hl h hn
 rw [fdN, field_fs p6]
 cases hb : fdBl (pS (bz s)) (pW (bz s)) (pD (bz s)).toNat n with
 | true =>
  rw [cond_true, e2 hb]
  have hnv := pN_nv h
  refine su_rep (fl_notDig _) _ _ _ _ _ (by omega) (by omega) ?_ (by rw [hlen]; omega)
  have h0 := fdBl_zero hb
  exact (dig_zero hn).2 h0
 | false =>
  rw [cond_false]
  exact su_fs (fl_notDig _) (fdDr_sign _) _ _ _ _ (digZ_dg _ _) (by rw [hlen]; omega) (ld_law (by omega)) (marks_mc hK)
end Go.Px
end
noncomputable section
set_option maxHeartbeats 3200000
namespace Go.Px
open Go Go.Ab Go.Proofs Go.Shelf
def s9 (s : ByteArray) (n : Int) : Bool × Value := (decide (s.size ≤ 9223372036854775807), .bool true)
theorem fn9 : Fn1 Tryz.prog 9 Tryz.f9 := ⟨Tryz.func9, by kernel_rfl, by kernel_rfl, by kernel_rfl⟩
theorem v9 (s : ByteArray) (n : Int) (R : Value → Prop) : bodyQ Tryz.prog L9 (oneL 0 S9_0.h) Tryz.f9 [Enc.enc s, Enc.enc n] (fun _ => none) 0 (fun v _ _ => R v) = ( bif decide (ByteArray.size s ≤ 9223372036854775807) then bif pE (bz s) != 0 || true then bif pE (bz s) != 0 || !pN (bz s) then bif decide (ByteArray.size s ≤ 9223372036854775807) then R (.bool (pE (bz s) == pE (bz s))) else False else bif decide (ByteArray.size s ≤ 9223372036854775807) then bif decide (ByteArray.size s ≤ 9223372036854775807 ∧ -9223372036854775808 ≤ wiZ (bz s) n ∧ wiZ (bz s) n ≤ 9223372036854775807) then bif decide (ByteArray.size s ≤ 9223372036854775807 ∧ -9223372036854775808 ≤ wiZ (bz s) n ∧ wiZ (bz s) n ≤ 9223372036854775807) then bif edE (bz s) (pQ (bz s)) != 0 || (nE (bz s) != 0 || true) then bif edE (bz s) (pQ (bz s)) != 0 || (nE (bz s) != 0 || (↑(ByteArray.size (sz (edS (bz s) (wiZ (bz s) n) (pQ (bz s))))) : Int) != pW (bz s)) then R (.bool false) else bif decide (ByteArray.size s ≤ 9223372036854775807) then bif decide (0 ≤ pD (bz s) ∧ pD (bz s) ≤ 1000 ∧ -9223372036854775808 ≤ wiZ (bz s) n ∧ wiZ (bz s) n ≤ 9223372036854775807) then bif LSpec.pre S9_0 (false, sz (pS (bz s)), pN (bz s), pW (bz s), pD (bz s), pQ (bz s), pG (bz s), sz (edS (bz s) (wiZ (bz s) n) (pQ (bz s))), leZ (bz s) (wiZ (bz s) n), sz (roZ (bz s)), sz (digZ (↑(Int.natAbs (wiZ (bz s) n)) : Int) (Int.toNat (pD (bz s)))), 0, 0, 0) then bif suGo (leZ (bz s) (wiZ (bz s) n)) (List.drop (Int.toNat 0) (bz (sz (roZ (bz s))))) (List.drop (Int.toNat 0) (bz (sz (pS (bz s))))) (List.drop (Int.toNat 0) (bz (sz (edS (bz s) (wiZ (bz s) n) (pQ (bz s)))))) (List.drop (Int.toNat 0) (bz (sz (digZ (↑(Int.natAbs (wiZ (bz s) n)) : Int) (Int.toNat (pD (bz s))))))) 0 then ∀ (o' d' : Int) (x : Tmps), R (.bool true) else ∀ (o' d' i' : Int) (x : Tmps), R (.bool false) else False else False else False else False else False else False else False else False else False) := by kernel_rfl
theorem ok9 : PureOK Tryz.prog 9 (sp2 s9) := by
 refine qure2 ok_L9 hmix fn9 l9_0 (Nat.le_of_ble_eq_true (by kernel_rfl)) fun s n hc => ?_
 rw [DoesQ, v9]
 have hc : (s.size ≤ 9223372036854775807) := of_decide_eq_true hc
 try dsimp only [s9]
 rw [pe_pn]
 refine c_t (decide_eq_true hc) (c_t (by simp) (cond_intro (fun h => ?_) (fun h => ?_)))
 ·refine c_t (decide_eq_true hc) ?_
  simp
 have h : pN (bz s) = true := by simpa using h
 obtain ⟨w1, w2⟩ := wi_rng h n
 have w3 := wi_64 (bz s) n
 have hp := pD_rng h
 have hw := @pW_rng s
 generalize wiZ (bz s) n = m at *
 obtain ⟨e1, e2, e3⟩ := ed_in h w1 w2
 have H := hd_mk h w1 w2
 have hz := size_fdN h m
 have q1 := H.zm
 have q2 := H.zs
 have q3 := H.zd
 have q4 := H.l32
 have q5 := H.nv
 have q6 := H.pd
 have z0 : Int.toNat 0 = 0 := rfl
 rw [e1, e3, H.nE, H.le, hz]
 simp only [z0, List.drop_zero]
 rw [H.ms, H.sp, H.ds, bz_fdN, su_law h w1]
 refine c_t (decide_eq_true hc) (c_t (decide_eq_true ⟨hc, w3⟩) (c_t (decide_eq_true ⟨hc, w3⟩) (c_t rfl (c_f (by simp) (c_t (decide_eq_true hc) (c_t (decide_eq_true (by omega)) (c_t ?_ (fun _ _ _ => trivial))))))))
 simp only [S9_0, decide_eq_true_eq, z0, List.drop_zero]
 rw [H.ms, hz]
 omega
end Go.Px
end
noncomputable section
set_option maxHeartbeats 3200000
namespace Go.Px
open Go Go.Ab Go.Proofs Go.Shelf
def L10 : Env := ((((((((Env.nil.add 19 (sp0 s19)).add 30 (sp1 s30)).add 33 (sp1 s33)).add 32 (sp2 s32)).add 20 (sp3 s20)).add 36 (sp2 s36)).add 37 (sp1 s37)).add 40 (sp2 s40))
theorem ok_L10 : EnvOK Tryz.prog L10 := env_add (env_add (env_add (env_add (env_add (env_add (env_add (env_add (env_nil) ok19) ok30) ok33) ok32) ok20) ok36) ok37) ok40
def sgO (le o m c : Int) : Bool := m == 115 || (o == le - 1 || m == 100 && hasZ [84, 73, 82] c)
def sgGo (le : Int) : List Int → List Int → List Int → List Int → Int → Bool
 | [], _, _, _, _ => true
 | m :: r, sp, a, b, o => bif m == 118 then sgGo le r sp.tail a b o
  else bif !sgO le o m (sp.headD 0) && a.headD 0 != b.headD 0 then false
  else sgGo le r sp.tail a.tail b.tail (o + 1)
def V10_0 : Bool × ByteArray × Bool × Int × Int × Int × Bool × ByteArray × ByteArray × Int × ByteArray × Int × Int → List Value := fun (r, z, zb, z1, z2, z3, zg, a, b, le, ms, o, i) => [B r, .pointer (some ⟨8, 0, some 0⟩), S a, S b, I le, S ms, I o, I i]
def B10_0 : Bool × ByteArray × Bool × Int × Int × Int × Bool × ByteArray × ByteArray × Int × ByteArray × Int × Int → List (Option Blk) := fun (r, z, zb, z1, z2, z3, zg, a, b, le, ms, o, i) => [some ⟨[S z, B zb, I z1, I z2, I z3, B zg], 36, true⟩]
def S10_0 : LSpec (Bool × ByteArray × Bool × Int × Int × Int × Bool × ByteArray × ByteArray × Int × ByteArray × Int × Int) where
 live := [4, 5, 11, 14, 17, 21, 23, 24]
 mid := [8]
 n := 120
 dec vs bs := match vs, bs with | [.bool r, .pointer (some ⟨8, 0, some 0⟩), .string a, .string b, .int .i64 le, .string ms, .int .i64 o, .int .i64 i], [some ⟨[.string z, .bool zb, .int .i64 z1, .int .i64 z2, .int .i64 z3, .bool zg], 36, true⟩] => some (r, z, zb, z1, z2, z3, zg, a, b, le, ms, o, i) | _, _ => none
 pre := fun (r, z, zb, z1, z2, z3, zg, a, b, le, ms, o, i) => decide (0 ≤ i ∧ i ≤ ms.size ∧ ms.size ≤ 1000 ∧ ms.size = z.size ∧ 0 ≤ o ∧ o + nv ((bz ms).drop i.toNat) = a.size ∧ a.size ≤ 1000 ∧ b.size = a.size ∧ 0 ≤ le ∧ le ≤ 1000)
 fin := fun (r, z, zb, z1, z2, z3, zg, a, b, le, ms, o, i) Z => bif sgGo le ((bz ms).drop i.toNat) ((bz z).drop i.toNat) ((bz a).drop o.toNat) ((bz b).drop o.toNat) o then (∀ o', Z (.exit 0) [B r, .pointer (some ⟨8, 0, some 0⟩), S a, S b, I le, S ms, I o', I ms.size] [some ⟨[S z, B zb, I z1, I z2, I z3, B zg], 36, true⟩]) else (∀ o' i', Z .ret [B false, .pointer (some ⟨8, 0, some 0⟩), S a, S b, I le, S ms, I o', I i'] [some ⟨[S z, B zb, I z1, I z2, I z3, B zg], 36, true⟩])
theorem r10_0 (r : Bool) (z : ByteArray) (zb : Bool) (z1 : Int) (z2 : Int) (z3 : Int) (zg : Bool) (a : ByteArray) (b : ByteArray) (le : Int) (ms : ByteArray) (o : Int) (i : Int) (jk : Tmps) (R : Exit → List Value → List (Option Blk) → Prop) : (codeQ Tryz.prog L10 noL Tryz.f10.ntmps (loopOf Tryz.f10 0) (tl S10_0.live (V10_0 (r, z, zb, z1, z2, z3, zg, a, b, le, ms, o, i)) jk) (ml S10_0.mid (B10_0 (r, z, zb, z1, z2, z3, zg, a, b, le, ms, o, i))) S10_0.n fun e t' m' _ => R e (List.map t' S10_0.live) (List.map m' S10_0.mid)) = ( bif decide (i < (↑(ByteArray.size ms) : Int)) then bif decide (0 ≤ i ∧ i < (↑(ByteArray.size ms) : Int)) then bif byteAt ms (Int.toNat i) == 118 then R Exit.normal [.bool r, .pointer (some (.mk 8 0 (some 0))), .string a, .string b, .int .i64 le, .string ms, .int .i64 o, .int .i64 (IntKind.wrap .i64 (i + 1))] [some (.mk [.string z, .bool zb, .int .i64 z1, .int .i64 z2, .int .i64 z3, .bool zg] 36 true)] else bif decide (0 ≤ i ∧ i < (↑(ByteArray.size ms) : Int)) && (byteAt ms (Int.toNat i) == 115 || (o == IntKind.wrap .i64 (le - 1) || decide (0 ≤ i ∧ i < (↑(ByteArray.size ms) : Int)) && bif byteAt ms (Int.toNat i) == 100 then decide (0 ≤ i ∧ i < (↑(ByteArray.size z) : Int)) && true else true)) then bif bif !(byteAt ms (Int.toNat i) == 115 || (o == IntKind.wrap .i64 (le - 1) || byteAt ms (Int.toNat i) == 100 && hasZ (bz (ByteArray.mk #[84, 73, 82])) (byteAt z (Int.toNat i)))) then decide (0 ≤ o ∧ o < (↑(ByteArray.size a) : Int)) && (decide (0 ≤ o ∧ o < (↑(ByteArray.size b) : Int)) && true) else true then bif !(byteAt ms (Int.toNat i) == 115 || (o == IntKind.wrap .i64 (le - 1) || byteAt ms (Int.toNat i) == 100 && hasZ (bz (ByteArray.mk #[84, 73, 82])) (byteAt z (Int.toNat i)))) && byteAt a (Int.toNat o) != byteAt b (Int.toNat o) then R Exit.ret [.bool false, .pointer (some (.mk 8 0 (some 0))), .string a, .string b, .int .i64 le, .string ms, .int .i64 o, .int .i64 i] [some (.mk [.string z, .bool zb, .int .i64 z1, .int .i64 z2, .int .i64 z3, .bool zg] 36 true)] else R Exit.normal [.bool r, .pointer (some (.mk 8 0 (some 0))), .string a, .string b, .int .i64 le, .string ms, .int .i64 (IntKind.wrap .i64 (o + 1)), .int .i64 (IntKind.wrap .i64 (i + 1))] [some (.mk [.string z, .bool zb, .int .i64 z1, .int .i64 z2, .int .i64 z3, .bool zg] 36 true)] else False else False else False else R (Exit.exit 0) [.bool r, .pointer (some (.mk 8 0 (some 0))), .string a, .string b, .int .i64 le, .string ms, .int .i64 o, .int .i64 i] [some (.mk [.string z, .bool zb, .int .i64 z1, .int .i64 z2, .int .i64 z3, .bool zg] 36 true)]) := by kernel_rfl
theorem l10_0 : LOKf Tryz.prog (oneL 0 S10_0.h) Tryz.f10 := by
 refine lokf_one (h := S10_0.h) (by kernel_rfl) (loop_specQ ok_L10 hmix (by kernel_rfl) (lok_none _) S10_0 V10_0 B10_0 (fun (r, z, zb, z1, z2, z3, zg, a, b, le, ms, o, i) => (ms.size - i).toNat) ?_ ?_ ?_)
 ·intro vs bs s h
  simp only [S10_0] at h
  split at h
  all_goals first | (cases h; exact ⟨rfl, rfl⟩) | cases h | (split at h <;> first | (rename_i hq; cases h; have hq := Nat.eq_of_beq_eq_true hq; subst hq; exact ⟨rfl, rfl⟩) | cases h)
 ·exact fun _ _ _ h => h
 ·intro ⟨r, z, zb, z1, z2, z3, zg, a, b, le, ms, o, i⟩ jk Z hp hf
  rw [r10_0]
  simp only [S10_0] at hp hf
  simp only [decide_eq_true_eq] at hp
  obtain ⟨h1, h2, h3, h4, h5, h6, h7, h8, h9, h10⟩ := hp
  have e4 : bz (ByteArray.mk #[84, 73, 82]) = [84, 73, 82] := rfl
  rw [e4]
  refine cond_intro (fun h => ?_) (fun h => ?_)
  ·have h := of_decide_eq_true h
   have g1 : decide (0 ≤ i ∧ i < (ms.size : Int)) = true := decide_eq_true (by omega)
   have g2 : decide (0 ≤ i ∧ i < (z.size : Int)) = true := decide_eq_true (by omega)
   rw [bz_at h1 h, nv_cons] at h6
   rw [bz_at h1 h, bz_at (s := z) h1 (by omega), sgGo, List.tail_cons, List.headD_cons] at hf
   have fin : ∀ (o2 : Int), 0 ≤ o2 → o2 + nv ((bz ms).drop (i + 1).toNat) = a.size →
     (bif sgGo le ((bz ms).drop (i + 1).toNat) ((bz z).drop (i + 1).toNat) ((bz a).drop o2.toNat) ((bz b).drop o2.toNat) o2 then (∀ o', Z (.exit 0) [B r, .pointer (some ⟨8, 0, some 0⟩), S a, S b, I le, S ms, I o', I ms.size] [some ⟨[S z, B zb, I z1, I z2, I z3, B zg], 36, true⟩]) else (∀ o' i', Z .ret [B false, .pointer (some ⟨8, 0, some 0⟩), S a, S b, I le, S ms, I o', I i'] [some ⟨[S z, B zb, I z1, I z2, I z3, B zg], 36, true⟩])) →
     S10_0.step V10_0 B10_0 (fun (r, z, zb, z1, z2, z3, zg, a, b, le, ms, o, i) => (ms.size - i).toNat) (r, z, zb, z1, z2, z3, zg, a, b, le, ms, o, i) Z Exit.normal
      [B r, .pointer (some ⟨8, 0, some 0⟩), S a, S b, I le, S ms, I o2, I (IntKind.wrap .i64 (i + 1))] [some ⟨[S z, B zb, I z1, I z2, I z3, B zg], 36, true⟩] := by
    intro o2 q1 q2 q5
    rw [w64 (n := i + 1) (by omega)]
    exact ⟨(r, z, zb, z1, z2, z3, zg, a, b, le, ms, o2, i + 1), rfl, rfl, by simp only [S10_0, decide_eq_true_eq]; exact ⟨by omega, by omega, h3, h4, q1, q2, h7, h8, h9, h10⟩, by simp only; omega, q5⟩
   refine c_t g1 (cond_intro (fun q => ?_) (fun q => ?_))
   ·rw [q, cond_true] at hf
    rw [eq_of_beq q, if_pos rfl, Nat.zero_add] at h6
    exact fin o h5 h6 hf
   ·have hne : byteAt ms i.toNat ≠ 118 := by simpa using q
    rw [q, cond_false] at hf
    rw [if_neg hne] at h6
    have ho : o < a.size := by omega
    have g3 : decide (0 ≤ o ∧ o < (a.size : Int)) = true := decide_eq_true (by omega)
    have g4 : decide (0 ≤ o ∧ o < (b.size : Int)) = true := decide_eq_true (by omega)
    rw [bz_at h5 ho, bz_at (s := b) h5 (by omega), List.headD_cons, List.headD_cons, List.tail_cons, List.tail_cons] at hf
    rw [w64 (n := o + 1) (by omega), w64 (n := le - 1) (by omega), g1, g2, g3, g4]
    have ec : (byteAt ms i.toNat == 115 || (o == le - 1 || byteAt ms i.toNat == 100 && hasZ [84, 73, 82] (byteAt z i.toNat))) = sgO le o (byteAt ms i.toNat) (byteAt z i.toNat) := rfl
    rw [ec]
    refine c_t (by cases byteAt ms i.toNat == 115 <;> cases o == le - 1 <;> cases byteAt ms i.toNat == 100 <;> rfl) (c_t (by cases !sgO le o (byteAt ms i.toNat) (byteAt z i.toNat) <;> rfl) (cond_intro (fun q => ?_) (fun q => ?_)))
    ·rw [q] at hf
     exact hf o i
    ·rw [q, cond_false] at hf
     exact fin (o + 1) (by omega) (by omega) hf
  ·have h := of_decide_eq_false h
   have e : i = ms.size := by omega
   rw [bz_end (s := ms) (by omega), sgGo, cond_true] at hf
   rw [e]
   exact hf o
end Go.Px
end
noncomputable section
namespace Go.Px
open Go Go.Ab Go.Proofs
theorem cel_same {le fill dr m c d o : Int} (hm : mcOK m c) (h118 : m ≠ 118) (h : sgO le o m c = false) (hdig : m ≠ 105 → m ≠ 118 → isP m = false → m = 109 → c = 36) (hms : m = 100 ∨ m = 99 ∨ m = 105 ∨ m = 115 ∨ m = 109) :
  celZ le fill dr false m c d o = celZ le fill dr true m c d o := by
 simp only [sgO, Bool.or_eq_false_iff, Bool.and_eq_false_imp] at h
 obtain ⟨h1, h2, h3⟩ := h
 have e0 : (dr != 0 && o == le - 1) = false := by rw [h2, Bool.and_false]
 rw [celZ, celZ, e0, cond_false, cond_false, cel0, cel0]
 rcases hms with rfl | rfl | rfl | rfl | rfl
 ·have hT := h3 rfl
  have hne : ∀ x ∈ [84, 73, (82 : Int)], c ≠ x := fun x hx q => by rw [q, hasZ_iff.2 hx] at hT; cases hT
  show fmZ c d false = fmZ c d true
  unfold fmZ
  rw [if_neg (c := (c = 84 ∨ (c = 73 ∧ false = false) ∨ (c = 82 ∧ false = true))), if_neg (c := (c = 84 ∨ (c = 73 ∧ true = false) ∨ (c = 82 ∧ true = true)))]
  ·rintro (q | q | q)
   ·exact hne 84 (by simp) q
   ·exact hne 73 (by simp) q.1
   ·exact hne 82 (by simp) q.1
  ·rintro (q | q | q)
   ·exact hne 84 (by simp) q
   ·exact hne 73 (by simp) q.1
   ·exact hne 82 (by simp) q.1
 ·rfl
 ·rfl
 ·cases h1
 ·have : c = 36 := hdig (by decide) (by decide) rfl rfl
  subst this
  show ssZ 36 dr false = ssZ 36 dr true
  unfold ssZ
  cases dr != 0 && 36 == dr <;> rfl
def mkL : List Int → List Int → Prop
 | [], _ => True
 | m :: r, sp => ((m = 100 ∨ m = 99 ∨ m = 105 ∨ m = 115 ∨ m = 109 ∨ m = 118) ∧ (m = 109 → sp.headD 0 = 36)) ∧ mkL r sp.tail
theorem mk1_mk (dr : Int) (seen : Bool) (c : Int) : (mk1 dr seen c = 100 ∨ mk1 dr seen c = 99 ∨ mk1 dr seen c = 105 ∨ mk1 dr seen c = 115 ∨ mk1 dr seen c = 109 ∨ mk1 dr seen c = 118) ∧ (mk1 dr seen c = 109 → c = 36) := by
 unfold mk1
 cases hasZ [57, 89, 84, 73, 82] c with
 | true => rw [cond_true]; exact ⟨.inl rfl, fun q => absurd q (by decide)⟩
 | false =>
  rw [cond_false]
  cases hasZ [90, 42] c || (dr != 0 && (c == dr && seen)) with
  | true => rw [cond_true]; exact ⟨.inr (.inl rfl), fun q => absurd q (by decide)⟩
  | false =>
   rw [cond_false]
   cases c == 86 with
   | true => rw [cond_true]; exact ⟨by simp, fun q => absurd q (by decide)⟩
   | false =>
    rw [cond_false]
    cases h4 : c == 36 with
    | true => rw [cond_true]; exact ⟨by simp, fun _ => eq_of_beq h4⟩
    | false =>
     rw [cond_false]
     cases hasZ [83, 43, 45] c with
     | true => rw [cond_true]; exact ⟨by simp, fun q => absurd q (by decide)⟩
     | false => exact ⟨by simp, fun q => absurd q (by decide)⟩
theorem mkL_app : ∀ (a b sp : List Int), mkL a sp → mkL b (sp.drop a.length) → mkL (a ++ b) sp
 | [], _, _, _, h => h
 | m :: a, b, sp, h1, h2 => ⟨h1.1, mkL_app a b sp.tail h1.2 (by rw [List.drop_tail]; exact h2)⟩
theorem mk_mk (dr : Int) : ∀ (l : List Int) (seen : Bool) (t : List Int), mkL (mkGo dr seen l) (l ++ t)
 | [], _, _ => trivial
 | c :: r, seen, t => ⟨mk1_mk dr seen c, mk_mk dr r _ t⟩
theorem marks_mk (l : List Int) : mkL (marksZ l) l := by
 obtain ⟨t, ht, ht2⟩ := body_app l
 rw [marks_eq]
 refine mkL_app _ _ _ ?_ ?_
 ·conv => rhs; rw [ht]
  exact mk_mk _ _ _ _
 ·unfold tmZ
  split
  ·exact ⟨⟨by simp, fun q => absurd q (by decide)⟩, ⟨by simp, fun q => absurd q (by decide)⟩, trivial⟩
  ·trivial
theorem sg_fs {le fill dr : Int} : ∀ (ms sp ds : List Int) (o : Int), mcL ms sp → mkL ms sp → sgGo le ms sp (fsGo le fill dr false ms sp ds o) (fsGo le fill dr true ms sp ds o) o = true
 | [], _, _, _, _, _ => rfl
 | m :: r, sp, ds, o, h1, h2 => by
  rw [fsGo, fsGo, sgGo]
  by_cases hm : m = 118
  ·subst hm
   exact sg_fs r _ ds o h1.2 h2.2
  ·have e : (m == 118) = false := beq_eq_false_iff_ne.2 hm
   rw [e, cond_false, cond_false, cond_false, List.headD_cons, List.headD_cons, List.tail_cons, List.tail_cons]
   have hc : (!sgO le o m (sp.headD 0) && celZ le fill dr false m (sp.headD 0) (ds.headD 0) o != celZ le fill dr true m (sp.headD 0) (ds.headD 0) o) = false := by
    cases hs : sgO le o m (sp.headD 0) with
    | true => rfl
    | false =>
     have hms : m = 100 ∨ m = 99 ∨ m = 105 ∨ m = 115 ∨ m = 109 := by
      rcases h2.1.1 with q | q | q | q | q | q <;> simp_all
     rw [cel_same h1.1 hm hs (fun _ _ _ q => h2.1.2 q) hms]
     simp
   rw [hc]
   exact sg_fs r _ _ (o + 1) h1.2 h2.2
theorem sg_law {s : ByteArray} (h : pN (bz s) = true) {n : Int} (hn : (n.natAbs : Int) < tenZ (pD (bz s)).toNat) (h0 : 0 < n) :
  sgGo (fdLe (pS (bz s)) (pW (bz s)) (pD (bz s)).toNat n) (marksZ (pS (bz s))) (pS (bz s)) (fdN (bz s) n) (fdN (bz s) (0 - n)) 0 = true ∧
  sgGo (fdLe (pS (bz s)) (pW (bz s)) (pD (bz s)).toNat n) (marksZ (pS (bz s))) (pS (bz s)) (fdN (bz s) (0 - n)) (fdN (bz s) n) 0 = true := by
 have hl := pS_len s
 obtain ⟨_, _, p3, p4, _, p6⟩ := pN_ok hl h n
 obtain ⟨_, _, _, _, _, p7⟩ := pN_ok hl h (0 - n)
 have hS : pS (bz s) = exZ (bz s) := by rw [pS, if_pos (pN_vOK h)]
 have hK : allK (pS (bz s)) = true := by rw [hS]; exact ex_kL _
 have b1 : fdBl (pS (bz s)) (pW (bz s)) (pD (bz s)).toNat n = false := by
  cases e : fdBl (pS (bz s)) (pW (bz s)) (pD (bz s)).toNat n with
  | false => rfl
  | true => have := fdBl_zero e; omega
 have b2 : fdBl (pS (bz s)) (pW (bz s)) (pD (bz s)).toNat (0 - n) = false := by
  cases e : fdBl (pS (bz s)) (pW (bz s)) (pD (bz s)).toNat (0 - n) with
  | false => rfl
  | true => have := fdBl_zero e; omega
 have ea : (0 - n).natAbs = n.natAbs := by omega
 rw [fdN, fdN, field_fs p6, field_fs p7, b1, b2, fdLe_neg, ea, decide_eq_false (show ¬ n < 0 by omega), decide_eq_true (show 0 - n < 0 by omega), cond_false, cond_false]
 refine ⟨sg_fs _ _ _ _ (marks_mc hK) (marks_mk _), ?_⟩
 have sym : ∀ (ms sp a b : List Int) (o : Int), sgGo (fdLe (pS (bz s)) (pW (bz s)) (pD (bz s)).toNat n) ms sp a b o = sgGo (fdLe (pS (bz s)) (pW (bz s)) (pD (bz s)).toNat n) ms sp b a o := by
  intro ms
  induction ms with
  | nil => intros; rfl
  | cons m r ih =>
   intro sp a b o
   rw [sgGo, sgGo, ih sp.tail a b, ih sp.tail a.tail b.tail]
   have : (a.headD 0 != b.headD 0) = (b.headD 0 != a.headD 0) := by
    by_cases e : a.headD 0 = b.headD 0
    ·rw [e]
    ·rw [bne_iff_ne.2 e, bne_iff_ne.2 (Ne.symm e)]
   rw [this]
 rw [sym]
 exact sg_fs _ _ _ _ (marks_mc hK) (marks_mk _)
end Go.Px
end
noncomputable section
set_option maxHeartbeats 3200000
namespace Go.Px
open Go Go.Ab Go.Proofs Go.Shelf
def s10 (s : ByteArray) (n : Int) : Bool × Value := (decide (s.size ≤ 9223372036854775807), .bool true)
theorem fn10 : Fn1 Tryz.prog 10 Tryz.f10 := ⟨Tryz.func10, by kernel_rfl, by kernel_rfl, by kernel_rfl⟩
theorem v10 (s : ByteArray) (n : Int) (R : Value → Prop) : bodyQ Tryz.prog L10 (oneL 0 S10_0.h) Tryz.f10 [Enc.enc s, Enc.enc n] (fun _ => none) 0 (fun v _ _ => R v) = ( bif decide (ByteArray.size s ≤ 9223372036854775807) then bif pE (bz s) != 0 || true then bif pE (bz s) != 0 || !pN (bz s) then bif decide (ByteArray.size s ≤ 9223372036854775807) then R (.bool (pE (bz s) == pE (bz s))) else False else bif decide (ByteArray.size s ≤ 9223372036854775807) then bif !pG (bz s) || true then bif !pG (bz s) || wiZ (bz s) n == 0 then bif decide (ByteArray.size s ≤ 9223372036854775807 ∧ -9223372036854775808 ≤ -1 ∧ -1 ≤ 9223372036854775807) then bif edE (bz s) (pQ (bz s)) == 0 || true then R (.bool (edE (bz s) (pQ (bz s)) == 0 && edF (bz s) (-1) (pQ (bz s)) == pG (bz s))) else False else False else bif decide (ByteArray.size s ≤ 9223372036854775807 ∧ -9223372036854775808 ≤ wiZ (bz s) n ∧ wiZ (bz s) n ≤ 9223372036854775807) then bif decide (ByteArray.size s ≤ 9223372036854775807 ∧ -9223372036854775808 ≤ IntKind.wrap .i64 (0 - wiZ (bz s) n) ∧ IntKind.wrap .i64 (0 - wiZ (bz s) n) ≤ 9223372036854775807) then bif decide (ByteArray.size s ≤ 9223372036854775807 ∧ -9223372036854775808 ≤ wiZ (bz s) n ∧ wiZ (bz s) n ≤ 9223372036854775807) then bif decide (ByteArray.size s ≤ 9223372036854775807 ∧ -9223372036854775808 ≤ IntKind.wrap .i64 (0 - wiZ (bz s) n) ∧ IntKind.wrap .i64 (0 - wiZ (bz s) n) ≤ 9223372036854775807) then bif !edF (bz s) (wiZ (bz s) n) (pQ (bz s)) || (!edF (bz s) (IntKind.wrap .i64 (0 - wiZ (bz s) n)) (pQ (bz s)) || (leZ (bz s) (wiZ (bz s) n) != leZ (bz s) (IntKind.wrap .i64 (0 - wiZ (bz s) n)) || ((↑(ByteArray.size (sz (edS (bz s) (wiZ (bz s) n) (pQ (bz s))))) : Int) != pW (bz s) || ((↑(ByteArray.size (sz (edS (bz s) (IntKind.wrap .i64 (0 - wiZ (bz s) n)) (pQ (bz s))))) : Int) != pW (bz s) || true)))) then bif !edF (bz s) (wiZ (bz s) n) (pQ (bz s)) || (!edF (bz s) (IntKind.wrap .i64 (0 - wiZ (bz s) n)) (pQ (bz s)) || (leZ (bz s) (wiZ (bz s) n) != leZ (bz s) (IntKind.wrap .i64 (0 - wiZ (bz s) n)) || ((↑(ByteArray.size (sz (edS (bz s) (wiZ (bz s) n) (pQ (bz s))))) : Int) != pW (bz s) || ((↑(ByteArray.size (sz (edS (bz s) (IntKind.wrap .i64 (0 - wiZ (bz s) n)) (pQ (bz s))))) : Int) != pW (bz s) || ByteArray.toList (sz (edS (bz s) (wiZ (bz s) n) (pQ (bz s)))) == ByteArray.toList (sz (edS (bz s) (IntKind.wrap .i64 (0 - wiZ (bz s) n)) (pQ (bz s)))))))) then R (.bool false) else bif decide (ByteArray.size s ≤ 9223372036854775807) then bif LSpec.pre S10_0 (false, sz (pS (bz s)), pN (bz s), pW (bz s), pD (bz s), pQ (bz s), pG (bz s), sz (edS (bz s) (wiZ (bz s) n) (pQ (bz s))), sz (edS (bz s) (IntKind.wrap .i64 (0 - wiZ (bz s) n)) (pQ (bz s))), leZ (bz s) (wiZ (bz s) n), sz (roZ (bz s)), 0, 0) then bif sgGo (leZ (bz s) (wiZ (bz s) n)) (List.drop (Int.toNat 0) (bz (sz (roZ (bz s))))) (List.drop (Int.toNat 0) (bz (sz (pS (bz s))))) (List.drop (Int.toNat 0) (bz (sz (edS (bz s) (wiZ (bz s) n) (pQ (bz s)))))) (List.drop (Int.toNat 0) (bz (sz (edS (bz s) (IntKind.wrap .i64 (0 - wiZ (bz s) n)) (pQ (bz s)))))) 0 then ∀ (o' : Int) (x : Tmps), R (.bool true) else ∀ (o' i' : Int) (x : Tmps), R (.bool false) else False else False else False else False else False else False else False else False else False else False else False) := by kernel_rfl
theorem ok10 : PureOK Tryz.prog 10 (sp2 s10) := by
 refine qure2 ok_L10 hmix fn10 l10_0 (Nat.le_of_ble_eq_true (by kernel_rfl)) fun s n hc => ?_
 rw [DoesQ, v10]
 have hc : (s.size ≤ 9223372036854775807) := of_decide_eq_true hc
 try dsimp only [s10]
 rw [pe_pn]
 refine c_t (decide_eq_true hc) (c_t (by simp) (cond_intro (fun h => ?_) (fun h => ?_)))
 ·refine c_t (decide_eq_true hc) ?_
  simp
 have h : pN (bz s) = true := by simpa using h
 obtain ⟨w1, w2⟩ := wi_rng h n
 have w3 := wi_64 (bz s) n
 have hp := pD_rng h
 have hw := @pW_rng s
 have h9 := ten_9 h
 generalize wiZ (bz s) n = m at *
 refine c_t (decide_eq_true hc) (c_t (by simp) (cond_intro (fun g => ?_) (fun g => ?_)))
 ·refine c_t (decide_eq_true ⟨hc, by decide, by decide⟩) (c_t (by simp) ?_)
  have h10 : 10 ≤ tenZ (pD (bz s)).toNat := tenZ_mono (a := 1) (by omega)
  have hq : 0 ≤ pQ (bz s) ∧ pQ (bz s) ≤ 9 := by omega
  have e1 : edE (bz s) (pQ (bz s)) = 0 := by rw [edE, if_pos h, if_pos hq]
  have e2 : edF (bz s) (-1) (pQ (bz s)) = pG (bz s) := by
   rw [edF, if_pos ⟨h, hq⟩, cuF, cuV, cuM_same]
   have e : (((-1 : Int).natAbs : Nat) : Int) = 1 := rfl
   rw [e, Int.emod_eq_of_lt (by omega) (by omega), decide_eq_true (show (1 : Int) < tenZ (pD (bz s)).toNat by omega)]
   cases pG (bz s) <;> rfl
  rw [e1, e2]
  simp
 simp only [Bool.or_eq_false_iff, Bool.not_eq_false', beq_eq_false_iff_ne] at g
 obtain ⟨g1, g2⟩ := g
 have ea : (0 - m).natAbs = m.natAbs := by omega
 obtain ⟨e1, e2, e3⟩ := ed_in h w1 w2
 obtain ⟨f1, f2, f3⟩ := ed_in h (n := 0 - m) (by rw [ea]; exact w1) (fun _ => g1)
 have H := hd_mk h w1 w2
 have H2 := hd_mk h (m := 0 - m) (by rw [ea]; exact w1) (fun _ => g1)
 have hz := size_fdN h m
 have hz2 := size_fdN h (0 - m)
 have q1 := H.zm
 have q2 := H.zs
 have q4 := H.l32
 have q5 := H.nv
 have hl := pS_len s
 have k1 : fdN (bz s) m ≠ fdN (bz s) (0 - m) := by
  by_cases m0 : 0 < m
  ·exact field_ne hl h g1 w1 m0
  ·have := field_ne hl h g1 (n := 0 - m) (by rw [ea]; exact w1) (by omega)
   rw [show 0 - (0 - m) = m by omega] at this
   exact fun q => this q.symm
 have k2 : sgGo (fdLe (pS (bz s)) (pW (bz s)) (pD (bz s)).toNat m) (marksZ (pS (bz s))) (pS (bz s)) (fdN (bz s) m) (fdN (bz s) (0 - m)) 0 = true := by
  by_cases m0 : 0 < m
  ·exact (sg_law h w1 m0).1
  ·have := (sg_law h (n := 0 - m) (by rw [ea]; exact w1) (by omega)).2
   rw [show 0 - (0 - m) = m by omega, fdLe_neg] at this
   exact this
 have z0 : Int.toNat 0 = 0 := rfl
 have hb : (ByteArray.toList (sz (fdN (bz s) m)) == ByteArray.toList (sz (fdN (bz s) (0 - m)))) = false := by
  rw [toList_beq, bz_fdN, bz_fdN]
  exact decide_eq_false k1
 rw [w64 (n := 0 - m) (by omega), e1, e2, f1, f2, H.le, H2.le, fdLe_neg, hz, hz2, hb]
 simp only [z0, List.drop_zero]
 rw [H.ms, H.sp, bz_fdN, bz_fdN, k2]
 have d1 := decide_eq_true (show s.size ≤ 9223372036854775807 ∧ -9223372036854775808 ≤ m ∧ m ≤ 9223372036854775807 from ⟨hc, w3⟩)
 have d2 := decide_eq_true (show s.size ≤ 9223372036854775807 ∧ -9223372036854775808 ≤ 0 - m ∧ 0 - m ≤ 9223372036854775807 by omega)
 have hle := (en_law hl h w1).1
 have hle2 := le_W hl h w1
 refine c_t d1 (c_t d2 (c_t d1 (c_t d2 (c_t (by simp) (c_f (by simp) (c_t (decide_eq_true hc) (c_t ?_ (fun _ _ => trivial))))))))
 simp only [S10_0, decide_eq_true_eq, z0, List.drop_zero]
 rw [H.ms, hz]
 omega
end Go.Px
end
noncomputable section
set_option maxHeartbeats 3200000
namespace Go.Px
open Go Go.Ab Go.Proofs Go.Shelf
end Go.Px
end
noncomputable section
namespace Go.Px
open Go Go.Ab Go.Proofs
end Go.Px
end
noncomputable section
set_option maxHeartbeats 3200000
namespace Go.Px
open Go Go.Ab Go.Proofs Go.Shelf
end Go.Px
end
noncomputable section
namespace Go.Px
open Go Go.Ab Go.Proofs Go.Shelf Go.ChangeMaps Go.ChangeShapes Go.WideShapes Go.ChangeAt Go.RowKit Go.Joins
open Go.Proofs.YtheglfmhbfngkaaGreatDoor
theorem own : ownKnob Tryz.prog.godebug = none := by kernel_rfl
def laidL : List (String × DataW Unit) := Rows.pictureEditsRow.laid
theorem tab_is {P : Program} {W : World} {name : String} {k : IntKind} {zs : List Int} {g : Nat} {t e : TypeId} {n : Nat} (hr : Lib.VarReads P W name (Lib.tabData k zs))
  (hg : P.globalNamed name = some g) (hty : (P.globals[g]?).map (·.type) = some t) (ht : P.underlying t = some (.array n e)) (he : P.underlying e = some (.int k)) (hce : P.cellsOf e = 1) (hct : P.cellsOf t = n) :
  g < W.heap.size ∧ ∃ ty fr, W.heap[g]? = some (.cells ⟨zs.map fun z => Value.int k z⟩ ty fr) := by
 obtain ⟨g', t', cs, fuel, p, h1, h2, h3, h4⟩ := hr
 obtain rfl := Option.some.inj (hg.symm.trans h1)
 obtain rfl := Option.some.inj (hty.symm.trans h2)
 have hc := Lib.cells_of_tab ht he hce hct h4
 unfold World.var? at h3
 rw [hg, Option.bind_some] at h3
 split at h3
 case h_2 => cases h3
 rename_i cs' ty fr hh
 have h3 := Option.some.inj h3
 refine ⟨(Array.getElem?_eq_some_iff.1 hh).1, ty, fr, ?_⟩
 rw [hh, h3]
 congr 2
 rw [← hc]
set_option maxRecDepth 100000 in
theorem tabs_of_laid {W : World} (h : laidMetH Tryz.prog laidL W) : TabsIn W.heap.size W := by
 rw [MakeChecks.laidMetH_plain _ _ _ (by kernel_rfl)] at h
 intro b r hb
 have key : ∀ b : Nat, rowsT b = some r → b = 0 ∧ r = punchedZ.map (fun n => Value.int .u8 n) ∨ b = 3 ∧ r = pow10Z.map (fun n => Value.int .u64 n) := by
  intro b hb
  unfold rowsT at hb
  split at hb
  ·cases hb; exact .inl ⟨rfl, rfl⟩
  ·cases hb; exact .inr ⟨rfl, rfl⟩
  ·cases hb
 have t5 : Tryz.prog.cellsOf 5 = 1 := by kernel_rfl
 rcases key b hb with ⟨rfl, rfl⟩ | ⟨rfl, rfl⟩
 ·have hr : Lib.VarReads Tryz.prog W "pliant/picture.punched" (Lib.tabData .u8 punchedZ) := Lib.laidMet.reads h (by unfold laidL Rows.pictureEditsRow; exact .tail _ (.tail _ (.tail _ (.tail _ (.tail _ (.tail _ (.head _)))))))
  exact tab_is hr (g := 0) (t := 91) (n := 20) (e := 5) (by kernel_rfl) (by kernel_rfl) (by kernel_rfl) (by kernel_rfl) t5 (by kernel_rfl)
 ·have hr : Lib.VarReads Tryz.prog W "internal/strconv.uint64pow10" (Lib.tabData .u64 pow10Z) := Lib.laidMet.reads h (by unfold laidL Rows.pictureEditsRow; exact .tail _ (.tail _ (.head _)))
  exact tab_is hr (g := 3) (t := 168) (n := 20) (e := 94) (by kernel_rfl) (by kernel_rfl) (by kernel_rfl) (by kernel_rfl) (by kernel_rfl) (by kernel_rfl)
def OpensP (P : Program) (t : TypeId) (α : Type) [Enc α] (Q : α → Prop) : Prop :=
 ∀ {H : Type} {enc : TypeId × Value → H} {w : World} {base : Nat} {spare : Nat → Bool} {held : Bool} {r : Reach} {b0 : Nat} {v : Value} {d : DataW H} {p : List MemPlace}, Value.okWide P w r b0 t v → DataW.Trod enc P w base spare held t v d p →
  ∃ a : α, v = Enc.enc a ∧ Q a ∧ p = [] ∧ ∀ (w' : World) (b' : Nat) (sp' : Nat → Bool) (hd' : Bool), DataW.Trod enc P w' b' sp' hd' t v d []
theorem opensP_string {P : Program} {t : TypeId} (ht : P.underlying t = some .string) : OpensP P t ByteArray fun s => s.size ≤ 9223372036854775807 := by
 intro H enc w base spare held r b0 v d p hv h
 obtain ⟨n, rfl, rfl, rfl, hw⟩ := open_string ht hv h
 exact ⟨n, rfl, Nat.le_trans hw (by decide), rfl, fun w' b' sp' hd' => shut_string ht hw⟩
theorem oS : OpensP Tryz.prog 9 ByteArray fun s => s.size ≤ 9223372036854775807 := opensP_string Tryz.underlying9
theorem opensP_int {P : Program} {t : TypeId} (ht : P.underlying t = some (.int .i64)) : OpensP P t Int fun n => -9223372036854775808 ≤ n ∧ n ≤ 9223372036854775807 := by
 intro H enc w base spare held r b0 v d p hv h
 obtain ⟨n, rfl, rfl, rfl, hw⟩ := open_int ht hv h
 exact ⟨n, rfl, by simpa [Lit.wf, IntKind.min, IntKind.max, IntKind.signed, IntKind.bits] using hw, rfl, fun w' b' sp' hd' => shut_int ht hw⟩
theorem oI : OpensP Tryz.prog 3 Int fun n => -9223372036854775808 ≤ n ∧ n ≤ 9223372036854775807 := opensP_int Tryz.underlying3
theorem opensP_bool {P : Program} {t : TypeId} (ht : P.underlying t = some .bool) : OpensP P t Bool fun _ => True := by
 intro H enc w base spare held r b0 v d p hv h
 obtain ⟨n, rfl, rfl, rfl⟩ := open_bool ht hv h
 exact ⟨n, rfl, trivial, rfl, fun w' b' sp' hd' => shut_bool ht n⟩
theorem oB : OpensP Tryz.prog 4 Bool fun _ => True := opensP_bool Tryz.underlying4
theorem opensP_u8 {P : Program} {t : TypeId} (ht : P.underlying t = some (.int .u8)) : OpensP P t U8 fun c => 0 ≤ c.n ∧ c.n ≤ 255 := by
 intro H enc w base spare held r b0 v d p hv h
 obtain ⟨n, rfl, rfl, rfl, hw⟩ := open_int ht hv h
 exact ⟨⟨n⟩, rfl, by simpa [Lit.wf, IntKind.min, IntKind.max, IntKind.signed, IntKind.bits] using hw, rfl, fun w' b' sp' hd' => shut_int ht hw⟩
theorem oC : OpensP Tryz.prog 5 U8 fun c => 0 ≤ c.n ∧ c.n ≤ 255 := opensP_u8 Tryz.underlying5
theorem plain_laid : ∀ w, laidMetH Tryz.prog laidL w = laidMet Tryz.prog laidL w := fun w => MakeChecks.laidMetH_plain _ _ _ (by kernel_rfl)
theorem jf_mk {P : Program} {f : FuncId} {fn : Func} {s : ChangeSpec} {c : OpenClaim} (hA : (c.wf (OpenSpec.ofChange s) && laidOutB P && mapsRowed P && fn.params.all (P.readableRec ·) && namedTie P c.named s.vars && (c.stops == []) && (P.stops == []) && (c.knobs == []) && (P.stopKnobs == [])) = true)
  (h1 : (c.inPlace == P.inPlace f) = true) (h2 : (c.unfollowed == P.unfollowed f) = true) (h3 : (c.recurses == P.recurses f) = true) (h4 : (c.named == P.varsNamed f) = true)
  (hR : ((c.maps == (fn.params.toList ++ s.plain.varTypes P).any (P.mapsRec ·)) && (c.ifaces == (fn.params.toList ++ s.plain.varTypes P).any (P.ifacesRec ·)) && (c.mapsOut == P.mapsAmong fn.resultTypes.toList) && (c.loops == (fn.params.toList ++ s.plain.varTypes P).any (P.loopsFrom ·)) && (c.wideKeys == (fn.params.toList ++ s.plain.varTypes P ++ fn.resultTypes.toList).any (P.wideKeysFrom ·)) && s.vars.all (P.varReadable ·) && fn.resultTypes.all (fun t => P.readableRec t && decide (t < P.types.size)) && (c.ifacesOut == fn.resultTypes.toList.any (P.ifacesRec ·)) && (c.loopsOut == fn.resultTypes.toList.any (P.loopsFrom ·)) && (c.plainKeys == P.plainKeys) && c.shortTexts.isNone && P.stopsHeard && P.mayEnter && (c.lifted == P.liftsFinal) && (P.make == some c.make) && (c.kinds == (if c.domain.isEmpty then [] else fn.params.toList.map fun t => match P.underlying t with | some (.int k) => some k | _ => none)) && (c.pinned == c.pinnedBy) && (c.veiled == (fn.params.toList ++ s.plain.varTypes P ++ fn.resultTypes.toList).any (P.veiledRec ·)) && c.veiledFits P fn.params.toList (fn.params.toList ++ s.plain.varTypes P ++ fn.resultTypes.toList)) = true) : joinedFacts P f fn s c = true := by
 unfold joinedFacts
 rw [hA, h1, h2, h3, h4]
 simp only [Bool.true_and]
 exact hR
theorem main_is : Tryz.pinned.checked.prog.mainIs = some (true, ("1071b1b82e10af2d54fdefa34d8f8e5a24ee595ac523bd215b5ede5d74a6a811" : String).toList) := by kernel_rfl
theorem looks_is : true = Tryz.pinned.checked.prog.looks [] := by kernel_rfl
end Go.Px
end
section

end
