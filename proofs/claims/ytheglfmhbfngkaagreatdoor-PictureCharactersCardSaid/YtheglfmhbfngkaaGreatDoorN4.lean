/-
  The run and the laws that serve these rows (part 4)
-/
import Derived.Test.YtheglfmhbfngkaaGreatDoorN3
set_option linter.unusedVariables false
set_option linter.unusedSimpArgs false
noncomputable section
set_option maxHeartbeats 3200000
namespace Go.Px
open Go Go.Ab Go.Proofs Go.Shelf
theorem cuN_lt (n q sc d : Int) (sg : Bool) : ((cuN n q sc d sg).natAbs : Int) < tenZ d.toNat := by
 have hm := Int.emod_nonneg (cuM n q sc) (b := tenZ d.toNat) (by have := tenZ_pos d.toNat; omega)
 have hl := Int.emod_lt_of_pos (cuM n q sc) (tenZ_pos d.toNat)
 unfold cuN cuV
 split <;> omega
theorem wr_use {s : ByteArray} (h : pN (bz s) = true) {k cap : Nat} {d : List Value} (hR : rowIOK d k cap = true) (hz : zc d k = rolF (pS (bz s))) {m : Int} (hm : (m.natAbs : Int) < tenZ (pD (bz s)).toNat) :
  w64C (sz (pS (bz s))) (sz (digZ m.natAbs (pD (bz s)).toNat)) k cap (pW (bz s)) (fdFl (pS (bz s))) d = true ∧
  wrV (bz (sz (pS (bz s)))) (pW (bz s)) (nD (bodyZ (pS (bz s)))).2.2 (crZ (pS (bz s))) (drZ (bodyZ (pS (bz s)))) (fdFl (pS (bz s))) (cntZ (mkGo (drZ (bodyZ (pS (bz s)))) false (bodyZ (pS (bz s)))) 100) (zc d k) (bz (sz (digZ m.natAbs (pD (bz s)).toNat))) (decide (m < 0)) =
   (fieldZ (pS (bz s)) (pW (bz s)) (pD (bz s)).toNat m, fdLe (pS (bz s)) (pW (bz s)) (pD (bz s)).toNat m) := by
 have hl := pS_len s
 have hr := rowIOK_iff.1 hR
 have hk : k = (pS (bz s)).length := by rw [← rol_len h, ← hz, zi_length hr]
 have b1 : bz (sz (pS (bz s))) = pS (bz s) := bz_sz hl.1
 have hdd := digZ_dg (pD (bz s)).toNat m.natAbs
 have b2 : bz (sz (digZ m.natAbs (pD (bz s)).toNat)) = digZ m.natAbs (pD (bz s)).toNat := bz_sz (dg_isB hdd)
 have z1 : (sz (pS (bz s))).size = (pS (bz s)).length := by rw [← bz_length, b1]
 have z2 : (sz (digZ m.natAbs (pD (bz s)).toNat)).size = (pD (bz s)).toNat := by rw [← bz_length, b2, digZ_len]
 obtain ⟨f1, _, f3, _⟩ := pic_facts hl h
 have hp := pD_rng h
 have hw := pN_ok hl h 0
 refine ⟨?_, by rw [b1, b2, hz]; exact wr_law hl h hm⟩
 simp only [w64C, Bool.and_eq_true, decide_eq_true_eq]
 rw [hz, b2, z1, z2, f3]
 refine ⟨hR, ?_, hdd, ⟨by omega, by omega, by omega, by omega, hw.2.2.2.1, by omega⟩, by omega, ?_⟩
 ·simp only [roOK, List.all_eq_true, decide_eq_true_eq]
  exact fun r hr => by have := f1 r hr; omega
 ·unfold fdFl
  split
  ·exact .inr rfl
  ·exact .inl rfl
def s20 (n : Int) (q : Int) (s : ByteArray) : Bool × Value := (decide (s.size ≤ 9223372036854775807 ∧ -9223372036854775808 ≤ n ∧ n ≤ 9223372036854775807), .tuple ⟨[.string (sz (edS (bz s) n q)), .bool (edF (bz s) n q), .int .i64 (edE (bz s) q)]⟩)
theorem fn20 : Fn1 Tryz.prog 20 Tryz.f20 := ⟨Tryz.func20, by kernel_rfl, by kernel_rfl, by kernel_rfl⟩
theorem v20 (n : Int) (q : Int) (s : ByteArray) (R : Value → Prop) : bodyQ Tryz.prog G37 noL Tryz.f20 [Enc.enc n, Enc.enc q, Enc.enc s] (fun _ => none) 0 (fun v _ _ => R v) = ( bif decide (ByteArray.size s ≤ 9223372036854775807) then bif pN (bz s) then ∀ (k cap : Nat) (d : List Value), rowIOK d k cap = true → zc d k = rolF (pS (bz s)) → bif decide (q < 0) || true then bif decide (q < 0) || decide (q > 9) then R (.tuple (.mk [.string (ByteArray.mk #[]), .bool false, .int .i64 1])) else bif i64B n && (decide (0 ≤ q ∧ q ≤ 9) && (decide (0 ≤ pQ (bz s) ∧ pQ (bz s) ≤ 9) && decide (0 ≤ pD (bz s) ∧ pD (bz s) ≤ 9))) then bif rowIOK d k cap && (roOK (zc d k) && (dgL (bz (sz (digZ (↑(Int.natAbs (cuN n q (pQ (bz s)) (pD (bz s)) (pG (bz s)))) : Int) (Int.toNat (pD (bz s)))))) && decide ((k ≤ 1000 ∧ ByteArray.size (sz (digZ (↑(Int.natAbs (cuN n q (pQ (bz s)) (pD (bz s)) (pG (bz s)))) : Int) (Int.toNat (pD (bz s))))) ≤ 1000 ∧ k ≤ ByteArray.size (sz (pS (bz s))) ∧ ByteArray.size (sz (pS (bz s))) ≤ 1000 ∧ 0 ≤ pW (bz s) ∧ pW (bz s) ≤ 1000) ∧ cdg (zc d k) ≤ (↑(ByteArray.size (sz (digZ (↑(Int.natAbs (cuN n q (pQ (bz s)) (pD (bz s)) (pG (bz s)))) : Int) (Int.toNat (pD (bz s)))))) : Int) ∧ (fdFl (pS (bz s)) = 32 ∨ fdFl (pS (bz s)) = 42)))) then ∀ (t : ByteArray) (l : Int), sz (Prod.fst (wrV (bz (sz (pS (bz s)))) (pW (bz s)) (Prod.snd (Prod.snd (nD (bodyZ (pS (bz s)))))) (crZ (pS (bz s))) (drZ (bodyZ (pS (bz s)))) (fdFl (pS (bz s))) (↑(cntZ (mkGo (drZ (bodyZ (pS (bz s)))) false (bodyZ (pS (bz s)))) 100) : Int) (zc d k) (bz (sz (digZ (↑(Int.natAbs (cuN n q (pQ (bz s)) (pD (bz s)) (pG (bz s)))) : Int) (Int.toNat (pD (bz s)))))) (decide (cuN n q (pQ (bz s)) (pD (bz s)) (pG (bz s)) < 0)))) = t → Prod.snd (wrV (bz (sz (pS (bz s)))) (pW (bz s)) (Prod.snd (Prod.snd (nD (bodyZ (pS (bz s)))))) (crZ (pS (bz s))) (drZ (bodyZ (pS (bz s)))) (fdFl (pS (bz s))) (↑(cntZ (mkGo (drZ (bodyZ (pS (bz s)))) false (bodyZ (pS (bz s)))) 100) : Int) (zc d k) (bz (sz (digZ (↑(Int.natAbs (cuN n q (pQ (bz s)) (pD (bz s)) (pG (bz s)))) : Int) (Int.toNat (pD (bz s)))))) (decide (cuN n q (pQ (bz s)) (pD (bz s)) (pG (bz s)) < 0))) = l → R (.tuple (.mk [.string t, .bool (cuF n q (pQ (bz s)) (pD (bz s)) (pG (bz s))), .int .i64 0])) else False else False else False else R (.tuple (.mk [.string (ByteArray.mk #[]), .bool false, .int .i64 30])) else False) := by kernel_rfl
theorem ok20 : PureOK Tryz.prog 20 (sp3 s20) := by
 refine qure3 ok_G37 hmix fn20 lokf_none (Nat.le_of_ble_eq_true (by kernel_rfl)) fun n q s hc => ?_
 rw [DoesQ, v20]
 have hc : (s.size ≤ 9223372036854775807 ∧ -9223372036854775808 ≤ n ∧ n ≤ 9223372036854775807) := of_decide_eq_true hc
 try dsimp only [s20]
 refine c_t (decide_eq_true hc.1) (cond_intro (fun h => ?_) (fun h => ?_))
 ·intro k cap d hR hz
  refine c_t (by simp) (cond_intro (fun hq => ?_) (fun hq => ?_))
  ·have hq : q < 0 ∨ q > 9 := by simpa using hq
   have h1 : ¬ (0 ≤ q ∧ q ≤ 9) := by omega
   rw [edS, edF, edE, if_neg (fun e => h1 ⟨e.2.1, e.2.2⟩), if_neg (fun e => h1 ⟨e.2.1, e.2.2⟩), if_pos h, if_neg h1, sz_nil]
  ·have hq : 0 ≤ q ∧ q ≤ 9 := by
    simp only [Bool.or_eq_false_iff, decide_eq_false_iff_not] at hq
    omega
   have hp := pD_rng h
   obtain ⟨g1, g2⟩ := wr_use h hR hz (cuN_lt n q (pQ (bz s)) (pD (bz s)) (pG (bz s)))
   refine c_t (by simp only [i64B, Bool.and_eq_true, decide_eq_true_eq]; omega) (c_t g1 fun t l h1 h2 => ?_)
   rw [g2] at h1 h2
   rw [edS, edF, edE, if_pos ⟨h, hq⟩, if_pos ⟨h, hq⟩, if_pos h, if_pos hq, ← h1]
 ·have h1 : ¬ pN (bz s) = true := by rw [h]; simp
  rw [edS, edF, edE, if_neg (fun e => h1 e.1), if_neg (fun e => h1 e.1), if_neg h1, sz_nil]
def s36 (n : Int) (s : ByteArray) : Bool × Value := (decide (s.size ≤ 9223372036854775807 ∧ -9223372036854775808 ≤ n ∧ n ≤ 9223372036854775807), .tuple ⟨[.int .i64 (leZ (bz s) n), .int .i64 (nE (bz s))]⟩)
theorem fn36 : Fn1 Tryz.prog 36 Tryz.f36 := ⟨Tryz.func36, by kernel_rfl, by kernel_rfl, by kernel_rfl⟩
theorem v36 (n : Int) (s : ByteArray) (R : Value → Prop) : bodyQ Tryz.prog G37 noL Tryz.f36 [Enc.enc n, Enc.enc s] (fun _ => none) 0 (fun v _ _ => R v) = ( bif decide (ByteArray.size s ≤ 9223372036854775807) then bif pN (bz s) then ∀ (k cap : Nat) (d : List Value), rowIOK d k cap = true → zc d k = rolF (pS (bz s)) → bif i64B n && (decide (0 ≤ pQ (bz s) ∧ pQ (bz s) ≤ 9) && (decide (0 ≤ pQ (bz s) ∧ pQ (bz s) ≤ 9) && decide (0 ≤ pD (bz s) ∧ pD (bz s) ≤ 9))) then bif rowIOK d k cap && (roOK (zc d k) && (dgL (bz (sz (digZ (↑(Int.natAbs (cuN n (pQ (bz s)) (pQ (bz s)) (pD (bz s)) (pG (bz s)))) : Int) (Int.toNat (pD (bz s)))))) && decide ((k ≤ 1000 ∧ ByteArray.size (sz (digZ (↑(Int.natAbs (cuN n (pQ (bz s)) (pQ (bz s)) (pD (bz s)) (pG (bz s)))) : Int) (Int.toNat (pD (bz s))))) ≤ 1000 ∧ k ≤ ByteArray.size (sz (pS (bz s))) ∧ ByteArray.size (sz (pS (bz s))) ≤ 1000 ∧ 0 ≤ pW (bz s) ∧ pW (bz s) ≤ 1000) ∧ cdg (zc d k) ≤ (↑(ByteArray.size (sz (digZ (↑(Int.natAbs (cuN n (pQ (bz s)) (pQ (bz s)) (pD (bz s)) (pG (bz s)))) : Int) (Int.toNat (pD (bz s)))))) : Int) ∧ (fdFl (pS (bz s)) = 32 ∨ fdFl (pS (bz s)) = 42)))) then ∀ (t : ByteArray) (l : Int), sz (Prod.fst (wrV (bz (sz (pS (bz s)))) (pW (bz s)) (Prod.snd (Prod.snd (nD (bodyZ (pS (bz s)))))) (crZ (pS (bz s))) (drZ (bodyZ (pS (bz s)))) (fdFl (pS (bz s))) (↑(cntZ (mkGo (drZ (bodyZ (pS (bz s)))) false (bodyZ (pS (bz s)))) 100) : Int) (zc d k) (bz (sz (digZ (↑(Int.natAbs (cuN n (pQ (bz s)) (pQ (bz s)) (pD (bz s)) (pG (bz s)))) : Int) (Int.toNat (pD (bz s)))))) (decide (cuN n (pQ (bz s)) (pQ (bz s)) (pD (bz s)) (pG (bz s)) < 0)))) = t → Prod.snd (wrV (bz (sz (pS (bz s)))) (pW (bz s)) (Prod.snd (Prod.snd (nD (bodyZ (pS (bz s)))))) (crZ (pS (bz s))) (drZ (bodyZ (pS (bz s)))) (fdFl (pS (bz s))) (↑(cntZ (mkGo (drZ (bodyZ (pS (bz s)))) false (bodyZ (pS (bz s)))) 100) : Int) (zc d k) (bz (sz (digZ (↑(Int.natAbs (cuN n (pQ (bz s)) (pQ (bz s)) (pD (bz s)) (pG (bz s)))) : Int) (Int.toNat (pD (bz s)))))) (decide (cuN n (pQ (bz s)) (pQ (bz s)) (pD (bz s)) (pG (bz s)) < 0))) = l → R (.tuple (.mk [.int .i64 l, .int .i64 0])) else False else False else R (.tuple (.mk [.int .i64 0, .int .i64 30])) else False) := by kernel_rfl
theorem ok36 : PureOK Tryz.prog 36 (sp2 s36) := by
 refine qure2 ok_G37 hmix fn36 lokf_none (Nat.le_of_ble_eq_true (by kernel_rfl)) fun n s hc => ?_
 rw [DoesQ, v36]
 have hc : (s.size ≤ 9223372036854775807 ∧ -9223372036854775808 ≤ n ∧ n ≤ 9223372036854775807) := of_decide_eq_true hc
 try dsimp only [s36]
 refine c_t (decide_eq_true hc.1) (cond_intro (fun h => ?_) (fun h => ?_))
 ·intro k cap d hR hz
  have hp := pD_rng h
  obtain ⟨g1, g2⟩ := wr_use h hR hz (cuN_lt n (pQ (bz s)) (pQ (bz s)) (pD (bz s)) (pG (bz s)))
  refine c_t (by simp only [i64B, Bool.and_eq_true, decide_eq_true_eq]; omega) (c_t g1 fun t l h1 h2 => ?_)
  rw [g2] at h1 h2
  rw [leZ, nE, if_pos h, if_pos h, ← h2]
  rfl
 ·have h1 : ¬ pN (bz s) = true := by rw [h]; simp
  rw [leZ, nE, if_neg h1, if_neg h1]
end Go.Px
end
noncomputable section
set_option maxHeartbeats 3200000
namespace Go.Px
open Go Go.Ab Go.Proofs Go.Shelf
theorem unK_dig {c : Int} (h1 : c ≥ 48) (h2 : c ≤ 57) : unK c = false := by
 cases h : unK c with
 | false => rfl
 | true =>
  have := hasZ_iff.1 h
  simp only [punchedZ, List.mem_cons, List.not_mem_nil, or_false] at this
  omega
def gsGo : List Int → List Int → List Int
 | [], _ => []
 | r :: rs, cs => bif r == 2 then gsGo rs cs else bif r != 0 && r != 1 then gsGo rs cs.tail else (48 + rdD (cs.headD 0)) :: gsGo rs cs.tail
def V67_0 : ByteArray × ByteArray × Rw × Int × Nat × Nat × Int × Int × List Value → List Value := fun (t, r4, o, aa, k2, cap2, L, i, d) => [.string t, .string r4, o.v 200, .int .i64 aa, .slice (some ⟨1, 0, some 1⟩) k2 cap2, .int .i64 L, .int .i64 i]
def B67_0 : ByteArray × ByteArray × Rw × Int × Nat × Nat × Int × Int × List Value → List (Option Blk) := fun (t, r4, o, aa, k2, cap2, L, i, d) => [some ⟨d, 102, false⟩, o.b]
def S67_0 : LSpecA (ByteArray × ByteArray × Rw × Int × Nat × Nat × Int × Int × List Value) where
 live := [1, 4, 5, 6, 16, 17, 18]
 mid := [1, 200]
 n := 210
 ap := [(.tmp 5, 200)]
 dec vs bs := match vs, bs with | [.string t, .string r4, .slice none 0 0, .int .i64 aa, .slice (some ⟨1, 0, some 1⟩) k2 cap2, .int .i64 L, .int .i64 i], [some ⟨d, 102, false⟩, none] => some (t, r4, .nil, aa, k2, cap2, L, i, d) | [.string t, .string r4, .slice (some ⟨200, 0, some 1⟩) om oc, .int .i64 aa, .slice (some ⟨1, 0, some 1⟩) k2 cap2, .int .i64 L, .int .i64 i], [some ⟨d, 102, false⟩, some ⟨od, 5, true⟩] => some (t, r4, .own od om oc, aa, k2, cap2, L, i, d) | _, _ => none
 pre := fun (t, r4, o, aa, k2, cap2, L, i, d) => o.ok && (rowIOK d k2 cap2 && decide (0 ≤ i ∧ i ≤ k2 ∧ k2 ≤ 1000 ∧ L = k2 ∧ 0 ≤ aa ∧ aa ≤ i ∧ aa + cN ((zc d k2).drop i.toNat) ≤ t.size ∧ o.z.length ≤ i))
 fin := fun (t, r4, o, aa, k2, cap2, L, i, d) Z => (o.is = false → gsGo ((zc d k2).drop i.toNat) ((bz t).drop aa.toNat) = [] → ∀ a' i', Z (.exit 0) [.string t, .string r4, .slice none 0 0, .int .i64 a', .slice (some ⟨1, 0, some 1⟩) k2 cap2, .int .i64 L, .int .i64 i'] [some ⟨d, 102, false⟩, none]) ∧ (∀ a' i' od' om' oc', rowOK od' om' oc' = true → zc od' om' = o.z ++ gsGo ((zc d k2).drop i.toNat) ((bz t).drop aa.toNat) → Z (.exit 0) [.string t, .string r4, .slice (some ⟨200, 0, some 1⟩) om' oc', .int .i64 a', .slice (some ⟨1, 0, some 1⟩) k2 cap2, .int .i64 L, .int .i64 i'] [some ⟨d, 102, false⟩, some ⟨od', 5, true⟩])
theorem r67_0n (t : ByteArray) (r4 : ByteArray) (aa : Int) (k2 : Nat) (cap2 : Nat) (L : Int) (i : Int) (d : List Value) (jk : Tmps) (R : Exit → List Value → List (Option Blk) → Prop) : (codeQ Tryz.prog G37 noL Tryz.f67.ntmps (loopOf Tryz.f67 0) (tl S67_0.live (V67_0 (t, r4, .nil, aa, k2, cap2, L, i, d)) jk) (ml S67_0.mid (B67_0 (t, r4, .nil, aa, k2, cap2, L, i, d))) S67_0.n fun e t' m' _ => S67_0.out R e t' m') = ( bif decide (i < L) then bif decide (0 ≤ i ∧ i < (↑k2 : Int)) then bif isIntAt IntKind.i64 d (0 + Int.toNat i * 1) then bif intAt d (0 + Int.toNat i * 1) == 2 then bif goodL [] d && true && true then R Exit.normal [.string t, .string r4, .slice none 0 0, .int .i64 aa, .slice (some (.mk 1 0 (some 1))) k2 cap2, .int .i64 L, .int .i64 (IntKind.wrap .i64 (i + 1))] [some (.mk (rlbL [] d) 102 false), none] else False else bif decide (0 ≤ aa ∧ aa < (↑(ByteArray.size t) : Int)) then bif intAt d (0 + Int.toNat i * 1) != 0 || true then bif intAt d (0 + Int.toNat i * 1) != 0 && intAt d (0 + Int.toNat i * 1) != 1 then bif goodL [] d && true && true then R Exit.normal [.string t, .string r4, .slice none 0 0, .int .i64 (IntKind.wrap .i64 (aa + 1)), .slice (some (.mk 1 0 (some 1))) k2 cap2, .int .i64 L, .int .i64 (IntKind.wrap .i64 (i + 1))] [some (.mk (rlbL [] d) 102 false), none] else False else bif decide (byteAt t (Int.toNat aa) ≥ 48) || true then bif decide (byteAt t (Int.toNat aa) ≥ 48) && decide (byteAt t (Int.toNat aa) ≤ 57) then ∀ (cap : Nat) (tail : List Value), tailOK tail cap 1 1 = true → bif goodL [(248, 200)] d && (goodL [(248, 200)] (.int .u8 (byteAt t (Int.toNat aa)) :: tail) && true) && true then R Exit.normal [.string t, .string r4, .slice (some (.mk 200 0 (some 1))) 1 cap, .int .i64 (IntKind.wrap .i64 (aa + 1)), .slice (some (.mk 1 0 (some 1))) k2 cap2, .int .i64 L, .int .i64 (IntKind.wrap .i64 (i + 1))] [some (.mk (rlbL [(248, 200)] d) 102 false), some (.mk (rlbL [(248, 200)] (.int .u8 (byteAt t (Int.toNat aa)) :: tail)) 5 true)] else False else bif unK (byteAt t (Int.toNat aa)) then ∀ (cap : Nat) (tail : List Value), tailOK tail cap 1 1 = true → bif goodL [(252, 200)] d && (goodL [(252, 200)] (.int .u8 (IntKind.wrap .u8 (48 + IntKind.wrap .u8 (unD (byteAt t (Int.toNat aa))))) :: tail) && true) && true then R Exit.normal [.string t, .string r4, .slice (some (.mk 200 0 (some 1))) 1 cap, .int .i64 (IntKind.wrap .i64 (aa + 1)), .slice (some (.mk 1 0 (some 1))) k2 cap2, .int .i64 L, .int .i64 (IntKind.wrap .i64 (i + 1))] [some (.mk (rlbL [(252, 200)] d) 102 false), some (.mk (rlbL [(252, 200)] (.int .u8 (IntKind.wrap .u8 (48 + IntKind.wrap .u8 (unD (byteAt t (Int.toNat aa))))) :: tail)) 5 true)] else False else ∀ (cap : Nat) (tail : List Value), tailOK tail cap 1 1 = true → bif goodL [(249, 200)] d && (goodL [(249, 200)] (.int .u8 48 :: tail) && true) && true then R Exit.normal [.string t, .string r4, .slice (some (.mk 200 0 (some 1))) 1 cap, .int .i64 (IntKind.wrap .i64 (aa + 1)), .slice (some (.mk 1 0 (some 1))) k2 cap2, .int .i64 L, .int .i64 (IntKind.wrap .i64 (i + 1))] [some (.mk (rlbL [(249, 200)] d) 102 false), some (.mk (rlbL [(249, 200)] (.int .u8 48 :: tail)) 5 true)] else False else False else False else False else False else False else bif goodL [] d && true && true then R (Exit.exit 0) [.string t, .string r4, .slice none 0 0, .int .i64 aa, .slice (some (.mk 1 0 (some 1))) k2 cap2, .int .i64 L, .int .i64 i] [some (.mk (rlbL [] d) 102 false), none] else False) := by kernel_rfl
theorem r67_0o (t : ByteArray) (r4 : ByteArray) (od : List Value) (om : Nat) (oc : Nat) (aa : Int) (k2 : Nat) (cap2 : Nat) (L : Int) (i : Int) (d : List Value) (jk : Tmps) (R : Exit → List Value → List (Option Blk) → Prop) : (codeQ Tryz.prog G37 noL Tryz.f67.ntmps (loopOf Tryz.f67 0) (tl S67_0.live (V67_0 (t, r4, (.own od om oc), aa, k2, cap2, L, i, d)) jk) (ml S67_0.mid (B67_0 (t, r4, (.own od om oc), aa, k2, cap2, L, i, d))) S67_0.n fun e t' m' _ => S67_0.out R e t' m') = ( bif decide (i < L) then bif decide (0 ≤ i ∧ i < (↑k2 : Int)) then bif isIntAt IntKind.i64 d (0 + Int.toNat i * 1) then bif intAt d (0 + Int.toNat i * 1) == 2 then bif goodL [(200, 200)] d && (goodL [(200, 200)] od && true) && true then R Exit.normal [.string t, .string r4, .slice (some (.mk 200 0 (some 1))) om oc, .int .i64 aa, .slice (some (.mk 1 0 (some 1))) k2 cap2, .int .i64 L, .int .i64 (IntKind.wrap .i64 (i + 1))] [some (.mk (rlbL [(200, 200)] d) 102 false), some (.mk (rlbL [(200, 200)] od) 5 true)] else False else bif decide (0 ≤ aa ∧ aa < (↑(ByteArray.size t) : Int)) then bif intAt d (0 + Int.toNat i * 1) != 0 || true then bif intAt d (0 + Int.toNat i * 1) != 0 && intAt d (0 + Int.toNat i * 1) != 1 then bif goodL [(200, 200)] d && (goodL [(200, 200)] od && true) && true then R Exit.normal [.string t, .string r4, .slice (some (.mk 200 0 (some 1))) om oc, .int .i64 (IntKind.wrap .i64 (aa + 1)), .slice (some (.mk 1 0 (some 1))) k2 cap2, .int .i64 L, .int .i64 (IntKind.wrap .i64 (i + 1))] [some (.mk (rlbL [(200, 200)] d) 102 false), some (.mk (rlbL [(200, 200)] od) 5 true)] else False else bif decide (byteAt t (Int.toNat aa) ≥ 48) || true then bif decide (byteAt t (Int.toNat aa) ≥ 48) && decide (byteAt t (Int.toNat aa) ≤ 57) then bif Nat.beq (List.length od) (oc * 1) && Nat.ble om oc && Nat.ble oc 9223372036854775807 && true && fitsA (om + 1) 1 then ∀ (cap : Nat) (tail : List Value), tailOK tail cap (om + 1) 1 = true → bif goodL [(248, 200)] d && (goodL [(248, 200)] (List.take (om * 1) od ++ [.int .u8 (byteAt t (Int.toNat aa))] ++ tail) && true) && true then R Exit.normal [.string t, .string r4, .slice (some (.mk 200 0 (some 1))) (om + 1) cap, .int .i64 (IntKind.wrap .i64 (aa + 1)), .slice (some (.mk 1 0 (some 1))) k2 cap2, .int .i64 L, .int .i64 (IntKind.wrap .i64 (i + 1))] [some (.mk (rlbL [(248, 200)] d) 102 false), some (.mk (rlbL [(248, 200)] (List.take (om * 1) od ++ [.int .u8 (byteAt t (Int.toNat aa))] ++ tail)) 5 true)] else False else False else bif unK (byteAt t (Int.toNat aa)) then bif Nat.beq (List.length od) (oc * 1) && Nat.ble om oc && Nat.ble oc 9223372036854775807 && true && fitsA (om + 1) 1 then ∀ (cap : Nat) (tail : List Value), tailOK tail cap (om + 1) 1 = true → bif goodL [(252, 200)] d && (goodL [(252, 200)] (List.take (om * 1) od ++ [.int .u8 (IntKind.wrap .u8 (48 + IntKind.wrap .u8 (unD (byteAt t (Int.toNat aa)))))] ++ tail) && true) && true then R Exit.normal [.string t, .string r4, .slice (some (.mk 200 0 (some 1))) (om + 1) cap, .int .i64 (IntKind.wrap .i64 (aa + 1)), .slice (some (.mk 1 0 (some 1))) k2 cap2, .int .i64 L, .int .i64 (IntKind.wrap .i64 (i + 1))] [some (.mk (rlbL [(252, 200)] d) 102 false), some (.mk (rlbL [(252, 200)] (List.take (om * 1) od ++ [.int .u8 (IntKind.wrap .u8 (48 + IntKind.wrap .u8 (unD (byteAt t (Int.toNat aa)))))] ++ tail)) 5 true)] else False else False else bif Nat.beq (List.length od) (oc * 1) && Nat.ble om oc && Nat.ble oc 9223372036854775807 && true && fitsA (om + 1) 1 then ∀ (cap : Nat) (tail : List Value), tailOK tail cap (om + 1) 1 = true → bif goodL [(249, 200)] d && (goodL [(249, 200)] (List.take (om * 1) od ++ [.int .u8 48] ++ tail) && true) && true then R Exit.normal [.string t, .string r4, .slice (some (.mk 200 0 (some 1))) (om + 1) cap, .int .i64 (IntKind.wrap .i64 (aa + 1)), .slice (some (.mk 1 0 (some 1))) k2 cap2, .int .i64 L, .int .i64 (IntKind.wrap .i64 (i + 1))] [some (.mk (rlbL [(249, 200)] d) 102 false), some (.mk (rlbL [(249, 200)] (List.take (om * 1) od ++ [.int .u8 48] ++ tail)) 5 true)] else False else False else False else False else False else False else False else bif goodL [(200, 200)] d && (goodL [(200, 200)] od && true) && true then R (Exit.exit 0) [.string t, .string r4, .slice (some (.mk 200 0 (some 1))) om oc, .int .i64 aa, .slice (some (.mk 1 0 (some 1))) k2 cap2, .int .i64 L, .int .i64 i] [some (.mk (rlbL [(200, 200)] d) 102 false), some (.mk (rlbL [(200, 200)] od) 5 true)] else False) := by kernel_rfl
theorem l67_0 : LOKf Tryz.prog (oneL 0 S67_0.hA) Tryz.f67 := by
 refine lokf_one (h := S67_0.hA) (by kernel_rfl) (loop_specA ok_G37 hmix (by kernel_rfl) (lok_none _) S67_0 V67_0 B67_0 (fun (t, r4, o, aa, k2, cap2, L, i, d) => (k2 - i).toNat) ?_ ?_ ?_)
 ·intro vs bs s h
  simp only [S67_0] at h
  split at h
  all_goals first | (cases h; exact ⟨rfl, rfl⟩) | cases h | (split at h <;> first | (rename_i hq; cases h; have hq := Nat.eq_of_beq_eq_true hq; subst hq; exact ⟨rfl, rfl⟩) | cases h)
 ·exact fun ⟨t, r4, o, aa, k2, cap2, L, i, d⟩ hp => by
   simp only [S67_0, Bool.and_eq_true] at hp
   have hr := rowIOK_iff.1 hp.2.1
   cases o with
   | nil => simp [V67_0, B67_0, S67_0, idsLt, idsLtB, idsL, ids, Rw.v, Rw.b, ids_plainL hr.plain]
   | own od om oc => simp [V67_0, B67_0, S67_0, idsLt, idsLtB, idsL, ids, Rw.v, Rw.b, ids_plainL hr.plain, ids_plainL (rowOK_iff.1 hp.1).plain]
 ·intro ⟨t, r4, o, aa, k2, cap2, L, i, d⟩ jk Z hp hf
  simp only [S67_0] at hp hf
  cases o with
  | nil =>
   rw [r67_0n]
   simp only [Bool.and_eq_true, decide_eq_true_eq] at hp
   obtain ⟨-, hR, hp⟩ := hp
   have hr := rowIOK_iff.1 hR
   simp only [Rw.z, List.length_nil] at hp hf
   have e0 : 0 + i.toNat * 1 = i.toNat := by omega
   rw [e0]
   refine cond_intro (fun h => ?_) (fun h => ?_)
   ·have h := of_decide_eq_true h
    obtain ⟨a1, a3⟩ := hr.at hp.1 (by omega)
    rw [a3, gsGo] at hf
    rw [a3, cN] at hp
    have hc := cN_nn ((zc d k2).drop (i + 1).toNat)
    rw [a1, w64 (n := i + 1) (by omega), w64 (n := aa + 1) (by omega)]
    generalize intAt d i.toNat = r at *
    refine c_t (decide_eq_true (by omega)) (c_t rfl (cond_intro (fun q => ?_) (fun q => ?_)))
    ·rw [q, cond_true] at hf hp
     refine c_t (by rw [hr.good]; rfl) ?_
     rw [hr.rlb]
     exact ⟨(t, r4, .nil, aa, k2, cap2, L, i + 1, d), rfl, rfl, by simp only [S67_0, Bool.and_eq_true, decide_eq_true_eq]; exact ⟨rfl, hR, by simp only [Rw.z, List.length_nil]; omega⟩, by simp only; omega, hf⟩
    ·rw [q, cond_false] at hf hp
     obtain ⟨p1, p2, p3, p4, p5, p6, p7, p8⟩ := hp
     rw [bz_at p5 (by omega), List.headD_cons, List.tail_cons] at hf
     have hB := byte_rng t aa.toNat
     generalize byteAt t aa.toNat = c at *
     have hu : 0 ≤ unD c ∧ unD c ≤ 9 := by unfold unD; split <;> omega
     rw [w8 (n := unD c) (by omega), w8 (n := 48 + unD c) (by omega)]
     refine c_t (decide_eq_true (by omega)) (c_t (by simp) (cond_intro (fun q2 => ?_) (fun q2 => c_t (by simp) (cond_intro (fun q3 => ?_) (fun q3 => cond_intro (fun q4 => ?_) (fun q4 => ?_))))))
     ·rw [q2, cond_true] at hf
      refine c_t (by rw [hr.good]; rfl) ?_
      rw [hr.rlb]
      exact ⟨(t, r4, .nil, aa + 1, k2, cap2, L, i + 1, d), rfl, rfl, by simp only [S67_0, Bool.and_eq_true, decide_eq_true_eq]; exact ⟨rfl, hR, by simp only [Rw.z, List.length_nil]; omega⟩, by simp only; omega, hf⟩
     ·rw [q2, cond_false] at hf
      intro cap1 tail ht
      obtain ⟨h1, h2⟩ : RowP (Value.int IntKind.u8 (c) :: tail) 1 cap1 ∧ zc (Value.int IntKind.u8 (c) :: tail) 1 = [c] := row_new [c] ht
      have hl1 := zc_length h1
      generalize Value.int IntKind.u8 (c) :: tail = od' at *
      have e : 48 + rdD c = c := by
       have q := q3
       simp only [Bool.and_eq_true, decide_eq_true_eq] at q
       unfold rdD
       rw [unK_dig q.1 q.2, q3]
       simp only [cond_true, cond_false]
       omega
      rw [e] at hf
      refine c_t (by rw [hr.good, h1.good]; rfl) ?_
      rw [hr.rlb, h1.rlb]
      exact ⟨(t, r4, .own od' (1) cap1, aa + 1, k2, cap2, L, i + 1, d), rfl, rfl, by simp only [S67_0, Bool.and_eq_true, decide_eq_true_eq]; exact ⟨rowOK_iff.2 h1, hR, by simp only [Rw.z, hl1]; omega⟩, by simp only; omega, ⟨fun q => (by cases q), fun a' i' od'' om'' oc'' g1 g2 => hf.2 a' i' od'' om'' oc'' g1 (by rw [g2]; simp only [Rw.z, h2, List.append_assoc, List.cons_append, List.nil_append])⟩⟩
     ·rw [q2, cond_false] at hf
      intro cap1 tail ht
      obtain ⟨h1, h2⟩ : RowP (Value.int IntKind.u8 (48 + unD c) :: tail) 1 cap1 ∧ zc (Value.int IntKind.u8 (48 + unD c) :: tail) 1 = [48 + unD c] := row_new [48 + unD c] ht
      have hl1 := zc_length h1
      generalize Value.int IntKind.u8 (48 + unD c) :: tail = od' at *
      have e : 48 + rdD c = 48 + unD c := by
       unfold rdD
       rw [q4]
       rfl
      rw [e] at hf
      refine c_t (by rw [hr.good, h1.good]; rfl) ?_
      rw [hr.rlb, h1.rlb]
      exact ⟨(t, r4, .own od' (1) cap1, aa + 1, k2, cap2, L, i + 1, d), rfl, rfl, by simp only [S67_0, Bool.and_eq_true, decide_eq_true_eq]; exact ⟨rowOK_iff.2 h1, hR, by simp only [Rw.z, hl1]; omega⟩, by simp only; omega, ⟨fun q => (by cases q), fun a' i' od'' om'' oc'' g1 g2 => hf.2 a' i' od'' om'' oc'' g1 (by rw [g2]; simp only [Rw.z, h2, List.append_assoc, List.cons_append, List.nil_append])⟩⟩
     ·rw [q2, cond_false] at hf
      intro cap1 tail ht
      obtain ⟨h1, h2⟩ : RowP (Value.int IntKind.u8 (48) :: tail) 1 cap1 ∧ zc (Value.int IntKind.u8 (48) :: tail) 1 = [48] := row_new [48] ht
      have hl1 := zc_length h1
      generalize Value.int IntKind.u8 (48) :: tail = od' at *
      have e : 48 + rdD c = 48 := by
       unfold rdD
       rw [q4, q3]
       rfl
      rw [e] at hf
      refine c_t (by rw [hr.good, h1.good]; rfl) ?_
      rw [hr.rlb, h1.rlb]
      exact ⟨(t, r4, .own od' (1) cap1, aa + 1, k2, cap2, L, i + 1, d), rfl, rfl, by simp only [S67_0, Bool.and_eq_true, decide_eq_true_eq]; exact ⟨rowOK_iff.2 h1, hR, by simp only [Rw.z, hl1]; omega⟩, by simp only; omega, ⟨fun q => (by cases q), fun a' i' od'' om'' oc'' g1 g2 => hf.2 a' i' od'' om'' oc'' g1 (by rw [g2]; simp only [Rw.z, h2, List.append_assoc, List.cons_append, List.nil_append])⟩⟩
   ·have h := of_decide_eq_false h
    rw [hr.end (by omega), gsGo] at hf
    refine c_t (by rw [hr.good]; rfl) ?_
    rw [hr.rlb]
    exact hf.1 rfl rfl aa i
  | own od om oc =>
   rw [r67_0o]
   simp only [Bool.and_eq_true, decide_eq_true_eq] at hp
   obtain ⟨ho, hR, hp⟩ := hp
   have hr := rowIOK_iff.1 hR
   have ho := rowOK_iff.1 ho
   have hzl := zc_length ho
   simp only [Rw.z, hzl] at hp hf
   have e0 : 0 + i.toNat * 1 = i.toNat := by omega
   rw [e0]
   refine cond_intro (fun h => ?_) (fun h => ?_)
   ·have h := of_decide_eq_true h
    obtain ⟨a1, a3⟩ := hr.at hp.1 (by omega)
    rw [a3, gsGo] at hf
    rw [a3, cN] at hp
    have hc := cN_nn ((zc d k2).drop (i + 1).toNat)
    rw [a1, w64 (n := i + 1) (by omega), w64 (n := aa + 1) (by omega)]
    generalize intAt d i.toNat = r at *
    refine c_t (decide_eq_true (by omega)) (c_t rfl (cond_intro (fun q => ?_) (fun q => ?_)))
    ·rw [q, cond_true] at hf hp
     refine c_t (by rw [hr.good, ho.good]; rfl) ?_
     rw [hr.rlb, ho.rlb]
     exact ⟨(t, r4, .own od om oc, aa, k2, cap2, L, i + 1, d), rfl, rfl, by simp only [S67_0, Bool.and_eq_true, decide_eq_true_eq]; exact ⟨rowOK_iff.2 ho, hR, by simp only [Rw.z, hzl]; omega⟩, by simp only; omega, hf⟩
    ·rw [q, cond_false] at hf hp
     obtain ⟨p1, p2, p3, p4, p5, p6, p7, p8⟩ := hp
     rw [bz_at p5 (by omega), List.headD_cons, List.tail_cons] at hf
     have hB := byte_rng t aa.toNat
     generalize byteAt t aa.toNat = c at *
     have hu : 0 ≤ unD c ∧ unD c ≤ 9 := by unfold unD; split <;> omega
     rw [w8 (n := unD c) (by omega), w8 (n := 48 + unD c) (by omega)]
     refine c_t (decide_eq_true (by omega)) (c_t (by simp) (cond_intro (fun q2 => ?_) (fun q2 => c_t (by simp) (cond_intro (fun q3 => ?_) (fun q3 => cond_intro (fun q4 => ?_) (fun q4 => ?_))))))
     ·rw [q2, cond_true] at hf
      refine c_t (by rw [hr.good, ho.good]; rfl) ?_
      rw [hr.rlb, ho.rlb]
      exact ⟨(t, r4, .own od om oc, aa + 1, k2, cap2, L, i + 1, d), rfl, rfl, by simp only [S67_0, Bool.and_eq_true, decide_eq_true_eq]; exact ⟨rowOK_iff.2 ho, hR, by simp only [Rw.z, hzl]; omega⟩, by simp only; omega, hf⟩
     ·rw [q2, cond_false] at hf
      refine c_t (ho.ask (k := 1) (by omega)) (fun cap1 tail ht => ?_)
      obtain ⟨h1, h2⟩ := ho.app1 (c) ht
      have hl1 := zc_length h1
      generalize List.take (om * 1) od ++ [Value.int IntKind.u8 (c)] ++ tail = od' at *
      have e : 48 + rdD c = c := by
       have q := q3
       simp only [Bool.and_eq_true, decide_eq_true_eq] at q
       unfold rdD
       rw [unK_dig q.1 q.2, q3]
       simp only [cond_true, cond_false]
       omega
      rw [e] at hf
      refine c_t (by rw [hr.good, h1.good]; rfl) ?_
      rw [hr.rlb, h1.rlb]
      exact ⟨(t, r4, .own od' (om + 1) cap1, aa + 1, k2, cap2, L, i + 1, d), rfl, rfl, by simp only [S67_0, Bool.and_eq_true, decide_eq_true_eq]; exact ⟨rowOK_iff.2 h1, hR, by simp only [Rw.z, hl1]; omega⟩, by simp only; omega, ⟨fun q => (by cases q), fun a' i' od'' om'' oc'' g1 g2 => hf.2 a' i' od'' om'' oc'' g1 (by rw [g2]; simp only [Rw.z, h2, List.append_assoc, List.cons_append, List.nil_append])⟩⟩
     ·rw [q2, cond_false] at hf
      refine c_t (ho.ask (k := 1) (by omega)) (fun cap1 tail ht => ?_)
      obtain ⟨h1, h2⟩ := ho.app1 (48 + unD c) ht
      have hl1 := zc_length h1
      generalize List.take (om * 1) od ++ [Value.int IntKind.u8 (48 + unD c)] ++ tail = od' at *
      have e : 48 + rdD c = 48 + unD c := by
       unfold rdD
       rw [q4]
       rfl
      rw [e] at hf
      refine c_t (by rw [hr.good, h1.good]; rfl) ?_
      rw [hr.rlb, h1.rlb]
      exact ⟨(t, r4, .own od' (om + 1) cap1, aa + 1, k2, cap2, L, i + 1, d), rfl, rfl, by simp only [S67_0, Bool.and_eq_true, decide_eq_true_eq]; exact ⟨rowOK_iff.2 h1, hR, by simp only [Rw.z, hl1]; omega⟩, by simp only; omega, ⟨fun q => (by cases q), fun a' i' od'' om'' oc'' g1 g2 => hf.2 a' i' od'' om'' oc'' g1 (by rw [g2]; simp only [Rw.z, h2, List.append_assoc, List.cons_append, List.nil_append])⟩⟩
     ·rw [q2, cond_false] at hf
      refine c_t (ho.ask (k := 1) (by omega)) (fun cap1 tail ht => ?_)
      obtain ⟨h1, h2⟩ := ho.app1 (48) ht
      have hl1 := zc_length h1
      generalize List.take (om * 1) od ++ [Value.int IntKind.u8 (48)] ++ tail = od' at *
      have e : 48 + rdD c = 48 := by
       unfold rdD
       rw [q4, q3]
       rfl
      rw [e] at hf
      refine c_t (by rw [hr.good, h1.good]; rfl) ?_
      rw [hr.rlb, h1.rlb]
      exact ⟨(t, r4, .own od' (om + 1) cap1, aa + 1, k2, cap2, L, i + 1, d), rfl, rfl, by simp only [S67_0, Bool.and_eq_true, decide_eq_true_eq]; exact ⟨rowOK_iff.2 h1, hR, by simp only [Rw.z, hl1]; omega⟩, by simp only; omega, ⟨fun q => (by cases q), fun a' i' od'' om'' oc'' g1 g2 => hf.2 a' i' od'' om'' oc'' g1 (by rw [g2]; simp only [Rw.z, h2, List.append_assoc, List.cons_append, List.nil_append])⟩⟩
   ·have h := of_decide_eq_false h
    rw [hr.end (by omega), gsGo] at hf
    refine c_t (by rw [hr.good, ho.good]; rfl) ?_
    rw [hr.rlb, ho.rlb]
    exact hf.2 aa i od om oc (rowOK_iff.2 ho) (by simp)
end Go.Px
end
noncomputable section
set_option maxHeartbeats 3200000
namespace Go.Px
open Go Go.Ab Go.Proofs Go.Shelf
theorem v67 (s : ByteArray) (nb : Bool) (w : Int) (dg : Int) (sc : Int) (sg : Bool) (k : Nat) (cap : Nat) (dr : Int) (f : Int) (cr : Bool) (fl : Int) (fm : Int) (t : ByteArray) (d : List Value) (R : Value → Prop) : (bodyQ Tryz.prog G37 (oneL 0 S67_0.hA) Tryz.f67 [.pointer (some ⟨0, 0, some 0⟩), .string t] (vwF2 (fmL s nb w dg sc sg 1 k cap dr f cr fl fm) d) 2 (fun v _ _ => R v)) = ( bif goodL [] d && true && true && (idsLt 210 (rlbL [] d) && true) then bif LSpec.pre (LSpecA.toLSpec S67_0) (t, ByteArray.mk #[], Rw.nil, 0, k, cap, natO k, 0, rlbL [] d) then (Rw.is Rw.nil = false → gsGo (List.drop (Int.toNat 0) (zc (rlbL [] d) k)) (List.drop (Int.toNat 0) (bz t)) = [] → ∀ (a' i' : Int), bif idsLt 210 (rlbL [] d) && true then ∀ (x : Tmps), R (.string ByteArray.empty) else False) ∧ ∀ (a' i' : Int) (od' : List Value) (om' oc' : Nat), rowOK od' om' oc' = true → zc od' om' = Rw.z Rw.nil ++ gsGo (List.drop (Int.toNat 0) (zc (rlbL [] d) k)) (List.drop (Int.toNat 0) (bz t)) → bif idsLt 210 (rlbL [] d) && (idsLt 210 od' && true) then ∀ (x : Tmps), bif bytesOK od' 0 om' then R (.string (bytesOf od' 0 om')) else False else False else False else False) := by kernel_rfl
theorem fn67 : Fn1 Tryz.prog 67 Tryz.f67 := ⟨Tryz.func67, by kernel_rfl, by kernel_rfl, by kernel_rfl⟩
theorem w_67 (s : ByteArray) (nb : Bool) (w : Int) (dg : Int) (sc : Int) (sg : Bool) (k : Nat) (cap : Nat) (dr : Int) (f : Int) (cr : Bool) (fl : Int) (fm : Int) (t : ByteArray) (d : List Value) (hR : rowIOK d k cap = true) (hk : k ≤ 1000) (hc : cN (zc d k) ≤ t.size)
  {R : Value → Prop} (hV : R (.string (sz (gsGo (zc d k) (bz t))))) :
  DoesM Tryz.prog G37 (oneL 0 S67_0.hA) Tryz.f67 [.pointer (some ⟨0, 0, some 0⟩), .string t] (vwF2 (fmL s nb w dg sc sg 1 k cap dr f cr fl fm) d) 2 (fun v _ _ => R v) := by
 rw [DoesM, v67]
 have h := rowIOK_iff.1 hR
 have z0 : Int.toNat 0 = 0 := rfl
 have hg : (goodL [] d && true && true && (idsLt 210 d && true)) = true := by rw [h.good]; simp [idsLt, idsL, ids_plainL h.plain]
 have hg' : (goodL [] d && true && (idsLt 210 d && true)) = true := by rw [h.good]; simp [idsLt, idsL, ids_plainL h.plain]
 have hi : (idsLt 210 d && true) = true := by simp [idsLt, idsL, ids_plainL h.plain]
 simp only [h.rlb, z0, List.drop_zero]
 refine c_t (by first | exact hg | exact hg') (c_t ?_ ⟨fun _ hn a' i' => c_t hi fun _ => ?_, fun a' i' od om oc g1 g2 => ?_⟩)
 ·show (Rw.nil.ok && (rowIOK d k cap && decide ((0 : Int) ≤ 0 ∧ (0 : Int) ≤ k ∧ k ≤ 1000 ∧ natO k = k ∧ (0 : Int) ≤ 0 ∧ (0 : Int) ≤ 0 ∧ 0 + cN ((zc d k).drop (Int.toNat 0)) ≤ t.size ∧ ((Rw.nil.z.length : Nat) : Int) ≤ 0))) = true
  rw [hR, natO_eq, z0, List.drop_zero]
  simp only [Bool.true_and, Rw.ok, Rw.z, List.length_nil, decide_eq_true_eq]
  exact ⟨by omega, by omega, by omega, trivial, by omega, by omega, by omega, by omega⟩
 ·rw [hn] at hV
  exact hV
 ·have ho := rowOK_iff.1 g1
  have hio : (idsLt 210 d && (idsLt 210 od && true)) = true := by simp [idsLt, idsL, ids_plainL h.plain, ids_plainL ho.plain]
  have s3 := ho.str
  have g3 : zc od om = gsGo (zc d k) (bz t) := by rw [g2]; rfl
  rw [g3] at s3
  exact c_t hio fun _ => c_t s3.1 (by rw [s3.2]; exact hV)
def h67 : List Value → Lk → Nat → (Value → Lk → Nat → Prop) → Prop := fun args m n K => match args with
 | [.pointer (some ⟨a, 0, some 0⟩), .string t] => match m a with
  | some ⟨[.string s, .bool nb, .int .i64 w, .int .i64 dg, .int .i64 sc, .bool sg, .slice (some ⟨y, 0, some 1⟩) k cap, .int .u8 dr, .int .i64 f, .bool cr, .int .u8 fl, .int .i64 fm], 84, own⟩ => match m y with
   | some ⟨d, 102, own2⟩ => match cnd (rowIOK d k cap && decide (k ≤ 1000 ∧ cN (zc d k) ≤ t.size)) with
    | true => ∀ e : ByteArray, sz (gsGo (zc d k) (bz t)) = e → K (.string e) m n
    | false => False
   | _ => False
  | _ => False
 | _ => False
theorem h67_ok : GenOK Tryz.prog 67 h67 := by
 refine gen_sub ok_G37 hmix fn67 l67_0 fun args m n K h => ?_
 unfold h67 at h
 split at h
 case h_2 => exact h.elim
 rename_i a t
 split at h
 case h_2 => exact h.elim
 rename_i s nb w dg sc sg y k cap dr f cr fl fm own hm
 split at h
 case h_2 => exact h.elim
 rename_i d own2 hy
 split at h
 case h_2 => exact h.elim
 rename_i hc
 simp only [cnd, Bool.and_eq_true, decide_eq_true_eq] at hc
 obtain ⟨h1, h2, h3⟩ := hc
 refine ⟨[.pointer (some ⟨0, 0, some 0⟩), .string t], _, 2, rho2 a y, .string (sz (gsGo (zc d k) (bz t))), sub_F2 (rowIOK_iff.1 h1).plain hm hy, fun ι => by simp [ren, ren1, rho2], Nat.le_of_ble_eq_true (by kernel_rfl), fun v hv j hj => ?_, rfl,
  w_67 s nb w dg sc sg k cap dr f cr fl fm t d h1 h2 h3 (R := fun v => v = .string (sz (gsGo (zc d k) (bz t)))) rfl, h _ rfl⟩
 simp at hv
 rcases hv with rfl | rfl
 ·have : j = 0 := by simpa [ids] using hj
  omega
 ·simp [ids] at hj
end Go.Px
end
noncomputable section
set_option maxHeartbeats 3200000
namespace Go.Px
open Go Go.Ab Go.Proofs Go.Shelf
def V71_0 : ByteArray × Bool × List Value × Nat × Nat × Int × Int → List Value := fun (s, r, d, m, cap, L, i) => [S s, B r, .slice (some ⟨300, 0, some 1⟩) m cap, I L, I i]
def B71_0 : ByteArray × Bool × List Value × Nat × Nat × Int × Int → List (Option Blk) := fun (s, r, d, m, cap, L, i) => [some ⟨d, 5, false⟩]
def S71_0 : LSpecA (ByteArray × Bool × List Value × Nat × Nat × Int × Int) where
 live := [0, 4, 15, 16, 17]
 mid := [300]
 n := 310
 ap := [(.tmp 15, 300)]
 dec vs bs := match vs, bs with | [.string s, .bool r, .slice (some ⟨300, 0, some 1⟩) m cap, .int .i64 L, .int .i64 i], [some ⟨d, 5, false⟩] => some (s, r, d, m, cap, L, i) | _, _ => none
 pre := fun (s, r, d, m, cap, L, i) => vwOK d m && ((bz s).all (hasZ [65, 88, 57]) && decide (0 ≤ i ∧ i ≤ m ∧ L = m ∧ s.size = m ∧ m ≤ 1000))
 fin := fun (s, r, d, m, cap, L, i) Z => (bif onGo ((bz s).drop i.toNat) ((zc d m).drop i.toNat) then ∀ i', Z (.exit 0) [S s, B r, .slice (some ⟨300, 0, some 1⟩) m cap, I L, I i'] [some ⟨d, 5, false⟩] else ∀ i', Z .ret [S s, B false, .slice (some ⟨300, 0, some 1⟩) m cap, I L, I i'] [some ⟨d, 5, false⟩])
theorem r71_0 (s : ByteArray) (r : Bool) (d : List Value) (m : Nat) (cap : Nat) (L : Int) (i : Int) (jk : Tmps) (R : Exit → List Value → List (Option Blk) → Prop) : (codeQ Tryz.prog G37 noL Tryz.f71.ntmps (loopOf Tryz.f71 0) (tl S71_0.live (V71_0 (s, r, d, m, cap, L, i)) jk) (ml S71_0.mid (B71_0 (s, r, d, m, cap, L, i))) S71_0.n fun e t' m' _ => S71_0.out R e t' m') = ( bif decide (i < L) then bif decide (0 ≤ i ∧ i < (↑m : Int)) then bif isIntAt IntKind.u8 d (0 + Int.toNat i * 1) then bif decide (intAt d (0 + Int.toNat i * 1) ≥ 48) || true then bif bif decide (intAt d (0 + Int.toNat i * 1) ≥ 65) then decide (intAt d (0 + Int.toNat i * 1) ≤ 90) || (decide (intAt d (0 + Int.toNat i * 1) ≥ 97) || true) else decide (intAt d (0 + Int.toNat i * 1) ≥ 97) || true then bif decide (0 ≤ i ∧ i < (↑(ByteArray.size s) : Int)) && bif byteAt s (Int.toNat i) == 65 then bif !bif decide (intAt d (0 + Int.toNat i * 1) ≥ 65) then decide (intAt d (0 + Int.toNat i * 1) ≤ 90) || decide (intAt d (0 + Int.toNat i * 1) ≥ 97) && decide (intAt d (0 + Int.toNat i * 1) ≤ 122) else decide (intAt d (0 + Int.toNat i * 1) ≥ 97) && decide (intAt d (0 + Int.toNat i * 1) ≤ 122) then intAt d (0 + Int.toNat i * 1) != 32 || decide (0 ≤ i ∧ i < (↑(ByteArray.size s) : Int)) && bif byteAt s (Int.toNat i) == 57 then !(decide (intAt d (0 + Int.toNat i * 1) ≥ 48) && decide (intAt d (0 + Int.toNat i * 1) ≤ 57)) || true else true else decide (0 ≤ i ∧ i < (↑(ByteArray.size s) : Int)) && bif byteAt s (Int.toNat i) == 57 then !(decide (intAt d (0 + Int.toNat i * 1) ≥ 48) && decide (intAt d (0 + Int.toNat i * 1) ≤ 57)) || true else true else decide (0 ≤ i ∧ i < (↑(ByteArray.size s) : Int)) && bif byteAt s (Int.toNat i) == 57 then !(decide (intAt d (0 + Int.toNat i * 1) ≥ 48) && decide (intAt d (0 + Int.toNat i * 1) ≤ 57)) || true else true then bif bif byteAt s (Int.toNat i) == 65 then bif !bif decide (intAt d (0 + Int.toNat i * 1) ≥ 65) then decide (intAt d (0 + Int.toNat i * 1) ≤ 90) || decide (intAt d (0 + Int.toNat i * 1) ≥ 97) && decide (intAt d (0 + Int.toNat i * 1) ≤ 122) else decide (intAt d (0 + Int.toNat i * 1) ≥ 97) && decide (intAt d (0 + Int.toNat i * 1) ≤ 122) then intAt d (0 + Int.toNat i * 1) != 32 || byteAt s (Int.toNat i) == 57 && (!(decide (intAt d (0 + Int.toNat i * 1) ≥ 48) && decide (intAt d (0 + Int.toNat i * 1) ≤ 57)) && intAt d (0 + Int.toNat i * 1) != 32) else byteAt s (Int.toNat i) == 57 && (!(decide (intAt d (0 + Int.toNat i * 1) ≥ 48) && decide (intAt d (0 + Int.toNat i * 1) ≤ 57)) && intAt d (0 + Int.toNat i * 1) != 32) else byteAt s (Int.toNat i) == 57 && (!(decide (intAt d (0 + Int.toNat i * 1) ≥ 48) && decide (intAt d (0 + Int.toNat i * 1) ≤ 57)) && intAt d (0 + Int.toNat i * 1) != 32) then bif goodL [(300, 300)] d && true && true then R Exit.ret [.string s, .bool false, .slice (some (.mk 300 0 (some 1))) m cap, .int .i64 L, .int .i64 i] [some (.mk (rlbL [(300, 300)] d) 5 false)] else False else bif goodL [(300, 300)] d && true && true then R Exit.normal [.string s, .bool r, .slice (some (.mk 300 0 (some 1))) m cap, .int .i64 L, .int .i64 (IntKind.wrap .i64 (i + 1))] [some (.mk (rlbL [(300, 300)] d) 5 false)] else False else False else False else False else False else False else bif goodL [(300, 300)] d && true && true then R (Exit.exit 0) [.string s, .bool r, .slice (some (.mk 300 0 (some 1))) m cap, .int .i64 L, .int .i64 i] [some (.mk (rlbL [(300, 300)] d) 5 false)] else False) := by kernel_rfl
theorem l71_0 : LOKf Tryz.prog (oneL 0 S71_0.hA) Tryz.f71 := by
 refine lokf_one (h := S71_0.hA) (by kernel_rfl) (loop_specA ok_G37 hmix (by kernel_rfl) (lok_none _) S71_0 V71_0 B71_0 (fun (s, r, d, m, cap, L, i) => (m - i).toNat) ?_ ?_ ?_)
 ·intro vs bs s h
  simp only [S71_0] at h
  split at h
  all_goals first | (cases h; exact ⟨rfl, rfl⟩) | cases h | (split at h <;> first | (rename_i hq; cases h; have hq := Nat.eq_of_beq_eq_true hq; subst hq; exact ⟨rfl, rfl⟩) | cases h)
 ·exact fun ⟨s, r, d, m, cap, L, i⟩ hp => by
   simp only [S71_0, Bool.and_eq_true] at hp
   have hv := vwOK_iff.1 hp.1
   simp [V71_0, B71_0, S71_0, idsLt, idsLtB, idsL, ids, ids_plainL hv.plain]
 ·intro ⟨s, r, d, m, cap, L, i⟩ jk Z hp hf
  rw [r71_0]
  simp only [S71_0] at hp hf
  simp only [Bool.and_eq_true, decide_eq_true_eq] at hp
  obtain ⟨hV, hA, hp⟩ := hp
  have hv := vwOK_iff.1 hV
  have e0 : 0 + i.toNat * 1 = i.toNat := by omega
  rw [e0]
  simp only [hv.rlb]
  have hg : ∀ ps, (goodL ps d && true && true) = true := fun ps => by rw [goodL_plain hv.plain]; rfl
  refine cond_intro (fun h => ?_) (fun h => ?_)
  ·have h := of_decide_eq_true h
   obtain ⟨a1, a2, a3⟩ := hv.at hp.1 (by omega)
   have hcb : byteAt s i.toNat = 65 ∨ byteAt s i.toNat = 88 ∨ byteAt s i.toNat = 57 := by
    have hm : byteAt s i.toNat ∈ bz s := List.drop_subset i.toNat (bz s) (by rw [bz_at hp.1 (by omega)]; exact List.mem_cons_self)
    have := List.all_eq_true.1 hA _ hm
    have := hasZ_iff.1 this
    simp only [List.mem_cons, List.not_mem_nil, or_false] at this
    omega
   rw [bz_at hp.1 (by omega), a3, onGo] at hf
   rw [a1, w64 (n := i + 1) (by omega), decide_eq_true (show 0 ≤ i ∧ i < (m : Int) by omega), decide_eq_true (show 0 ≤ i ∧ i < (s.size : Int) by omega)]
   generalize intAt d i.toNat = b at *
   generalize byteAt s i.toNat = c at *
   have el : (bif decide (b ≥ 65) then decide (b ≤ 90) || decide (b ≥ 97) && decide (b ≤ 122) else decide (b ≥ 97) && decide (b ≤ 122)) = letZ b := by
    unfold letZ
    rw [Bool.eq_iff_iff]
    by_cases h1 : b ≥ 65 <;> simp [h1] <;> omega
   have ed : (decide (b ≥ 48) && decide (b ≤ 57)) = isDig b := by
    rw [Bool.eq_iff_iff]
    simp [isDig]
   rw [el, ed]
   have key : (bif c == 65 then bif !letZ b then b != 32 || c == 57 && (!isDig b && b != 32) else c == 57 && (!isDig b && b != 32) else c == 57 && (!isDig b && b != 32)) = !oneZ c b := by
    unfold oneZ
    rcases hcb with rfl | rfl | rfl <;> by_cases h2 : b = 32 <;> simp [h2] <;> cases letZ b <;> cases isDig b <;> simp
   rw [key]
   refine c_t rfl (c_t rfl (c_t (by simp) (c_t (by cases decide (b ≥ 65) <;> simp) (c_t (by cases c == 65 <;> cases !letZ b <;> cases c == 57 <;> simp) (cond_intro (fun q => c_t (hg _) ?_) (fun q => c_t (hg _) ?_))))))
   ·have q : oneZ c b = false := by simpa using q
    rw [q, Bool.false_and, cond_false] at hf
    exact hf i
   ·have q : oneZ c b = true := by simpa using q
    rw [q, Bool.true_and] at hf
    exact ⟨(s, r, d, m, cap, L, i + 1), rfl, rfl, by simp only [S71_0, Bool.and_eq_true, decide_eq_true_eq]; exact ⟨hV, hA, by omega⟩, by simp only; omega, hf⟩
  ·have h := of_decide_eq_false h
   have hz : (bz s).drop i.toNat = [] := List.drop_eq_nil_of_le (by rw [bz_length]; omega)
   rw [hv.end (by omega), hz] at hf
   exact c_t (hg _) (hf i)
end Go.Px
end
noncomputable section
set_option maxHeartbeats 3200000
namespace Go.Px
open Go Go.Ab Go.Proofs Go.Shelf
def s71 (s : ByteArray) (t : ByteArray) : Bool × Value := ((bz s).all (hasZ [65, 88, 57]) && decide (s.size ≤ 1000 ∧ t.size ≤ 9223372036854775807), .bool (decide ((t.size : Int) = s.size) && onGo (bz s) (bz t)))
theorem fn71 : Fn1 Tryz.prog 71 Tryz.f71 := ⟨Tryz.func71, by kernel_rfl, by kernel_rfl, by kernel_rfl⟩
theorem v71 (s : ByteArray) (t : ByteArray) (R : Value → Prop) : bodyQ Tryz.prog G37 (oneL 0 S71_0.hA) Tryz.f71 [Enc.enc s, Enc.enc t] (fun _ => none) 0 (fun v _ _ => R v) = ( bif (↑(ByteArray.size t) : Int) != (↑(ByteArray.size s) : Int) then R (.bool false) else ∀ (cap : Nat), Nat.ble (ByteArray.size t) cap = true → bif goodL [(7, 300)] (Lib.strCells t) && true && true && (idsLt 310 (rlbL [(7, 300)] (Lib.strCells t)) && true) then bif LSpec.pre (LSpecA.toLSpec S71_0) (s, false, rlbL [(7, 300)] (Lib.strCells t), ByteArray.size t, cap, natO (ByteArray.size t), 0) then bif onGo (List.drop (Int.toNat 0) (bz s)) (List.drop (Int.toNat 0) (zc (rlbL [(7, 300)] (Lib.strCells t)) (ByteArray.size t))) then ∀ (i' : Int), bif idsLt 310 (rlbL [(7, 300)] (Lib.strCells t)) && true then ∀ (x : Tmps), R (.bool true) else False else ∀ (i' : Int), bif idsLt 310 (rlbL [(7, 300)] (Lib.strCells t)) && true then ∀ (x : Tmps), R (.bool false) else False else False else False) := by kernel_rfl
theorem ok71 : PureOK Tryz.prog 71 (sp2 s71) := by
 refine qure2 ok_G37 hmix fn71 l71_0 (Nat.le_of_ble_eq_true (by kernel_rfl)) fun s t hc => ?_
 rw [DoesQ, v71]
 try dsimp only [s71]
 obtain ⟨hA, hc⟩ := Bool.and_eq_true_iff.1 hc
 have hc := of_decide_eq_true hc
 obtain ⟨hv, hz⟩ := vw_str t
 have hV := vwOK_iff.2 hv
 refine cond_intro (fun h => ?_) (fun h => fun cap _ => ?_)
 ·have h : ¬ (t.size : Int) = s.size := by simpa using h
  rw [decide_eq_false h]
  rfl
 ·have h : (t.size : Int) = s.size := by simpa using h
  have hg : (goodL [(7, 300)] (Lib.strCells t) && true && true && (idsLt 310 (Lib.strCells t) && true)) = true := by rw [goodL_plain hv.plain]; simp [idsLt, idsL, ids_plainL hv.plain]
  have hi : (idsLt 310 (Lib.strCells t) && true) = true := by simp [idsLt, idsL, ids_plainL hv.plain]
  have z0 : Int.toNat 0 = 0 := rfl
  simp only [hv.rlb, z0, List.drop_zero, hz]
  refine c_t hg (c_t ?_ ?_)
  ·show (vwOK (Lib.strCells t) t.size && ((bz s).all (hasZ [65, 88, 57]) && decide ((0 : Int) ≤ 0 ∧ (0 : Int) ≤ t.size ∧ natO t.size = t.size ∧ s.size = t.size ∧ t.size ≤ 1000))) = true
   rw [hV, hA, natO_eq]
   simp only [Bool.true_and, decide_eq_true_eq]
   exact ⟨by omega, by omega, trivial, by omega, by omega⟩
  ·rw [decide_eq_true h, Bool.true_and]
   refine cond_intro (fun q _ => c_t hi fun _ => by rw [q]) (fun q _ => c_t hi fun _ => by rw [q])
end Go.Px
end
noncomputable section
namespace Go.Px
open Go Go.Ab Go.Proofs Go.Shelf
theorem dec_from : ∀ (l : List UInt8) (a : Nat), dgL (zl l) = true → Lib.decFrom a l = some (numZ (zl l) a).toNat ∧ 0 ≤ numZ (zl l) a
 | [], a, _ => ⟨rfl, Int.natCast_nonneg a⟩
 | b :: r, a, h => by
  have h : dgL ((b.toNat : Int) :: zl r) = true := h
  have h1 : 48 ≤ b.toNat ∧ b.toNat ≤ 57 := by
   simp only [dgL, List.all_cons, Bool.and_eq_true, decide_eq_true_eq] at h
   omega
  have h2 : dgL (zl r) = true := by
   simp only [dgL, List.all_cons, Bool.and_eq_true] at h
   exact h.2
  obtain ⟨e1, e2⟩ := dec_from r (a * 10 + (b.toNat - 48)) h2
  have e : ((a * 10 + (b.toNat - 48) : Nat) : Int) = (a : Int) * 10 + ((b.toNat : Int) - 48) := by omega
  rw [e] at e1 e2
  have hd : Lib.digitVal b = some (b.toNat - 48) := by rw [Lib.digitVal, if_pos h1]
  refine ⟨?_, e2⟩
  rw [Lib.decFrom, hd]
  exact e1
theorem atoi_dig {s : ByteArray} (h0 : 1 ≤ s.size) (h : dgL (bz s) = true) : Lib.atoi s.data.toList = some (dval (bz s)) := by
 have hb : bz s = zl s.data.toList := rfl
 have hl : s.data.toList.length = s.size := rfl
 rw [hb] at h ⊢
 generalize s.data.toList = l at *
 cases l with
 | nil => simp at hl; omega
 | cons b r =>
  have h1 : 48 ≤ b.toNat ∧ b.toNat ≤ 57 := by
   have h : dgL ((b.toNat : Int) :: zl r) = true := h
   simp only [dgL, List.all_cons, Bool.and_eq_true, decide_eq_true_eq] at h
   omega
  have n45 : (b == 45) = false := by
   cases q : b == 45 with
   | false => rfl
   | true => have := eq_of_beq q; rw [this] at h1; revert h1; decide
  have n43 : (b == 43) = false := by
   cases q : b == 43 with
   | false => rfl
   | true => have := eq_of_beq q; rw [this] at h1; revert h1; decide
  obtain ⟨e1, e2⟩ := dec_from (b :: r) 0 h
  rw [Lib.atoi, n45, n43]
  show (Lib.decNat (b :: r)).map (fun m : Nat => (m : Int)) = _
  have : Lib.decNat (b :: r) = Lib.decFrom 0 (b :: r) := rfl
  rw [this, e1, Option.map_some, dval]
  congr 1
  exact Int.toNat_of_nonneg e2
def s68 (s : ByteArray) : Bool × Value := (decide (1 ≤ s.size ∧ s.size ≤ 18) && dgL (bz s), .tuple ⟨[.int .i64 (dval (bz s)), .nilIface]⟩)
theorem ok68 : PureOK Tryz.prog 68 (sp1 s68) := shelf1 c68 fun s hc w _ => by
 simp only [s68, Bool.and_eq_true, decide_eq_true_eq] at hc
 refine (Any.strconv_Atoi (ρ := Tryz.lays172_ren) Tryz.lays172 s (dval (bz s)) hc.1.2 (atoi_dig hc.1.1 hc.2) w).mono fun e w' ⟨h1, t, h2⟩ => ⟨h1, ?_⟩
 subst h2
 exact Lib.bytesWorld_below _ _ _
end Go.Px
end
noncomputable section
namespace Go.Px
open Go Go.Ab Go.Proofs Go.Shelf
theorem gs_law : ∀ (ro cs : List Int) (a : Int), okR ro → ((gsGo ro cs).length : Int) = cdg ro ∧ dgL (gsGo ro cs) = true ∧ numZ (gsGo ro cs) a = rdGo (ro.map rmk) cs a
 | [], _, _, _ => ⟨rfl, rfl, rfl⟩
 | r :: rs, cs, a, hok => by
  have hok' : okR rs := fun x hx => hok x (List.mem_cons_of_mem _ hx)
  rw [gsGo, cdg, List.map_cons, rdGo]
  have hr := rd_rng (cs.headD 0)
  have dig : ∀ l, dgL l = true → dgL ((48 + rdD (cs.headD 0)) :: l) = true := fun l h => by
   simp only [dgL, List.all_cons, Bool.and_eq_true, decide_eq_true_eq] at h ⊢
   exact ⟨by omega, h⟩
  have e : a * 10 + (48 + rdD (cs.headD 0) - 48) = a * 10 + rdD (cs.headD 0) := by omega
  rcases rmk_cases (hok r List.mem_cons_self) with rfl | rfl | rfl | rfl | rfl | rfl
  ·obtain ⟨h1, h2, h3⟩ := gs_law rs cs.tail (a * 10 + rdD (cs.headD 0)) hok'
   refine ⟨?_, dig _ h2, ?_⟩
   ·show (((_ :: gsGo rs cs.tail).length : Nat) : Int) = 1 + cdg rs
    rw [List.length_cons]; omega
   ·show numZ (_ :: gsGo rs cs.tail) a = rdGo (rs.map rmk) cs.tail (a * 10 + rdD (cs.headD 0))
    rw [numZ, e]; exact h3
  ·obtain ⟨h1, h2, h3⟩ := gs_law rs cs.tail (a * 10 + rdD (cs.headD 0)) hok'
   refine ⟨?_, dig _ h2, ?_⟩
   ·show (((_ :: gsGo rs cs.tail).length : Nat) : Int) = 1 + cdg rs
    rw [List.length_cons]; omega
   ·show numZ (_ :: gsGo rs cs.tail) a = rdGo (rs.map rmk) cs.tail (a * 10 + rdD (cs.headD 0))
    rw [numZ, e]; exact h3
  ·obtain ⟨h1, h2, h3⟩ := gs_law rs cs a hok'
   exact ⟨by simpa using h1, h2, h3⟩
  ·obtain ⟨h1, h2, h3⟩ := gs_law rs cs.tail a hok'
   exact ⟨by simpa using h1, h2, h3⟩
  ·obtain ⟨h1, h2, h3⟩ := gs_law rs cs.tail a hok'
   exact ⟨by simpa using h1, h2, h3⟩
  ·obtain ⟨h1, h2, h3⟩ := gs_law rs cs.tail a hok'
   exact ⟨by simpa using h1, h2, h3⟩
end Go.Px
end
noncomputable section
set_option maxHeartbeats 3200000
namespace Go.Px
open Go Go.Ab Go.Proofs Go.Shelf
def G38 : Env := ((G37.addG 67 h67).add 68 (sp1 s68)).add 71 (sp2 s71)
theorem ok_G38 : EnvOK Tryz.prog G38 := env_add (env_add (env_addG ok_G37 h67_ok) ok68) ok71
theorem cN_nv : ∀ (rs : List Int), okR rs → cN rs = nv (rs.map rmk)
 | [], _ => rfl
 | r :: rs, hok => by
  have hok' : okR rs := fun x hx => hok x (List.mem_cons_of_mem _ hx)
  have ih := cN_nv rs hok'
  rw [cN, List.map_cons, nv_cons]
  rcases rmk_cases (hok r List.mem_cons_self) with rfl | rfl | rfl | rfl | rfl | rfl <;> simp [rmk] <;> omega
theorem gs_use {s t : ByteArray} (h : pN (bz s) = true) : digZ (rdA (bz s) (bz t)) (pD (bz s)).toNat = gsGo (rolF (pS (bz s))) (bz t) ∧ 0 ≤ rdA (bz s) (bz t) ∧ rdA (bz s) (bz t) < tenZ (pD (bz s)).toNat ∧ dval (gsGo (rolF (pS (bz s))) (bz t)) = rdA (bz s) (bz t) ∧ cN (rolF (pS (bz s))) = pW (bz s) := by
 have hl := pS_len s
 obtain ⟨f1, f2, f3, _⟩ := pic_facts hl h
 obtain ⟨g1, g2, g3⟩ := gs_law (rolF (pS (bz s))) (bz t) 0 f1
 have hp := pD_rng h
 have hv : dval (gsGo (rolF (pS (bz s))) (bz t)) = rdA (bz s) (bz t) := by rw [dval, g3, f2, rdA]
 have hlen : (gsGo (rolF (pS (bz s))) (bz t)).length = (pD (bz s)).toNat := by omega
 have hr := dval_rng _ g2
 rw [hv, hlen] at hr
 refine ⟨by rw [← hv]; exact digZ_val' _ _ hlen g2, hr.1, hr.2, hv, by rw [cN_nv _ f1, f2, pN_nv h]⟩
def s22 (s : ByteArray) (t : ByteArray) : Bool × Value := (decide (s.size ≤ 9223372036854775807 ∧ t.size ≤ 9223372036854775807), .tuple ⟨[.int .i64 (rdV (bz s) (bz t)).1, .int .i64 (rdV (bz s) (bz t)).2]⟩)
theorem fn22 : Fn1 Tryz.prog 22 Tryz.f22 := ⟨Tryz.func22, by kernel_rfl, by kernel_rfl, by kernel_rfl⟩
theorem v22 (s : ByteArray) (t : ByteArray) (R : Value → Prop) : bodyQ Tryz.prog G38 noL Tryz.f22 [Enc.enc s, Enc.enc t] (fun _ => none) 0 (fun v _ _ => R v) = ( bif decide (ByteArray.size s ≤ 9223372036854775807) then bif pN (bz s) then ∀ (k cap : Nat) (d : List Value), rowIOK d k cap = true → zc d k = rolF (pS (bz s)) → bif (↑(ByteArray.size t) : Int) != pW (bz s) then R (.tuple (.mk [.int .i64 0, .int .i64 31])) else bif rowIOK d k cap && decide (k ≤ 1000 ∧ cN (zc d k) ≤ (↑(ByteArray.size t) : Int)) then ∀ (e : ByteArray), sz (gsGo (zc d k) (bz t)) = e → bif decide (1 ≤ ByteArray.size e ∧ ByteArray.size e ≤ 18) && dgL (bz e) then bif rowIOK d k cap && (roOK (zc d k) && (dgL (bz e) && decide ((k ≤ 1000 ∧ ByteArray.size e ≤ 1000 ∧ k ≤ ByteArray.size (sz (pS (bz s))) ∧ ByteArray.size (sz (pS (bz s))) ≤ 1000 ∧ 0 ≤ pW (bz s) ∧ pW (bz s) ≤ 1000) ∧ cdg (zc d k) ≤ (↑(ByteArray.size e) : Int) ∧ (fdFl (pS (bz s)) = 32 ∨ fdFl (pS (bz s)) = 42)))) then ∀ (t_1 : ByteArray) (l : Int), sz (Prod.fst (wrV (bz (sz (pS (bz s)))) (pW (bz s)) (Prod.snd (Prod.snd (nD (bodyZ (pS (bz s)))))) (crZ (pS (bz s))) (drZ (bodyZ (pS (bz s)))) (fdFl (pS (bz s))) (↑(cntZ (mkGo (drZ (bodyZ (pS (bz s)))) false (bodyZ (pS (bz s)))) 100) : Int) (zc d k) (bz e) false)) = t_1 → Prod.snd (wrV (bz (sz (pS (bz s)))) (pW (bz s)) (Prod.snd (Prod.snd (nD (bodyZ (pS (bz s)))))) (crZ (pS (bz s))) (drZ (bodyZ (pS (bz s)))) (fdFl (pS (bz s))) (↑(cntZ (mkGo (drZ (bodyZ (pS (bz s)))) false (bodyZ (pS (bz s)))) 100) : Int) (zc d k) (bz e) false) = l → bif ByteArray.toList t_1 == ByteArray.toList t then R (.tuple (.mk [.int .i64 (dval (bz e)), .int .i64 0])) else bif rowIOK d k cap && (roOK (zc d k) && (dgL (bz e) && decide ((k ≤ 1000 ∧ ByteArray.size e ≤ 1000 ∧ k ≤ ByteArray.size (sz (pS (bz s))) ∧ ByteArray.size (sz (pS (bz s))) ≤ 1000 ∧ 0 ≤ pW (bz s) ∧ pW (bz s) ≤ 1000) ∧ cdg (zc d k) ≤ (↑(ByteArray.size e) : Int) ∧ (fdFl (pS (bz s)) = 32 ∨ fdFl (pS (bz s)) = 42)))) then ∀ (t_2 : ByteArray) (l : Int), sz (Prod.fst (wrV (bz (sz (pS (bz s)))) (pW (bz s)) (Prod.snd (Prod.snd (nD (bodyZ (pS (bz s)))))) (crZ (pS (bz s))) (drZ (bodyZ (pS (bz s)))) (fdFl (pS (bz s))) (↑(cntZ (mkGo (drZ (bodyZ (pS (bz s)))) false (bodyZ (pS (bz s)))) 100) : Int) (zc d k) (bz e) true)) = t_2 → Prod.snd (wrV (bz (sz (pS (bz s)))) (pW (bz s)) (Prod.snd (Prod.snd (nD (bodyZ (pS (bz s)))))) (crZ (pS (bz s))) (drZ (bodyZ (pS (bz s)))) (fdFl (pS (bz s))) (↑(cntZ (mkGo (drZ (bodyZ (pS (bz s)))) false (bodyZ (pS (bz s)))) 100) : Int) (zc d k) (bz e) true) = l → bif bif ByteArray.toList t_2 == ByteArray.toList t then pG (bz s) || true else true then bif ByteArray.toList t_2 == ByteArray.toList t && (pG (bz s) && decide (dval (bz e) > 0)) then R (.tuple (.mk [.int .i64 (IntKind.wrap .i64 (0 - dval (bz e))), .int .i64 0])) else R (.tuple (.mk [.int .i64 0, .int .i64 31])) else False else False else False else False else False else R (.tuple (.mk [.int .i64 0, .int .i64 30])) else False) := by kernel_rfl
theorem ok22 : PureOK Tryz.prog 22 (sp2 s22) := by
 refine qure2 ok_G38 hmix fn22 lokf_none (Nat.le_of_ble_eq_true (by kernel_rfl)) fun s t hc => ?_
 rw [DoesQ, v22]
 have hc : (s.size ≤ 9223372036854775807 ∧ t.size ≤ 9223372036854775807) := of_decide_eq_true hc
 try dsimp only [s22]
 refine c_t (decide_eq_true hc.1) (cond_intro (fun h => ?_) (fun h => ?_))
 ·intro k cap d hR hz
  obtain ⟨u1, u2, u3, u4, u5⟩ := gs_use (t := t) h
  have hl := pS_len s
  have hr := rowIOK_iff.1 hR
  have hk : k = (pS (bz s)).length := by rw [← rol_len h, ← hz, zi_length hr]
  have hp := pD_rng h
  have bl : ((bz t).length : Int) = t.size := by rw [bz_length]
  refine cond_intro (fun hw => ?_) (fun hw => ?_)
  ·have hw : ¬ (t.size : Int) = pW (bz s) := by simpa using hw
   rw [rdV, if_pos h, bl, if_neg hw]
  ·have hw : (t.size : Int) = pW (bz s) := by simpa using hw
   refine c_t (by rw [hR, hz, u5]; simp only [Bool.true_and, decide_eq_true_eq]; omega) fun e he => ?_
   rw [hz, ← u1] at he
   have hdd := digZ_dg (pD (bz s)).toNat (rdA (bz s) (bz t))
   have be : bz e = digZ (rdA (bz s) (bz t)) (pD (bz s)).toNat := by rw [← he, bz_sz (dg_isB hdd)]
   have ze : e.size = (pD (bz s)).toNat := by rw [← bz_length, be, digZ_len]
   have hv : dval (bz e) = rdA (bz s) (bz t) := by rw [be, u1, u4]
   rw [hv, rdV, if_pos h, bl, if_pos hw]
   generalize rdA (bz s) (bz t) = m at *
   have hm : ((m.natAbs : Nat) : Int) = m := by omega
   have hm' : (((0 - m).natAbs : Nat) : Int) = m := by omega
   obtain ⟨g1, g2⟩ := wr_use h hR hz (m := m) (by omega)
   obtain ⟨k1, k2⟩ := wr_use h hR hz (m := 0 - m) (by omega)
   rw [hm, he] at g1 g2
   rw [hm', he] at k2
   have d0 : decide (m < 0) = false := decide_eq_false (by omega)
   rw [d0] at g2
   have ht : tenZ (pD (bz s)).toNat ≤ 1000000000 := tenZ_le9 (by omega)
   have hF : ∀ (a : ByteArray) (n : Int), sz (fieldZ (pS (bz s)) (pW (bz s)) (pD (bz s)).toNat n) = a → (a.toList == t.toList) = decide (fdN (bz s) n = bz t) := fun a n e => by
    rw [toList_beq, ← e, bz_sz (field_isB hl.1 _ _ _)]
    rfl
   refine c_t (by rw [be, hdd, ze, Bool.and_true, decide_eq_true_eq]; omega) (c_t g1 fun a1 l1 q1 q2 => cond_intro (fun p => ?_) (fun p => c_t g1 fun a2 l2 q3 q4 => ?_))
   ·rw [hF _ _ (by rw [← q1, g2])] at p
    rw [if_pos (of_decide_eq_true p)]
   ·rw [hF _ _ (by rw [← q1, g2])] at p
    have p := of_decide_eq_false p
    rw [if_neg p]
    refine c_t (by cases ByteArray.toList a2 == ByteArray.toList t <;> simp) ?_
    by_cases m0 : m > 0
    ·have d1 : decide (0 - m < 0) = true := decide_eq_true (by omega)
     rw [d1] at k2
     rw [hF _ _ (by rw [← q3, k2]), w64 (n := 0 - m) (by omega)]
     by_cases r1 : fdN (bz s) (0 - m) = bz t
     ·cases hG : pG (bz s) with
      | true =>
       have : (decide (fdN (bz s) (0 - m) = bz t) && (true && decide (m > 0))) = true := by rw [decide_eq_true r1, decide_eq_true m0]; rfl
       rw [this, if_pos ⟨rfl, m0, r1⟩]
       rfl
      | false =>
       rw [Bool.false_and, Bool.and_false, if_neg (fun q => by cases q.1)]
       rfl
     ·rw [decide_eq_false r1, Bool.false_and, if_neg (fun q => r1 q.2.2)]
      rfl
    ·rw [decide_eq_false m0, Bool.and_false, Bool.and_false, if_neg (fun q => m0 q.2.1)]
     rfl
 ·have h1 : ¬ pN (bz s) = true := by rw [h]; simp
  rw [rdV, if_neg h1]
end Go.Px
end
noncomputable section
set_option maxHeartbeats 3200000
namespace Go.Px
open Go Go.Ab Go.Proofs Go.Shelf
def G39 : Env := (G38.add 22 (sp2 s22))
theorem ok_G39 : EnvOK Tryz.prog G39 := env_add (ok_G38) ok22
theorem ch_all {l : List Int} (h : vOK l = true) (hn : pN l = false) : (pS l).all (hasZ [65, 88, 57]) = true := by
 have hc : charZ (exZ l) = true := by
  simp only [vOK, Bool.and_eq_true, Bool.or_eq_true] at h
  simp only [pN] at hn
  rcases h.2 with q | q
  ·exact q
  ·rw [h.1, q] at hn; cases hn
 rw [pS, if_pos h]
 simp only [charZ, Bool.and_eq_true] at hc
 exact hc.1
theorem digZ_0 {k : Nat} : digZ (((0 : Int).natAbs : Nat) : Int) k = rep1 48 k := (rep48 (digZ_len _ _)).2 ((dig_zero (n := 0) (by have := tenZ_pos k; omega)).2 rfl)
def s24 (s : ByteArray) (t : ByteArray) : Bool × Value := (decide (s.size ≤ 9223372036854775807 ∧ t.size ≤ 9223372036854775807), .bool (hoZ (bz s) (bz t)))
theorem fn24 : Fn1 Tryz.prog 24 Tryz.f24 := ⟨Tryz.func24, by kernel_rfl, by kernel_rfl, by kernel_rfl⟩
theorem v24 (s : ByteArray) (t : ByteArray) (R : Value → Prop) : bodyQ Tryz.prog G39 noL Tryz.f24 [Enc.enc s, Enc.enc t] (fun _ => none) 0 (fun v _ _ => R v) = ( bif decide (ByteArray.size s ≤ 9223372036854775807) then bif vOK (bz s) then bif pN (bz s) then ∀ (k cap : Nat) (d : List Value), rowIOK d k cap = true → zc d k = rolF (pS (bz s)) → bif decide (ByteArray.size s ≤ 9223372036854775807 ∧ ByteArray.size t ≤ 9223372036854775807) then R (.bool (Prod.snd (rdV (bz s) (bz t)) == 0)) else False else bif List.all (bz (sz (pS (bz s)))) (hasZ [65, 88, 57]) && decide (ByteArray.size (sz (pS (bz s))) ≤ 1000 ∧ ByteArray.size t ≤ 9223372036854775807) then R (.bool (decide ((↑(ByteArray.size t) : Int) = (↑(ByteArray.size (sz (pS (bz s)))) : Int)) && onGo (bz (sz (pS (bz s)))) (bz t))) else False else R (.bool false) else False) := by kernel_rfl
theorem ok24 : PureOK Tryz.prog 24 (sp2 s24) := by
 refine qure2 ok_G39 hmix fn24 lokf_none (Nat.le_of_ble_eq_true (by kernel_rfl)) fun s t hc => ?_
 rw [DoesQ, v24]
 have hc : (s.size ≤ 9223372036854775807 ∧ t.size ≤ 9223372036854775807) := of_decide_eq_true hc
 try dsimp only [s24]
 refine c_t (decide_eq_true hc.1) (cond_intro (fun h => cond_intro (fun hn => ?_) (fun hn => ?_)) (fun h => ?_))
 ·intro k cap d _ _
  refine c_t (decide_eq_true hc) ?_
  rw [hoZ, if_pos h, if_pos hn]
  rfl
 ·have hl := pS_len s
  have b1 : bz (sz (pS (bz s))) = pS (bz s) := bz_sz hl.1
  have z1 : (sz (pS (bz s))).size = (pS (bz s)).length := by rw [← bz_length, b1]
  have hn' : ¬ pN (bz s) = true := by rw [hn]; simp
  rw [b1, z1, ch_all h hn]
  refine c_t (by simp only [Bool.true_and, decide_eq_true_eq]; omega) ?_
  rw [hoZ, if_pos h, if_neg hn', pCh h hn, bz_length]
 ·have h1 : ¬ vOK (bz s) = true := by rw [h]; simp
  rw [hoZ, if_neg h1]
def s42 (s : ByteArray) (t : ByteArray) : Bool × Value := (decide (s.size ≤ 9223372036854775807 ∧ t.size ≤ 9223372036854775807), .tuple ⟨[.string (sz (fiS (bz s) (bz t))), .bool (fiF (bz s) (bz t)), .int .i64 (fiE (bz s))]⟩)
theorem fn42 : Fn1 Tryz.prog 42 Tryz.f42 := ⟨Tryz.func42, by kernel_rfl, by kernel_rfl, by kernel_rfl⟩
theorem v42 (s : ByteArray) (t : ByteArray) (R : Value → Prop) : bodyQ Tryz.prog G39 noL Tryz.f42 [Enc.enc s, Enc.enc t] (fun _ => none) 0 (fun v _ _ => R v) = ( bif decide (ByteArray.size s ≤ 9223372036854775807) then bif vOK (bz s) then bif pN (bz s) then ∀ (k cap : Nat) (d : List Value), rowIOK d k cap = true → zc d k = rolF (pS (bz s)) → R (.tuple (.mk [.string (ByteArray.mk #[]), .bool false, .int .i64 30])) else bif decide (0 ≤ imax 0 (IntKind.wrap .i64 (pW (bz s) - (↑(ByteArray.size t) : Int))) ∧ imax 0 (IntKind.wrap .i64 (pW (bz s) - (↑(ByteArray.size t) : Int))) ≤ 1000 ∧ ByteArray.size (ByteArray.mk #[32]) ≤ 1000) then bif strFit (ByteArray.size t + ByteArray.size (sz (repZ (bz (ByteArray.mk #[32])) (Int.toNat (imax 0 (IntKind.wrap .i64 (pW (bz s) - (↑(ByteArray.size t) : Int)))))))) then bif decide ((0 : Int) ≤ 0 ∧ 0 ≤ pW (bz s) ∧ pW (bz s) ≤ (↑(ByteArray.size (t ++ sz (repZ (bz (ByteArray.mk #[32])) (Int.toNat (imax 0 (IntKind.wrap .i64 (pW (bz s) - (↑(ByteArray.size t) : Int)))))))) : Int)) then bif List.all (bz (sz (pS (bz s)))) (hasZ [65, 88, 57]) && decide (ByteArray.size (sz (pS (bz s))) ≤ 1000 ∧ ByteArray.size (ByteArray.extract (t ++ sz (repZ (bz (ByteArray.mk #[32])) (Int.toNat (imax 0 (IntKind.wrap .i64 (pW (bz s) - (↑(ByteArray.size t) : Int))))))) 0 (Int.toNat (pW (bz s)))) ≤ 9223372036854775807) then R (.tuple (.mk [.string (ByteArray.extract (t ++ sz (repZ (bz (ByteArray.mk #[32])) (Int.toNat (imax 0 (IntKind.wrap .i64 (pW (bz s) - (↑(ByteArray.size t) : Int))))))) 0 (Int.toNat (pW (bz s)))), .bool (decide ((↑(ByteArray.size (ByteArray.extract (t ++ sz (repZ (bz (ByteArray.mk #[32])) (Int.toNat (imax 0 (IntKind.wrap .i64 (pW (bz s) - (↑(ByteArray.size t) : Int))))))) 0 (Int.toNat (pW (bz s))))) : Int) = (↑(ByteArray.size (sz (pS (bz s)))) : Int)) && onGo (bz (sz (pS (bz s)))) (bz (ByteArray.extract (t ++ sz (repZ (bz (ByteArray.mk #[32])) (Int.toNat (imax 0 (IntKind.wrap .i64 (pW (bz s) - (↑(ByteArray.size t) : Int))))))) 0 (Int.toNat (pW (bz s)))))), .int .i64 0])) else False else False else False else False else R (.tuple (.mk [.string (ByteArray.mk #[]), .bool false, .int .i64 30])) else False) := by kernel_rfl
theorem ok42 : PureOK Tryz.prog 42 (sp2 s42) := by
 refine qure2 ok_G39 hmix fn42 lokf_none (Nat.le_of_ble_eq_true (by kernel_rfl)) fun s t hc => ?_
 rw [DoesQ, v42]
 have hc : (s.size ≤ 9223372036854775807 ∧ t.size ≤ 9223372036854775807) := of_decide_eq_true hc
 try dsimp only [s42]
 refine c_t (decide_eq_true hc.1) (cond_intro (fun h => cond_intro (fun hn => ?_) (fun hn => ?_)) (fun h => ?_))
 ·intro k cap d _ _
  have h1 : ¬ (vOK (bz s) = true ∧ pN (bz s) = false) := by rw [hn]; simp
  rw [fiS, fiF, fiE, if_neg h1, if_neg h1, if_neg h1, sz_nil]
 ·have hl := pS_len s
  have hw := @pW_rng s
  have b1 : bz (sz (pS (bz s))) = pS (bz s) := bz_sz hl.1
  have z1 : (sz (pS (bz s))).size = (pS (bz s)).length := by rw [← bz_length, b1]
  have hn' : ¬ pN (bz s) = true := by rw [hn]; simp
  have hk : ∃ k : Nat, (imax 0 (pW (bz s) - (t.size : Int))).toNat = k ∧ k ≤ 32 ∧ (k : Int) = imax 0 (pW (bz s) - (t.size : Int)) ∧ (pW (bz s) ≤ t.size → k = 0) ∧ (t.size ≤ pW (bz s) → (k : Int) = pW (bz s) - t.size) := by
   refine ⟨_, rfl, ?_⟩
   unfold imax
   split <;> omega
  obtain ⟨k, e1, e2, e3, e4, e5⟩ := hk
  have e32 : bz (ByteArray.mk #[32]) = [32] := rfl
  rw [w64 (by omega), e1, ← e3, e32, rep_one]
  have hR := rep_isB 32 k (by omega)
  have hlr : (rep1 32 k).length = k := by simp [rep1]
  have zr : (sz (rep1 32 k)).size = k := by rw [sz_size, hlr]
  have zt : (t ++ sz (rep1 32 k)).size = t.size + k := by rw [ByteArray.size_append, zr]
  have ex : bz ((t ++ sz (rep1 32 k)).extract 0 (pW (bz s)).toNat) = flZ (bz s) (bz t) := by
   rw [bz_extract, bz_append, bz_sz hR, List.drop_zero, flZ, bz_length]
   by_cases a : (t.size : Int) > pW (bz s)
   ·rw [if_pos a, e4 (by omega)]
    show (bz t ++ []).take _ = _
    rw [List.append_nil]
   ·rw [if_neg a, ← e5 (by omega), Int.toNat_natCast, List.take_of_length_le]
    rw [List.length_append, bz_length, hlr]
    have := e5 (by omega)
    omega
  have exs : ((t ++ sz (rep1 32 k)).extract 0 (pW (bz s)).toNat).size ≤ 32 := by
   rw [ByteArray.size_extract]
   omega
  rw [b1, z1, ch_all h hn, zr, zt]
  refine c_t (decide_eq_true ⟨by omega, by omega, by decide⟩) (c_t (by simp only [strFit, Nat.ble_eq]; omega) (c_t (decide_eq_true ?_) (c_t ?_ ?_)))
  ·by_cases a : (t.size : Int) ≥ pW (bz s)
   ·omega
   ·have := e5 (by omega)
    omega
  ·simp only [Bool.true_and, decide_eq_true_eq]
   omega
  ·rw [fiS, fiF, fiE, if_pos ⟨h, hn⟩, if_pos ⟨h, hn⟩, if_pos ⟨h, hn⟩, hoZ, if_pos h, if_neg hn', ← ex, sz_bz, bz_length, pCh h hn]
 ·have h1 : ¬ (vOK (bz s) = true ∧ pN (bz s) = false) := by rw [h]; simp
  rw [fiS, fiF, fiE, if_neg h1, if_neg h1, if_neg h1, sz_nil]
end Go.Px
end
noncomputable section
namespace Go.Px
open Go Go.Ab Go.Proofs
def cel0 (le fill dr : Int) (neg : Bool) (m c d o : Int) : Int :=
 bif m == 100 then fmZ c d neg else bif m == 99 then (bif decide (o < le) then fill else d)
 else bif m == 105 then (bif c == 66 then 32 else bif decide (o < le) then fill else c) else ssZ c dr neg
def celZ (le fill dr : Int) (neg : Bool) (m c d o : Int) : Int := bif dr != 0 && o == le - 1 then sgZ dr neg else cel0 le fill dr neg m c d o
def fsGo (le fill dr : Int) (neg : Bool) : List Int → List Int → List Int → Int → List Int
 | [], _, _, _ => []
 | m :: r, sp, ds, o => bif m == 118 then fsGo le fill dr neg r sp.tail ds o
  else celZ le fill dr neg m (sp.headD 0) (ds.headD 0) o :: fsGo le fill dr neg r sp.tail (bif isP m then ds.tail else ds) (o + 1)
theorem fd_cons (le fill dr : Int) (neg : Bool) (m : Int) (r sp ds : List Int) (o : Int) : fdGo le fill dr neg (m :: r) sp ds o =
  bif m == 118 then fdGo le fill dr neg r sp.tail ds o else cel0 le fill dr neg m (sp.headD 0) (ds.headD 0) o :: fdGo le fill dr neg r sp.tail (bif isP m then ds.tail else ds) (o + 1) := by
 rw [fdGo, cel0, isP]
 by_cases h1 : m = 100
 ·subst h1; rfl
 by_cases h2 : m = 99
 ·subst h2; rfl
 by_cases h3 : m = 105
 ·subst h3; rfl
 have e1 : (m == 100) = false := beq_eq_false_iff_ne.2 h1
 have e2 : (m == 99) = false := beq_eq_false_iff_ne.2 h2
 have e3 : (m == 105) = false := beq_eq_false_iff_ne.2 h3
 rw [e1, e2, e3]
 by_cases h4 : m = 118
 ·subst h4; rfl
 have e4 : (m == 118) = false := beq_eq_false_iff_ne.2 h4
 have e5 : (m != 118) = true := by rw [bne, e4]; rfl
 rw [e4, e5]
 rfl
theorem fs_past {le fill dr : Int} {neg : Bool} : ∀ (ms sp ds : List Int) (o : Int), dr = 0 ∨ le - 1 < o → fsGo le fill dr neg ms sp ds o = fdGo le fill dr neg ms sp ds o
 | [], _, _, _, _ => rfl
 | m :: r, sp, ds, o, h => by
  have hc : (dr != 0 && o == le - 1) = false := by
   rcases h with rfl | h
   ·rfl
   ·have : (o == le - 1) = false := beq_eq_false_iff_ne.2 (by omega)
    rw [this, Bool.and_false]
  rw [fsGo, fd_cons, celZ, hc, cond_false, fs_past r _ _ (o + 1) (by omega), fs_past r _ _ o h]
theorem fs_set {le fill dr : Int} {neg : Bool} (hd : dr ≠ 0) : ∀ (ms sp ds : List Int) (o : Int), o ≤ le - 1 → le - 1 < o + nv ms → fsGo le fill dr neg ms sp ds o = (fdGo le fill dr neg ms sp ds o).set (le - 1 - o).toNat (sgZ dr neg)
 | [], _, _, o, h1, h2 => by simp [nv] at h2; omega
 | m :: r, sp, ds, o, h1, h2 => by
  rw [nv_cons] at h2
  rw [fsGo, fd_cons]
  by_cases hm : m = 118
  ·subst hm
   rw [if_pos rfl] at h2
   exact fs_set hd r _ _ o h1 (by omega)
  ·have e : (m == 118) = false := beq_eq_false_iff_ne.2 hm
   rw [if_neg hm] at h2
   rw [e, cond_false, cond_false, celZ]
   have hd' : (dr != 0) = true := bne_iff_ne.2 hd
   by_cases ho : o = le - 1
   ·have e2 : (o == le - 1) = true := beq_iff_eq.2 ho
    rw [hd', e2, fs_past r _ _ (o + 1) (.inr (by omega))]
    have : (le - 1 - o).toNat = 0 := by omega
    rw [this]
    rfl
   ·have e2 : (o == le - 1) = false := beq_eq_false_iff_ne.2 ho
    have : (le - 1 - o).toNat = (le - 1 - (o + 1)).toNat + 1 := by omega
    rw [e2, Bool.and_false, cond_false, fs_set hd r _ _ (o + 1) (by omega) (by omega), this]
    rfl
theorem fs_len (le fill dr : Int) (neg : Bool) : ∀ (ms sp ds : List Int) (o : Int), (fsGo le fill dr neg ms sp ds o).length = nv ms
 | [], _, _, _ => rfl
 | m :: r, sp, ds, o => by
  rw [fsGo, nv_cons]
  by_cases hm : m = 118
  ·subst hm
   rw [if_pos rfl, Nat.zero_add]
   exact fs_len le fill dr neg r _ _ _
  ·have e : (m == 118) = false := beq_eq_false_iff_ne.2 hm
   rw [e, cond_false, List.length_cons, fs_len, if_neg hm]
   omega
theorem field_fs {sp : List Int} {w : Int} {k : Nat} {n : Int} (h : fdOK sp w k n = true) : fieldZ sp w k n =
  bif fdBl sp w k n then rep1 (fdFl sp) w.toNat else fsGo (fdLe sp w k n) (fdFl sp) (fdDr sp) (decide (n < 0)) (marksZ sp) sp (digZ n.natAbs k) 0 := by
 unfold fieldZ
 cases hb : fdBl sp w k n with
 | true => rfl
 | false =>
  rw [cond_false, cond_false]
  unfold fdOK at h
  rw [hb, Bool.false_or] at h
  by_cases h0 : fdDr sp = 0
  ·have e : (fdDr sp != 0) = false := by rw [h0]; rfl
   rw [e, cond_false, fdOut, fs_past _ _ _ _ (.inl h0)]
  ·have e : (fdDr sp != 0) = true := bne_iff_ne.2 h0
   have e2 : (fdDr sp == 0) = false := beq_eq_false_iff_ne.2 h0
   rw [e2, Bool.false_or, decide_eq_true_eq, fdOut, fd_len] at h
   rw [e, cond_true, fdOut, fs_set h0 _ _ _ _ (by omega) (by omega), Int.sub_zero]
def ldOK (le : Int) : List Int → List Int → Int → Prop
 | [], _, _ => True
 | m :: r, ds, o => (o < le → m ≠ 100 ∧ (m = 99 → ds.headD 0 = 48)) ∧ ldOK le r (bif isP m then ds.tail else ds) (bif m == 118 then o else o + 1)
theorem ld_past {le : Int} : ∀ (ms ds : List Int) (o : Int), le ≤ o → ldOK le ms ds o
 | [], _, _, _ => trivial
 | m :: r, ds, o, h => ⟨fun q => by omega, ld_past r _ _ (by cases m == 118 <;> simp <;> omega)⟩
theorem ld_end : ∀ (ms ds : List Int) (o : Int), ldOK (endGo ms ds o) ms ds o
 | [], _, _ => trivial
 | m :: r, ds, o => by
  rw [endGo]
  cases h : ((m == 118 || m == 100) || (m == 99 && ds.headD 0 != 48)) with
  | true => exact ld_past _ _ _ (by rw [cond_true]; omega)
  | false =>
   rw [cond_false]
   simp only [Bool.or_eq_false_iff, beq_eq_false_iff_ne, Bool.and_eq_false_imp, beq_iff_eq, bne_eq_false_iff_eq] at h
   obtain ⟨⟨h1, h2⟩, h3⟩ := h
   have e1 : (m == 118) = false := beq_eq_false_iff_ne.2 h1
   have e2 : isP m = (m == 99) := by rw [isP, beq_eq_false_iff_ne.2 h2, Bool.false_or]
   have := ld_end r (bif m == 99 then ds.tail else ds) (o + 1)
   rw [ldOK, e1, e2, cond_false]
   exact ⟨fun _ => ⟨h2, h3⟩, this⟩
theorem pd_cons (m : Int) (r : List Int) : pdGo (m :: r) = (if isP m = true then 1 else 0) + pdGo r := by
 rw [pdGo]; cases isP m <;> rfl
theorem isP_iff {m : Int} : isP m = true ↔ m = 100 ∨ m = 99 := by simp [isP]
theorem ld_zero {le : Int} : ∀ (ms ds : List Int) (o : Int), 100 ∉ ms → (∀ c ∈ ds, c = 48) → pdGo ms ≤ ds.length → ldOK le ms ds o
 | [], _, _, _, _, _ => trivial
 | m :: r, ds, o, h1, h2, h3 => by
  have hr : 100 ∉ r := fun q => h1 (List.mem_cons_of_mem _ q)
  have hm : m ≠ 100 := fun q => h1 (by rw [q]; exact List.mem_cons_self)
  rw [pd_cons] at h3
  have hn := pd_nn r
  refine ⟨fun _ => ⟨hm, fun h99 => ?_⟩, ?_⟩
  ·rw [if_pos (isP_iff.2 (.inr h99))] at h3
   cases ds with
   | nil => simp at h3; omega
   | cons d ds => exact h2 d List.mem_cons_self
  ·refine ld_zero r _ _ hr ?_ ?_
   ·cases isP m with
    | true => exact fun c hc => h2 c (List.mem_of_mem_tail hc)
    | false => exact h2
   ·cases hp : isP m with
    | true => rw [hp, if_pos rfl] at h3; rw [cond_true, List.length_tail]; omega
    | false => rw [hp] at h3; simp at h3; exact h3
theorem ld_law {sp : List Int} {w : Int} {k : Nat} {n : Int} (hp : pdGo (marksZ sp) ≤ k) : ldOK (fdLe sp w k n) (marksZ sp) (digZ n.natAbs k) 0 := by
 unfold fdLe endZ
 cases h9 : hasZ (marksZ sp) 99 with
 | false => exact ld_past _ _ _ (by simp)
 | true =>
  rw [Bool.not_true, cond_false]
  cases hq : (!hasZ (marksZ sp) 100 && decide (digZ n.natAbs k = rep1 48 k)) with
  | false => exact ld_end _ _ _
  | true =>
   simp only [Bool.and_eq_true, Bool.not_eq_true', decide_eq_true_eq] at hq
   refine ld_zero _ _ _ (fun q => by rw [hasZ_iff.2 q] at hq; cases hq.1) ?_ (by rw [digZ_len]; exact hp)
   exact (rep48 (digZ_len _ _)).1 hq.2
end Go.Px
end
noncomputable section
namespace Go.Px
open Go Go.Ab Go.Proofs
theorem pd_zero {a : List Int} : pdGo a = 0 ↔ ∀ m ∈ a, isP m = false := by
 induction a with
 | nil => simp [pdGo]
 | cons m r ih =>
  have := pd_nn r
  rw [pd_cons]
  cases hp : isP m with
  | true => simp [hp]; omega
  | false => simp [hp, ih]
end Go.Px
end
noncomputable section
namespace Go.Px
open Go Go.Ab Go.Proofs
theorem fdN_len {l : List Int} (hl : IsB (pS l) ∧ (pS l).length ≤ 32) (h : pN l = true) (n : Int) : ((fdN l n).length : Int) = pW l := by
 obtain ⟨_, _, p3, p4, _, p6⟩ := pN_ok hl h n
 rw [fdN, field_fs p6]
 cases fdBl (pS l) (pW l) (pD l).toNat n with
 | true => simp [rep1]; omega
 | false => rw [cond_false, fs_len, pN_nv h]
end Go.Px
end
noncomputable section
set_option maxHeartbeats 3200000
namespace Go.Px
open Go Go.Ab Go.Proofs Go.Shelf
def L19 : Env := (((((((Env.nil.add 20 (sp3 s20)).add 22 (sp2 s22)).add 24 (sp2 s24)).add 31 (sp1 s31)).add 33 (sp1 s33)).add 35 (sp1 s35)).add 44 (sp1 s44))
theorem ok_L19 : EnvOK Tryz.prog L19 := env_add (env_add (env_add (env_add (env_add (env_add (env_add (env_nil) ok20) ok22) ok24) ok31) ok33) ok35) ok44
def s19 : Bool × Value := (true, .bool true)
theorem fn19 : Fn1 Tryz.prog 19 Tryz.f19 := ⟨Tryz.func19, by kernel_rfl, by kernel_rfl, by kernel_rfl⟩
theorem v19  (R : Value → Prop) : bodyQ Tryz.prog L19 noL Tryz.f19 [] (fun _ => none) 0 (fun v _ _ => R v) = ( R (.bool (Prod.snd (rdV (bz (ByteArray.mk #[83, 57, 57])) (bz (ByteArray.mk #[45, 48, 48]))) == 31 && (pN (bz (ByteArray.mk #[90, 86, 57])) && (!pN (bz (ByteArray.mk #[65, 88])) && (hoZ (bz (ByteArray.mk #[65, 57])) (bz (ByteArray.mk #[120, 32])) && pE (bz (ByteArray.mk #[57, 90])) == 30)))))) := by kernel_rfl
theorem ok19 : PureOK Tryz.prog 19 (sp0 s19) := by
 refine qure0 ok_L19 hmix fn19 lokf_none fun hc => ?_
 rw [DoesQ, v19]
 try dsimp only [s19]
 have e : ∀ b : Bool, b = true → Value.bool b = Value.bool true := fun b h => by rw [h]
 exact e _ (by kernel_rfl)
theorem pu_un {d : Int} {m : Bool} (h : 0 ≤ d ∧ d ≤ 9) : unD (puZ d m) = d ∧ unM (puZ d m) = m ∧ unK (puZ d m) = true := by
 rcases dig_cases h with rfl | rfl | rfl | rfl | rfl | rfl | rfl | rfl | rfl | rfl <;> cases m <;> decide
def L3 : Env := (((Env.nil.add 19 (sp0 s19)).add 20 (sp3 s20)).add 21 (sp3 s21))
def s3 (s : ByteArray) (n : Int) (q : Int) : Bool × Value := (decide (s.size ≤ 9223372036854775807 ∧ -9223372036854775808 ≤ n ∧ n ≤ 9223372036854775807), .bool true)
theorem v3 (s : ByteArray) (n : Int) (q : Int) (R : Value → Prop) : bodyQ Tryz.prog L3 noL Tryz.f3 [Enc.enc s, Enc.enc n, Enc.enc q] (fun _ => none) 0 (fun v _ _ => R v) = ( bif decide (ByteArray.size s ≤ 9223372036854775807 ∧ -9223372036854775808 ≤ n ∧ n ≤ 9223372036854775807) then bif decide (ByteArray.size s ≤ 9223372036854775807 ∧ -9223372036854775808 ≤ n ∧ n ≤ 9223372036854775807) then bif bif ByteArray.toList (sz (edS (bz s) n q)) == ByteArray.toList (sz (edS (bz s) n q)) then edF (bz s) n q == edF (bz s) n q || true else true then R (.bool (ByteArray.toList (sz (edS (bz s) n q)) == ByteArray.toList (sz (edS (bz s) n q)) && (edF (bz s) n q == edF (bz s) n q && edE (bz s) q == edE (bz s) q))) else False else False else False) := by kernel_rfl
def L4 : Env := (((((Env.nil.add 19 (sp0 s19)).add 22 (sp2 s22)).add 23 (sp2 s23)).add 24 (sp2 s24)).add 25 (sp2 s25))
def s4 (s : ByteArray) (t : ByteArray) : Bool × Value := (decide (s.size ≤ 9223372036854775807 ∧ t.size ≤ 9223372036854775807), .bool true)
end Go.Px
end
noncomputable section
set_option maxHeartbeats 3200000
namespace Go.Px
open Go Go.Ab Go.Proofs Go.Shelf
def L32 : Env := ((((Env.nil.add 60 (sp1 s60)).add 52 (sp1 s52)).add 96 (sp1 s96)).add 85 (sp2 s85))
theorem ok_L32 : EnvOK Tryz.prog L32 := env_add (env_add (env_add (env_add (env_nil) ok60) ok52) ok96) ok85
def wiZ (l : List Int) (n : Int) : Int := if n.tmod (raH l + 1) < raL l then 0 - n.tmod (raH l + 1) else n.tmod (raH l + 1)
theorem raH_rng (l : List Int) : 0 ≤ raH l ∧ raH l < 1000000000 := by
 unfold raH
 split
 ·rename_i h
  have hp := pD_rng h
  have h1 := tenZ_pos (pD l).toNat
  have h2 : tenZ (pD l).toNat ≤ 1000000000 := tenZ_le9 (by omega)
  omega
 ·omega
theorem tmod_rng (n : Int) {m : Int} (h : 0 < m) : -m < n.tmod m ∧ n.tmod m < m := by
 have h1 := Int.natAbs_tmod n m
 have h2 : n.natAbs % m.natAbs < m.natAbs := Nat.mod_lt _ (by omega)
 omega
def s32 (s : ByteArray) (n : Int) : Bool × Value := (decide (s.size ≤ 9223372036854775807), .int .i64 (wiZ (bz s) n))
theorem fn32 : Fn1 Tryz.prog 32 Tryz.f32 := ⟨Tryz.func32, by kernel_rfl, by kernel_rfl, by kernel_rfl⟩
theorem v32 (s : ByteArray) (n : Int) (R : Value → Prop) : bodyQ Tryz.prog L32 noL Tryz.f32 [Enc.enc s, Enc.enc n] (fun _ => none) 0 (fun v _ _ => R v) = ( bif decide (ByteArray.size s ≤ 9223372036854775807) then bif decide (IntKind.wrap .i64 (raH (bz s) + 1) ≠ 0) then bif decide (Int.tmod n (IntKind.wrap .i64 (raH (bz s) + 1)) < raL (bz s)) then R (.int .i64 (IntKind.wrap .i64 (0 - Int.tmod n (IntKind.wrap .i64 (raH (bz s) + 1))))) else R (.int .i64 (Int.tmod n (IntKind.wrap .i64 (raH (bz s) + 1)))) else False else False) := by kernel_rfl
theorem ok32 : PureOK Tryz.prog 32 (sp2 s32) := by
 refine qure2 ok_L32 hmix fn32 lokf_none (Nat.le_of_ble_eq_true (by kernel_rfl)) fun s n hc => ?_
 rw [DoesQ, v32]
 have hc : (s.size ≤ 9223372036854775807) := of_decide_eq_true hc
 try dsimp only [s32]
 have hr := raH_rng (bz s)
 have e1 : IntKind.wrap IntKind.i64 (raH (bz s) + 1) = raH (bz s) + 1 := w64 (by omega)
 have ht := tmod_rng n (m := raH (bz s) + 1) (by omega)
 rw [e1, wiZ, w64 (n := 0 - n.tmod (raH (bz s) + 1)) (by omega)]
 refine c_t (decide_eq_true hc) (c_t (decide_eq_true (by omega)) (cond_intro (fun h => ?_) (fun h => ?_)))
 ·rw [if_pos (of_decide_eq_true h)]
 ·rw [if_neg (of_decide_eq_false h)]
def s39 (c : U8) : Bool × Value := (true, .bool (isDig c.n))
theorem fn39 : Fn1 Tryz.prog 39 Tryz.f39 := ⟨Tryz.func39, by kernel_rfl, by kernel_rfl, by kernel_rfl⟩
theorem v39 (c : U8) (R : Value → Prop) : bodyQ Tryz.prog L32 noL Tryz.f39 [Enc.enc c] (fun _ => none) 0 (fun v _ _ => R v) = ( bif decide (U8.n c ≥ 48) || true then R (.bool (decide (U8.n c ≥ 48) && decide (U8.n c ≤ 57))) else False) := by kernel_rfl
theorem ok39 : PureOK Tryz.prog 39 (sp1 s39) := by
 refine qure1 ok_L32 hmix fn39 lokf_none (Nat.le_of_ble_eq_true (by kernel_rfl)) fun c hc => ?_
 rw [DoesQ, v39]
 try dsimp only [s39]
 refine c_t (by simp) ?_
 rw [isDig, Bool.decide_and]
def shZ (d c : Int) : Bool := d != 0 && (c == sgZ d false || c == sgZ d true)
def s83 (s : ByteArray) : Bool × Value := (decide (s.size ≤ 9223372036854775807), .int .u8 (drZ (bz s)))
theorem fn83 : Fn1 Tryz.prog 83 Tryz.f83 := ⟨Tryz.func83, by kernel_rfl, by kernel_rfl, by kernel_rfl⟩
theorem v83 (s : ByteArray) (R : Value → Prop) : bodyQ Tryz.prog L32 noL Tryz.f83 [Enc.enc s] (fun _ => none) 0 (fun v _ _ => R v) = ( bif decide (ByteArray.size s ≤ 9223372036854775807) then R (.int .u8 (drZ (bz s))) else False) := by kernel_rfl
theorem ok83 : PureOK Tryz.prog 83 (sp1 s83) := by
 refine qure1 ok_L32 hmix fn83 lokf_none (Nat.le_of_ble_eq_true (by kernel_rfl)) fun s hc => ?_
 rw [DoesQ, v83]
 have hc : (s.size ≤ 9223372036854775807) := of_decide_eq_true hc
 try dsimp only [s83]
 exact c_t (decide_eq_true hc) rfl
def s84 (d : U8) (c : U8) : Bool × Value := (true, .bool (shZ d.n c.n))
theorem fn84 : Fn1 Tryz.prog 84 Tryz.f84 := ⟨Tryz.func84, by kernel_rfl, by kernel_rfl, by kernel_rfl⟩
theorem v84 (d : U8) (c : U8) (R : Value → Prop) : bodyQ Tryz.prog L32 noL Tryz.f84 [Enc.enc d, Enc.enc c] (fun _ => none) 0 (fun v _ _ => R v) = ( bif U8.n d == 0 then R (.bool false) else bif U8.n c == sgZ (U8.n d) false || true then R (.bool (U8.n c == sgZ (U8.n d) false || U8.n c == sgZ (U8.n d) true)) else False) := by kernel_rfl
theorem ok84 : PureOK Tryz.prog 84 (sp2 s84) := by
 refine qure2 ok_L32 hmix fn84 lokf_none (Nat.le_of_ble_eq_true (by kernel_rfl)) fun d c hc => ?_
 rw [DoesQ, v84]
 try dsimp only [s84]
 obtain ⟨d⟩ := d
 obtain ⟨c⟩ := c
 dsimp only
 refine cond_intro (fun h => ?_) (fun h => c_t (by simp) ?_)
 ·rw [shZ, eq_of_beq h]; rfl
 ·have h : (d != 0) = true := bne_iff_ne.2 (beq_eq_false_iff_ne.1 h)
  rw [shZ, h, Bool.true_and]
def L59 : Env := (((((((Env.nil.add 58 (sp1 s58)).add 83 (sp1 s83)).add 28 (sp1 s28)).add 39 (sp1 s39)).add 84 (sp2 s84)).add 40 (sp2 s40)).add 85 (sp2 s85))
theorem ok_L59 : EnvOK Tryz.prog L59 := env_add (env_add (env_add (env_add (env_add (env_add (env_add (env_nil) ok58) ok83) ok28) ok39) ok84) ok40) ok85
def plc (dr fl ro x c : Int) (ah : Bool) : Bool :=
 bif ro == 100 then (bif x == 84 then unK c else ((isDig c && !(x == 89 && c == 48)) || ((x == 89 && c == 32) || (hasZ [73, 82] x && unK c))))
 else bif ah && shZ dr c then true
 else bif ro == 99 then ((isDig c && !ah) || (c == fl && ah))
 else bif ro == 105 && x == 66 then c == 32
 else bif ro == 105 then ((ah && c == fl) || (!ah && c == x))
 else bif dr != 0 && x == dr then c == 32
 else bif hasZ [67, 82, 68, 66] x then (c == x || c == 32)
 else (c == sgZ x false || c == sgZ x true)
def s59 (s : ByteArray) (ro : U8) (x : U8) (c : U8) (ah : Bool) : Bool × Value := (decide (s.size ≤ 9223372036854775807), .bool (plc (drZ (bz s)) (fdFl (bz s)) ro.n x.n c.n ah))
theorem fn59 : Fn1 Tryz.prog 59 Tryz.f59 := ⟨Tryz.func59, by kernel_rfl, by kernel_rfl, by kernel_rfl⟩
theorem v59 (s : ByteArray) (ro : U8) (x : U8) (c : U8) (ah : Bool) (R : Value → Prop) : bodyQ Tryz.prog L59 noL Tryz.f59 [Enc.enc s, Enc.enc ro, Enc.enc x, Enc.enc c, Enc.enc ah] (fun _ => none) 0 (fun v _ _ => R v) = ( bif decide (ByteArray.size s ≤ 9223372036854775807) then bif decide (ByteArray.size s ≤ 9223372036854775807) then bif U8.n ro == 100 then bif U8.n x == 84 then R (.bool (unK (U8.n c))) else bif bif isDig (U8.n c) then bif U8.n x == 89 then !U8.n c == 48 || bif U8.n x == 89 then U8.n c == 32 || (hasZ (bz (ByteArray.mk #[73, 82])) (U8.n x) || true) else hasZ (bz (ByteArray.mk #[73, 82])) (U8.n x) || true else true else bif U8.n x == 89 then U8.n c == 32 || (hasZ (bz (ByteArray.mk #[73, 82])) (U8.n x) || true) else hasZ (bz (ByteArray.mk #[73, 82])) (U8.n x) || true then R (.bool (bif isDig (U8.n c) then bif U8.n x == 89 then !U8.n c == 48 || bif U8.n x == 89 then U8.n c == 32 || hasZ (bz (ByteArray.mk #[73, 82])) (U8.n x) && unK (U8.n c) else hasZ (bz (ByteArray.mk #[73, 82])) (U8.n x) && unK (U8.n c) else !false || bif U8.n x == 89 then U8.n c == 32 || hasZ (bz (ByteArray.mk #[73, 82])) (U8.n x) && unK (U8.n c) else hasZ (bz (ByteArray.mk #[73, 82])) (U8.n x) && unK (U8.n c) else bif U8.n x == 89 then U8.n c == 32 || hasZ (bz (ByteArray.mk #[73, 82])) (U8.n x) && unK (U8.n c) else hasZ (bz (ByteArray.mk #[73, 82])) (U8.n x) && unK (U8.n c))) else False else bif ah || true then bif ah && shZ (drZ (bz s)) (U8.n c) then R (.bool true) else bif U8.n ro == 99 then bif bif isDig (U8.n c) then !ah || ((U8.n c == if hasZ (bz s) 42 = true then 42 else 32) || true) else (U8.n c == if hasZ (bz s) 42 = true then 42 else 32) || true then R (.bool (bif isDig (U8.n c) then !ah || (U8.n c == if hasZ (bz s) 42 = true then 42 else 32) && ah else (U8.n c == if hasZ (bz s) 42 = true then 42 else 32) && ah)) else False else bif U8.n ro == 105 || true then bif U8.n ro == 105 && U8.n x == 66 then R (.bool (U8.n c == 32)) else bif U8.n ro == 105 then bif bif ah then (U8.n c == if hasZ (bz s) 42 = true then 42 else 32) || (!ah || true) else !ah || true then R (.bool (bif ah then (U8.n c == if hasZ (bz s) 42 = true then 42 else 32) || !ah && U8.n c == U8.n x else !ah && U8.n c == U8.n x)) else False else bif drZ (bz s) != 0 || true then bif drZ (bz s) != 0 && U8.n x == drZ (bz s) then R (.bool (U8.n c == 32)) else bif hasZ (bz (ByteArray.mk #[67, 82, 68, 66])) (U8.n x) then bif U8.n c == U8.n x || true then R (.bool (U8.n c == U8.n x || U8.n c == 32)) else False else bif U8.n c == sgZ (U8.n x) false || true then R (.bool (U8.n c == sgZ (U8.n x) false || U8.n c == sgZ (U8.n x) true)) else False else False else False else False else False else False) := by kernel_rfl
theorem ok59 : PureOK Tryz.prog 59 (sp5 s59) := by
 refine qure5 ok_L59 hmix fn59 lokf_none (Nat.le_of_ble_eq_true (by kernel_rfl)) fun s ro x c ah hc => ?_
 rw [DoesQ, v59]
 have hc : (s.size ≤ 9223372036854775807) := of_decide_eq_true hc
 try dsimp only [s59]
 have hS : s.size ≤ 9223372036854775807 := hc
 obtain ⟨ro⟩ := ro
 obtain ⟨x⟩ := x
 obtain ⟨c⟩ := c
 dsimp only
 have ef : (if hasZ (bz s) 42 = true then (42 : Int) else 32) = fdFl (bz s) := rfl
 have e1 : bz (ByteArray.mk #[73, 82]) = [73, 82] := rfl
 have e2 : bz (ByteArray.mk #[67, 82, 68, 66]) = [67, 82, 68, 66] := rfl
 rw [ef, e1, e2, plc]
 generalize fdFl (bz s) = fl
 generalize drZ (bz s) = dr
 generalize hasZ [73, 82] x = h1
 generalize hasZ [67, 82, 68, 66] x = h2
 generalize shZ dr c = h3
 generalize unK c = h4
 generalize isDig c = h5
 generalize sgZ x false = s1
 generalize sgZ x true = s2
 refine c_t (decide_eq_true hS) (c_t (decide_eq_true hS) ?_)
 generalize (c == 48) = c1
 generalize (c == 32) = c2
 generalize (c == fl) = c3
 generalize (c == x) = c4
 generalize (c == s1) = c5
 generalize (c == s2) = c6
 cases ro == 100 with
 | true =>
  cases x == 84 with
  | true => rfl
  | false => cases h5 <;> cases x == 89 <;> cases c1 <;> cases c2 <;> cases h1 <;> cases h4 <;> rfl
 | false =>
  simp only [cond_false]
  refine c_t (by simp) ?_
  cases ah && h3 with
  | true => rfl
  | false =>
   simp only [cond_false]
   cases ro == 99 with
   | true => cases h5 <;> cases ah <;> cases c3 <;> rfl
   | false =>
    simp only [cond_false]
    refine c_t (by simp) ?_
    cases ro == 105 && x == 66 with
    | true => rfl
    | false =>
     simp only [cond_false]
     cases ro == 105 with
     | true => cases ah <;> cases c3 <;> cases c4 <;> rfl
     | false =>
      simp only [cond_false]
      refine c_t (by simp) ?_
      cases dr != 0 && x == dr with
      | true => rfl
      | false =>
       simp only [cond_false]
       cases h2 with
       | true => cases c4 <;> cases c2 <;> rfl
       | false => cases c5 <;> cases c6 <;> rfl
end Go.Px
end
noncomputable section
namespace Go.Px
open Go Go.Ab Go.Proofs
theorem pe_pn (l : List Int) : (pE l != 0 || !pN l) = !pN l := by
 rw [pE_ne]
 cases h : pN l with
 | true => rw [pN_vOK h]; rfl
 | false => simp
theorem wi_rng {l : List Int} (h : pN l = true) (n : Int) : ((wiZ l n).natAbs : Int) < tenZ (pD l).toNat ∧ (wiZ l n < 0 → pG l = true) := by
 have hr : raH l = tenZ (pD l).toNat - 1 := by rw [raH, if_pos h]
 have hp := tenZ_pos (pD l).toNat
 have ht := tmod_rng n (m := raH l + 1) (by omega)
 have hL : raL l = if pG l = true then 0 - (tenZ (pD l).toNat - 1) else 0 := rfl
 unfold wiZ
 cases hg : pG l with
 | true =>
  rw [hg, if_pos rfl] at hL
  rw [if_neg (by omega)]
  exact ⟨by omega, fun _ => rfl⟩
 | false =>
  rw [hg, if_neg (by decide)] at hL
  split
  ·exact ⟨by omega, fun q => by omega⟩
  ·exact ⟨by omega, fun q => by omega⟩
theorem wi_64 (l : List Int) (n : Int) : -9223372036854775808 ≤ wiZ l n ∧ wiZ l n ≤ 9223372036854775807 := by
 have hr := raH_rng l
 have ht := tmod_rng n (m := raH l + 1) (by omega)
 unfold wiZ
 split <;> omega
theorem cuM_same (n q : Int) : cuM n q q = n.natAbs := by
 rw [cuM, if_pos (by omega), Int.sub_self]
 exact Int.ediv_one _
theorem cu_in {l : List Int} {n : Int} (hn : (n.natAbs : Int) < tenZ (pD l).toNat) (hg : n < 0 → pG l = true) : cuN n (pQ l) (pQ l) (pD l) (pG l) = n ∧ cuF n (pQ l) (pQ l) (pD l) (pG l) = true := by
 have e : cuV n (pQ l) (pQ l) (pD l) = n.natAbs := by rw [cuV, cuM_same, Int.emod_eq_of_lt (by omega) hn]
 constructor
 ·rw [cuN, e]
  by_cases h0 : n < 0
  ·rw [if_pos ⟨h0, hg h0⟩]; omega
  ·rw [if_neg (fun q => h0 q.1)]; omega
 ·rw [cuF, cuM_same, decide_eq_true hn, Bool.true_and]
  by_cases h0 : n < 0
  ·rw [hg h0]; simp
  ·rw [decide_eq_true (show n ≥ 0 by omega)]; rfl
theorem ed_in {l : List Int} (h : pN l = true) {n : Int} (hn : (n.natAbs : Int) < tenZ (pD l).toNat) (hg : n < 0 → pG l = true) : edS l n (pQ l) = fdN l n ∧ edF l n (pQ l) = true ∧ edE l (pQ l) = 0 := by
 have hp := pD_rng h
 have hq : 0 ≤ pQ l ∧ pQ l ≤ 9 := by omega
 obtain ⟨e1, e2⟩ := cu_in hn hg
 rw [edS, edF, edE, if_pos ⟨h, hq⟩, if_pos ⟨h, hq⟩, if_pos h, if_pos hq, e1, e2]
 exact ⟨rfl, rfl, rfl⟩
theorem fdN_isB {s : ByteArray} (n : Int) : IsB (fdN (bz s) n) := field_isB (pS_len s).1 _ _ _
theorem bz_fdN (s : ByteArray) (n : Int) : bz (sz (fdN (bz s) n)) = fdN (bz s) n := bz_sz (fdN_isB n)
theorem size_fdN {s : ByteArray} (h : pN (bz s) = true) (n : Int) : ((sz (fdN (bz s) n)).size : Int) = pW (bz s) := by
 rw [sz_size, fdN_len (pS_len s) h n]
end Go.Px
end
noncomputable section
namespace Go.Px
open Go Go.Ab Go.Proofs
structure HdP (s : ByteArray) (m : Int) : Prop where
 le : leZ (bz s) m = fdLe (pS (bz s)) (pW (bz s)) (pD (bz s)).toNat m
 nE : nE (bz s) = 0
 ms : bz (sz (roZ (bz s))) = marksZ (pS (bz s))
 sp : bz (sz (pS (bz s))) = pS (bz s)
 ds : bz (sz (digZ m.natAbs (pD (bz s)).toNat)) = digZ m.natAbs (pD (bz s)).toNat
 zm : ((sz (roZ (bz s))).size : Int) = (pS (bz s)).length
 zs : ((sz (pS (bz s))).size : Int) = (pS (bz s)).length
 zd : ((sz (digZ m.natAbs (pD (bz s)).toNat)).size : Int) = pD (bz s)
 l32 : ((pS (bz s)).length : Int) ≤ 32
 nv : (nv (marksZ (pS (bz s))) : Int) = pW (bz s)
 pd : pdGo (marksZ (pS (bz s))) = pD (bz s)
theorem hd_mk {s : ByteArray} (h : pN (bz s) = true) {m : Int} (hm : (m.natAbs : Int) < tenZ (pD (bz s)).toNat) (hg : m < 0 → pG (bz s) = true) : HdP s m := by
 have hl := pS_len s
 obtain ⟨_, _, p3, _⟩ := pN_ok hl h m
 have hp := pD_rng h
 have hr : roZ (bz s) = marksZ (pS (bz s)) := by rw [roZ, if_pos h]
 refine ⟨?_, by rw [nE, if_pos h], ?_, bz_sz hl.1, bz_sz (dg_isB (digZ_dg _ _)), ?_, ?_, ?_, by omega, (pN_nv h).symm, p3⟩
 ·rw [leZ, if_pos h, leN, (cu_in hm hg).1]
 ·rw [hr, bz_sz (marks_isB _)]
 ·rw [hr, sz_size, marks_len]
 ·rw [sz_size]
 ·rw [sz_size, digZ_len]; omega
end Go.Px
end
noncomputable section
set_option maxHeartbeats 3200000
namespace Go.Px
open Go Go.Ab Go.Proofs Go.Shelf
end Go.Px
end
noncomputable section
namespace Go.Px
open Go Go.Ab Go.Proofs
theorem dig_isDig {d : Int} (h : 48 ≤ d ∧ d ≤ 57) : isDig d = true := decide_eq_true h
end Go.Px
end
noncomputable section
set_option maxHeartbeats 3200000
namespace Go.Px
open Go Go.Ab Go.Proofs Go.Shelf
end Go.Px
end
noncomputable section
namespace Go.Px
open Go Go.Ab Go.Proofs
end Go.Px
end
noncomputable section
set_option maxHeartbeats 3200000
namespace Go.Px
open Go Go.Ab Go.Proofs Go.Shelf
def L17 : Env := (((((((((((Env.nil.add 19 (sp0 s19)).add 30 (sp1 s30)).add 33 (sp1 s33)).add 32 (sp2 s32)).add 20 (sp3 s20)).add 36 (sp2 s36)).add 56 (sp1 s56)).add 40 (sp2 s40)).add 58 (sp1 s58)).add 57 (sp2 s57)).add 59 (sp5 s59))
theorem ok_L17 : EnvOK Tryz.prog L17 := env_add (env_add (env_add (env_add (env_add (env_add (env_add (env_add (env_add (env_add (env_add (env_nil) ok19) ok30) ok33) ok32) ok20) ok36) ok56) ok40) ok58) ok57) ok59
def plaGo (dr fl le : Int) : List Int → List Int → List Int → Int → Bool
 | [], _, _, _ => true
 | m :: r, sp, a, o => bif m == 118 then plaGo dr fl le r sp.tail a o
  else bif plc dr fl m (sp.headD 0) (a.headD 0) (decide (o < le)) then plaGo dr fl le r sp.tail a.tail (o + 1) else false
def V17_0 : Bool × ByteArray × Bool × Int × Int × Int × Bool × ByteArray × Int × ByteArray × Int × Int → List Value := fun (r, z, zb, z1, z2, z3, zg, a, le, ms, o, i) => [B r, .pointer (some ⟨8, 0, some 0⟩), S a, I le, S ms, I o, I i]
def B17_0 : Bool × ByteArray × Bool × Int × Int × Int × Bool × ByteArray × Int × ByteArray × Int × Int → List (Option Blk) := fun (r, z, zb, z1, z2, z3, zg, a, le, ms, o, i) => [some ⟨[S z, B zb, I z1, I z2, I z3, B zg], 36, true⟩]
def S17_0 : LSpec (Bool × ByteArray × Bool × Int × Int × Int × Bool × ByteArray × Int × ByteArray × Int × Int) where
 live := [4, 5, 8, 10, 12, 14, 15]
 mid := [8]
 n := 120
 dec vs bs := match vs, bs with | [.bool r, .pointer (some ⟨8, 0, some 0⟩), .string a, .int .i64 le, .string ms, .int .i64 o, .int .i64 i], [some ⟨[.string z, .bool zb, .int .i64 z1, .int .i64 z2, .int .i64 z3, .bool zg], 36, true⟩] => some (r, z, zb, z1, z2, z3, zg, a, le, ms, o, i) | _, _ => none
 pre := fun (r, z, zb, z1, z2, z3, zg, a, le, ms, o, i) => decide (0 ≤ i ∧ i ≤ ms.size ∧ ms.size ≤ 1000 ∧ ms.size = z.size ∧ 0 ≤ o ∧ o + nv ((bz ms).drop i.toNat) = a.size ∧ a.size ≤ 1000)
 fin := fun (r, z, zb, z1, z2, z3, zg, a, le, ms, o, i) Z => (bif plaGo (drZ (bz z)) (fdFl (bz z)) le ((bz ms).drop i.toNat) ((bz z).drop i.toNat) ((bz a).drop o.toNat) o then Z (.exit 0) [B r, .pointer (some ⟨8, 0, some 0⟩), S a, I le, S ms, I a.size, I ms.size] [some ⟨[S z, B zb, I z1, I z2, I z3, B zg], 36, true⟩] else (∀ o' i', Z .ret [B false, .pointer (some ⟨8, 0, some 0⟩), S a, I le, S ms, I o', I i'] [some ⟨[S z, B zb, I z1, I z2, I z3, B zg], 36, true⟩]))
theorem r17_0 (r : Bool) (z : ByteArray) (zb : Bool) (z1 : Int) (z2 : Int) (z3 : Int) (zg : Bool) (a : ByteArray) (le : Int) (ms : ByteArray) (o : Int) (i : Int) (jk : Tmps) (R : Exit → List Value → List (Option Blk) → Prop) : (codeQ Tryz.prog L17 noL Tryz.f17.ntmps (loopOf Tryz.f17 0) (tl S17_0.live (V17_0 (r, z, zb, z1, z2, z3, zg, a, le, ms, o, i)) jk) (ml S17_0.mid (B17_0 (r, z, zb, z1, z2, z3, zg, a, le, ms, o, i))) S17_0.n fun e t' m' _ => R e (List.map t' S17_0.live) (List.map m' S17_0.mid)) = ( bif decide (i < (↑(ByteArray.size ms) : Int)) then bif decide (0 ≤ i ∧ i < (↑(ByteArray.size ms) : Int)) then bif byteAt ms (Int.toNat i) == 118 then R Exit.normal [.bool r, .pointer (some (.mk 8 0 (some 0))), .string a, .int .i64 le, .string ms, .int .i64 o, .int .i64 (IntKind.wrap .i64 (i + 1))] [some (.mk [.string z, .bool zb, .int .i64 z1, .int .i64 z2, .int .i64 z3, .bool zg] 36 true)] else bif decide (o ≥ (↑(ByteArray.size a) : Int)) || decide (0 ≤ i ∧ i < (↑(ByteArray.size ms) : Int)) && (decide (0 ≤ i ∧ i < (↑(ByteArray.size z) : Int)) && (decide (0 ≤ o ∧ o < (↑(ByteArray.size a) : Int)) && (decide (ByteArray.size z ≤ 9223372036854775807) && true))) then bif decide (o ≥ (↑(ByteArray.size a) : Int)) || !plc (drZ (bz z)) (fdFl (bz z)) (byteAt ms (Int.toNat i)) (byteAt z (Int.toNat i)) (byteAt a (Int.toNat o)) (decide (o < le)) then R Exit.ret [.bool false, .pointer (some (.mk 8 0 (some 0))), .string a, .int .i64 le, .string ms, .int .i64 o, .int .i64 i] [some (.mk [.string z, .bool zb, .int .i64 z1, .int .i64 z2, .int .i64 z3, .bool zg] 36 true)] else R Exit.normal [.bool r, .pointer (some (.mk 8 0 (some 0))), .string a, .int .i64 le, .string ms, .int .i64 (IntKind.wrap .i64 (o + 1)), .int .i64 (IntKind.wrap .i64 (i + 1))] [some (.mk [.string z, .bool zb, .int .i64 z1, .int .i64 z2, .int .i64 z3, .bool zg] 36 true)] else False else False else R (Exit.exit 0) [.bool r, .pointer (some (.mk 8 0 (some 0))), .string a, .int .i64 le, .string ms, .int .i64 o, .int .i64 i] [some (.mk [.string z, .bool zb, .int .i64 z1, .int .i64 z2, .int .i64 z3, .bool zg] 36 true)]) := by kernel_rfl
theorem l17_0 : LOKf Tryz.prog (oneL 0 S17_0.h) Tryz.f17 := by
 refine lokf_one (h := S17_0.h) (by kernel_rfl) (loop_specQ ok_L17 hmix (by kernel_rfl) (lok_none _) S17_0 V17_0 B17_0 (fun (r, z, zb, z1, z2, z3, zg, a, le, ms, o, i) => (ms.size - i).toNat) ?_ ?_ ?_)
 ·intro vs bs s h
  simp only [S17_0] at h
  split at h
  all_goals first | (cases h; exact ⟨rfl, rfl⟩) | cases h | (split at h <;> first | (rename_i hq; cases h; have hq := Nat.eq_of_beq_eq_true hq; subst hq; exact ⟨rfl, rfl⟩) | cases h)
 ·exact fun _ _ _ h => h
 ·intro ⟨r, z, zb, z1, z2, z3, zg, a, le, ms, o, i⟩ jk Z hp hf
  rw [r17_0]
  simp only [S17_0] at hp hf
  simp only [decide_eq_true_eq] at hp
  obtain ⟨h1, h2, h3, h4, h5, h6, h7⟩ := hp
  refine cond_intro (fun h => ?_) (fun h => ?_)
  ·have h := of_decide_eq_true h
   have g1 : decide (0 ≤ i ∧ i < (ms.size : Int)) = true := decide_eq_true (by omega)
   have g2 : decide (0 ≤ i ∧ i < (z.size : Int)) = true := decide_eq_true (by omega)
   rw [bz_at h1 h, nv_cons] at h6
   rw [bz_at h1 h, bz_at (s := z) h1 (by omega), plaGo, List.tail_cons, List.headD_cons] at hf
   have fin : ∀ (o2 : Int), 0 ≤ o2 → o2 + nv ((bz ms).drop (i + 1).toNat) = a.size →
     (bif plaGo (drZ (bz z)) (fdFl (bz z)) le ((bz ms).drop (i + 1).toNat) ((bz z).drop (i + 1).toNat) ((bz a).drop o2.toNat) o2 then Z (.exit 0) [B r, .pointer (some ⟨8, 0, some 0⟩), S a, I le, S ms, I a.size, I ms.size] [some ⟨[S z, B zb, I z1, I z2, I z3, B zg], 36, true⟩] else (∀ o' i', Z .ret [B false, .pointer (some ⟨8, 0, some 0⟩), S a, I le, S ms, I o', I i'] [some ⟨[S z, B zb, I z1, I z2, I z3, B zg], 36, true⟩])) →
     S17_0.step V17_0 B17_0 (fun (r, z, zb, z1, z2, z3, zg, a, le, ms, o, i) => (ms.size - i).toNat) (r, z, zb, z1, z2, z3, zg, a, le, ms, o, i) Z Exit.normal
      [B r, .pointer (some ⟨8, 0, some 0⟩), S a, I le, S ms, I o2, I (IntKind.wrap .i64 (i + 1))] [some ⟨[S z, B zb, I z1, I z2, I z3, B zg], 36, true⟩] := by
    intro o2 q1 q2 q5
    rw [w64 (n := i + 1) (by omega)]
    exact ⟨(r, z, zb, z1, z2, z3, zg, a, le, ms, o2, i + 1), rfl, rfl, by simp only [S17_0, decide_eq_true_eq]; exact ⟨by omega, by omega, h3, h4, q1, q2, h7⟩, by simp only; omega, q5⟩
   refine c_t g1 (cond_intro (fun q => ?_) (fun q => ?_))
   ·rw [q, cond_true] at hf
    rw [eq_of_beq q, if_pos rfl, Nat.zero_add] at h6
    exact fin o h5 h6 hf
   ·have hne : byteAt ms i.toNat ≠ 118 := by simpa using q
    rw [q, cond_false] at hf
    rw [if_neg hne] at h6
    have ho : o < a.size := by omega
    have g3 : decide (0 ≤ o ∧ o < (a.size : Int)) = true := decide_eq_true (by omega)
    rw [bz_at h5 ho, List.headD_cons, List.tail_cons] at hf
    have g5 : decide (o ≥ (a.size : Int)) = false := decide_eq_false (by omega)
    have g6 : decide (z.size ≤ 9223372036854775807) = true := decide_eq_true (by omega)
    rw [w64 (n := o + 1) (by omega), g1, g2, g3, g5, g6]
    refine c_t rfl ?_
    cases hP : plc (drZ (bz z)) (fdFl (bz z)) (byteAt ms i.toNat) (byteAt z i.toNat) (byteAt a o.toNat) (decide (o < le)) with
    | false =>
     rw [hP] at hf
     exact hf o i
    | true =>
     rw [hP, cond_true] at hf
     exact fin (o + 1) (by omega) (by omega) hf
  ·have h := of_decide_eq_false h
   have e : i = ms.size := by omega
   have e0 : (bz ms).drop i.toNat = [] := bz_end (s := ms) (by omega)
   rw [e0, plaGo, cond_true] at hf
   rw [e0] at h6
   have e2 : o = a.size := by
    have : nv [] = 0 := rfl
    omega
   rw [e, e2]
   exact hf
end Go.Px
end
noncomputable section
namespace Go.Px
open Go Go.Ab Go.Proofs
theorem pu_un' {d : Int} (h : 48 ≤ d ∧ d ≤ 57) (neg : Bool) : unK (puZ (d - 48) neg) = true := (pu_un (d := d - 48) (m := neg) (by omega)).2.2
theorem plc_100 {dr fl x d : Int} (neg ah : Bool) (h : 48 ≤ d ∧ d ≤ 57) : plc dr fl 100 x (fmZ x d neg) ah = true := by
 show (bif x == 84 then unK (fmZ x d neg) else ((isDig (fmZ x d neg) && !(x == 89 && fmZ x d neg == 48)) || ((x == 89 && fmZ x d neg == 32) || (hasZ [73, 82] x && unK (fmZ x d neg))))) = true
 by_cases h84 : x = 84
 ·subst h84
  have : fmZ 84 d neg = puZ (d - 48) neg := by
   unfold fmZ
   rw [if_neg (fun q => absurd q.1 (by decide)), if_pos (.inl rfl)]
  rw [this]
  exact pu_un' h neg
 rw [beq_eq_false_iff_ne.2 h84, cond_false]
 by_cases h89 : x = 89
 ·subst h89
  by_cases d48 : d = 48
  ·subst d48
   cases neg <;> decide
  ·have : fmZ 89 d neg = d := by
    unfold fmZ
    rw [if_neg (fun q => d48 q.2), if_neg]
    rintro (q | q | q)
    ·exact absurd q (by decide)
    ·exact absurd q.1 (by decide)
    ·exact absurd q.1 (by decide)
   rw [this, dig_isDig h, beq_eq_false_iff_ne.2 d48]
   rfl
 have key : (fmZ x d neg = d) ∨ (hasZ [73, 82] x = true ∧ fmZ x d neg = puZ (d - 48) neg) := by
  unfold fmZ
  rw [if_neg (fun q => h89 q.1)]
  split
  ·rename_i q
   right
   refine ⟨?_, rfl⟩
   rcases q with q | q | q
   ·exact absurd q h84
   ·rw [q.1]; decide
   ·rw [q.1]; decide
  ·exact .inl rfl
 rcases key with e | ⟨e1, e2⟩
 ·rw [e, dig_isDig h, beq_eq_false_iff_ne.2 h89]; rfl
 ·rw [e1, e2, pu_un' h neg]; simp
theorem plc_else {dr fl x : Int} (m : Int) (neg ah : Bool) (h1 : m ≠ 100) (h2 : m ≠ 99) (h3 : m ≠ 105) : plc dr fl m x (ssZ x dr neg) ah = true := by
 unfold plc
 rw [beq_eq_false_iff_ne.2 h1, beq_eq_false_iff_ne.2 h2, beq_eq_false_iff_ne.2 h3]
 simp only [cond_false, Bool.false_and]
 cases ah && shZ dr (ssZ x dr neg) with
 | true => rfl
 | false =>
  rw [cond_false]
  unfold ssZ
  cases dr != 0 && x == dr with
  | true => rfl
  | false =>
   simp only [cond_false]
   cases hasZ [67, 82, 68, 66] x with
   | true => cases neg <;> simp
   | false => cases neg <;> simp
theorem plc_cel {le fill dr m x d o : Int} {neg : Bool} (hd : 48 ≤ d ∧ d ≤ 57 ∨ isP m = false) (hl : o < le → m ≠ 100) :
  plc dr fill m x (celZ le fill dr neg m x d o) (decide (o < le)) = true := by
 unfold celZ
 cases hs : dr != 0 && o == le - 1 with
 | true =>
  rw [cond_true]
  simp only [Bool.and_eq_true, bne_iff_ne, beq_iff_eq] at hs
  have ho : o < le := by omega
  have hsh : shZ dr (sgZ dr neg) = true := by
   unfold shZ
   rw [bne_iff_ne.2 hs.1]
   cases neg <;> simp
  unfold plc
  rw [beq_eq_false_iff_ne.2 (hl ho), cond_false, decide_eq_true ho, hsh]
  rfl
 | false =>
  rw [cond_false, cel0]
  by_cases h1 : m = 100
  ·subst h1
   exact plc_100 neg _ (hd.resolve_right (by decide))
  rw [beq_eq_false_iff_ne.2 h1, cond_false]
  by_cases h2 : m = 99
  ·subst h2
   have hd := hd.resolve_right (by decide)
   rw [beq_self_eq_true, cond_true]
   by_cases ho : o < le
   ·rw [decide_eq_true ho, cond_true]
    unfold plc
    cases shZ dr fill <;> simp
   ·rw [decide_eq_false ho, cond_false]
    unfold plc
    rw [dig_isDig hd]
    rfl
  rw [beq_eq_false_iff_ne.2 h2, cond_false]
  by_cases h3 : m = 105
  ·subst h3
   rw [beq_self_eq_true, cond_true]
   unfold plc
   by_cases hx : x = 66
   ·subst hx
    cases decide (o < le) && shZ dr (bif (66 : Int) == 66 then 32 else bif decide (o < le) then fill else 66) <;> rfl
   ·rw [beq_eq_false_iff_ne.2 hx, cond_false]
    by_cases ho : o < le
    ·rw [decide_eq_true ho, cond_true]
     cases shZ dr fill <;> simp
    ·rw [decide_eq_false ho, cond_false]
     simp
  rw [beq_eq_false_iff_ne.2 h3, cond_false]
  exact plc_else m neg _ h1 h2 h3
theorem pla_fs {le fill dr : Int} {neg : Bool} : ∀ (ms sp ds : List Int) (o : Int), dgL ds = true → pdGo ms ≤ ds.length → ldOK le ms ds o →
  plaGo dr fill le ms sp (fsGo le fill dr neg ms sp ds o) o = true
 | [], _, _, _, _, _, _ => rfl
 | m :: r, sp, ds, o, h1, h2, h3 => by
  have hn := pd_nn r
  rw [pd_cons] at h2
  obtain ⟨g1, g2⟩ := h3
  rw [fsGo, plaGo]
  by_cases hm : m = 118
  ·subst hm
   exact pla_fs r _ ds o h1 (by simpa [isP] using h2) (by simpa [isP] using g2)
  ·have e : (m == 118) = false := beq_eq_false_iff_ne.2 hm
   rw [e, cond_false] at g2
   have hdd : 48 ≤ ds.headD 0 ∧ ds.headD 0 ≤ 57 ∨ isP m = false := by
    cases hp : isP m with
    | false => exact .inr rfl
    | true =>
     rw [hp, if_pos rfl] at h2
     cases ds with
     | nil => simp at h2; omega
     | cons d ds => exact .inl (dgL_cons.1 h1).1
   rw [e, cond_false, cond_false, List.tail_cons, List.headD_cons, plc_cel hdd (fun ho => (g1 ho).1), cond_true]
   cases hp : isP m with
   | false =>
    rw [hp] at g2 h2
    exact pla_fs r _ ds (o + 1) h1 (by simpa using h2) g2
   | true =>
    rw [hp, if_pos rfl] at h2
    rw [hp] at g2
    cases ds with
    | nil => simp at h2; omega
    | cons d ds =>
     rw [List.length_cons] at h2
     exact pla_fs r _ ds (o + 1) (dgL_cons.1 h1).2 (by omega) g2
theorem NumP.fdDr {s : List Int} (h : NumP s) : fdDr s = drZ s := by
 obtain ⟨f1, f2⟩ := dr_facts h
 rw [dr_body]
 by_cases e : drZ (bodyZ s) = 0
 ·rw [f2 e, e]
 ·exact (f1 e).1
theorem not_blank {s : ByteArray} {n : Int} (h0 : ¬ (n = 0 ∧ hasZ (marksZ (pS (bz s))) 100 = false)) : fdBl (pS (bz s)) (pW (bz s)) (pD (bz s)).toNat n = false := by
 cases e : fdBl (pS (bz s)) (pW (bz s)) (pD (bz s)).toNat n with
 | false => rfl
 | true =>
  exfalso
  simp only [fdBl, Bool.and_eq_true, beq_iff_eq, Bool.not_eq_true'] at e
  exact h0 ⟨e.2.2.1, e.2.2.2⟩
theorem pla_law {s : ByteArray} (h : pN (bz s) = true) {n : Int} (h0 : ¬ (n = 0 ∧ hasZ (marksZ (pS (bz s))) 100 = false)) :
  plaGo (drZ (pS (bz s))) (fdFl (pS (bz s))) (fdLe (pS (bz s)) (pW (bz s)) (pD (bz s)).toNat n) (marksZ (pS (bz s))) (pS (bz s)) (fdN (bz s) n) 0 = true := by
 have hl := pS_len s
 obtain ⟨_, _, p3, p4, _, p6⟩ := pN_ok hl h n
 have hp := pD_rng h
 have hlen := digZ_len (pD (bz s)).toNat n.natAbs
 have hS : pS (bz s) = exZ (bz s) := by rw [pS, if_pos (pN_vOK h)]
 have hnp : NumP (pS (bz s)) := by rw [hS]; exact pN_num h
 rw [fdN, field_fs p6, not_blank h0, cond_false, ← hnp.fdDr]
 exact pla_fs _ _ _ _ (digZ_dg _ _) (by rw [hlen]; omega) (ld_law (by omega))
theorem blank_law {s : ByteArray} (h : pN (bz s) = true) (h1 : hasZ (marksZ (pS (bz s))) 100 = false) :
  fdN (bz s) 0 = rep1 (fdFl (pS (bz s))) (pW (bz s)).toNat ∧ fdLe (pS (bz s)) (pW (bz s)) (pD (bz s)).toNat 0 = pW (bz s) := by
 have hl := pS_len s
 obtain ⟨_, _, p3, p4, _, p6⟩ := pN_ok hl h 0
 have hp := pD_rng h
 have h99 : hasZ (marksZ (pS (bz s))) 99 = true := by
  cases e : hasZ (marksZ (pS (bz s))) 99 with
  | true => rfl
  | false =>
   exfalso
   have : pdGo (marksZ (pS (bz s))) = 0 := pd_zero.2 fun m hm => by
    cases q : isP m with
    | false => rfl
    | true =>
     rcases isP_iff.1 q with rfl | rfl
     ·rw [hasZ_iff.2 hm] at h1; cases h1
     ·rw [hasZ_iff.2 hm] at e; cases e
   omega
 obtain ⟨_, _, _, _, _, _, f7⟩ := pic_facts hl h
 have hW := f7 h99
 have e1 : fdLe (pS (bz s)) (pW (bz s)) (pD (bz s)).toNat 0 = pW (bz s) := by
  have hr : decide (digZ ((0 : Int).natAbs : Nat) (pD (bz s)).toNat = rep1 48 (pD (bz s)).toNat) = true := decide_eq_true digZ_0
  rw [fdLe, endZ, h99, h1, hr]
  rfl
 have e2 : fdBl (pS (bz s)) (pW (bz s)) (pD (bz s)).toNat 0 = true := by
  rw [fdBl, e1, h1, decide_eq_true (show pW (bz s) > 0 by omega)]
  simp
 exact ⟨by rw [fdN, field_fs p6, e2]; rfl, e1⟩
end Go.Px
end
noncomputable section
set_option maxHeartbeats 3200000
namespace Go.Px
open Go Go.Ab Go.Proofs Go.Shelf
def s17 (s : ByteArray) (n : Int) : Bool × Value := (decide (s.size ≤ 9223372036854775807), .bool true)
theorem fn17 : Fn1 Tryz.prog 17 Tryz.f17 := ⟨Tryz.func17, by kernel_rfl, by kernel_rfl, by kernel_rfl⟩
theorem v17 (s : ByteArray) (n : Int) (R : Value → Prop) : bodyQ Tryz.prog L17 (oneL 0 S17_0.h) Tryz.f17 [Enc.enc s, Enc.enc n] (fun _ => none) 0 (fun v _ _ => R v) = ( bif decide (ByteArray.size s ≤ 9223372036854775807) then bif pE (bz s) != 0 || true then bif pE (bz s) != 0 || !pN (bz s) then bif decide (ByteArray.size s ≤ 9223372036854775807) then R (.bool (pE (bz s) == pE (bz s))) else False else bif decide (ByteArray.size s ≤ 9223372036854775807) then bif decide (ByteArray.size s ≤ 9223372036854775807 ∧ -9223372036854775808 ≤ wiZ (bz s) n ∧ wiZ (bz s) n ≤ 9223372036854775807) then bif decide (ByteArray.size s ≤ 9223372036854775807 ∧ -9223372036854775808 ≤ wiZ (bz s) n ∧ wiZ (bz s) n ≤ 9223372036854775807) then bif decide (ByteArray.size s ≤ 9223372036854775807) then bif edE (bz s) (pQ (bz s)) != 0 || (nE (bz s) != 0 || (nE (bz s) != 0 || ((↑(ByteArray.size (sz (edS (bz s) (wiZ (bz s) n) (pQ (bz s))))) : Int) != pW (bz s) || true))) then bif edE (bz s) (pQ (bz s)) != 0 || (nE (bz s) != 0 || (nE (bz s) != 0 || ((↑(ByteArray.size (sz (edS (bz s) (wiZ (bz s) n) (pQ (bz s))))) : Int) != pW (bz s) || (↑(ByteArray.size (sz (roZ (bz s)))) : Int) != (↑(ByteArray.size (sz (pS (bz s)))) : Int)))) then R (.bool false) else bif bif wiZ (bz s) n == 0 then decide (ByteArray.size (sz (roZ (bz s))) ≤ 9223372036854775807) && true else true then bif wiZ (bz s) n == 0 && !hasZ (bz (sz (roZ (bz s)))) 100 then bif decide (ByteArray.size (sz (pS (bz s))) ≤ 9223372036854775807) && (decide (0 ≤ pW (bz s) ∧ pW (bz s) ≤ 1000) && (ByteArray.toList (sz (edS (bz s) (wiZ (bz s) n) (pQ (bz s)))) == ByteArray.toList (sz (rep1 (if hasZ (bz (sz (pS (bz s)))) 42 = true then 42 else 32) (Int.toNat (pW (bz s))))) || true)) then R (.bool (ByteArray.toList (sz (edS (bz s) (wiZ (bz s) n) (pQ (bz s)))) == ByteArray.toList (sz (rep1 (if hasZ (bz (sz (pS (bz s)))) 42 = true then 42 else 32) (Int.toNat (pW (bz s))))) && leZ (bz s) (wiZ (bz s) n) == pW (bz s))) else False else bif LSpec.pre S17_0 (false, sz (pS (bz s)), pN (bz s), pW (bz s), pD (bz s), pQ (bz s), pG (bz s), sz (edS (bz s) (wiZ (bz s) n) (pQ (bz s))), leZ (bz s) (wiZ (bz s) n), sz (roZ (bz s)), 0, 0) then bif plaGo (drZ (bz (sz (pS (bz s))))) (fdFl (bz (sz (pS (bz s))))) (leZ (bz s) (wiZ (bz s) n)) (List.drop (Int.toNat 0) (bz (sz (roZ (bz s))))) (List.drop (Int.toNat 0) (bz (sz (pS (bz s))))) (List.drop (Int.toNat 0) (bz (sz (edS (bz s) (wiZ (bz s) n) (pQ (bz s)))))) 0 then ∀ (x : Tmps), R (.bool ((↑(ByteArray.size (sz (edS (bz s) (wiZ (bz s) n) (pQ (bz s))))) : Int) == (↑(ByteArray.size (sz (edS (bz s) (wiZ (bz s) n) (pQ (bz s))))) : Int))) else ∀ (o' i' : Int) (x : Tmps), R (.bool false) else False else False else False else False else False else False else False else False else False) := by kernel_rfl
theorem ok17 : PureOK Tryz.prog 17 (sp2 s17) := by
 refine qure2 ok_L17 hmix fn17 l17_0 (Nat.le_of_ble_eq_true (by kernel_rfl)) fun s n hc => ?_
 rw [DoesQ, v17]
 have hc : (s.size ≤ 9223372036854775807) := of_decide_eq_true hc
 try dsimp only [s17]
 rw [pe_pn]
 refine c_t (decide_eq_true hc) (c_t (by simp) (cond_intro (fun h => ?_) (fun h => ?_)))
 ·refine c_t (decide_eq_true hc) ?_
  simp
 have h : pN (bz s) = true := by simpa using h
 obtain ⟨w1, w2⟩ := wi_rng h n
 have w3 := wi_64 (bz s) n
 have hp := pD_rng h
 have hw := @pW_rng s
 generalize wiZ (bz s) n = m at *
 obtain ⟨e1, e2, e3⟩ := ed_in h w1 w2
 have H := hd_mk h w1 w2
 have hz := size_fdN h m
 have q1 := H.zm
 have q2 := H.zs
 have q4 := H.l32
 have q5 := H.nv
 have z0 : Int.toNat 0 = 0 := rfl
 have ef : (if hasZ (pS (bz s)) 42 = true then (42 : Int) else 32) = fdFl (pS (bz s)) := rfl
 have d1 := decide_eq_true (show s.size ≤ 9223372036854775807 ∧ -9223372036854775808 ≤ m ∧ m ≤ 9223372036854775807 from ⟨hc, w3⟩)
 have hq : (((sz (roZ (bz s))).size : Int) != ((sz (pS (bz s))).size : Int)) = false := by rw [q1, q2]; simp
 rw [e1, e3, H.nE, H.le, hz, hq]
 simp only [z0, List.drop_zero]
 rw [H.ms, H.sp, bz_fdN, ef]
 have hq1 : decide ((sz (roZ (bz s))).size ≤ 9223372036854775807) = true := decide_eq_true (by omega)
 rw [hq1]
 refine c_t (decide_eq_true hc) (c_t d1 (c_t d1 (c_t (decide_eq_true hc) (c_t (by simp) (c_f (by simp) (c_t (by cases m == 0 <;> rfl) (cond_intro (fun g => ?_) (fun g => ?_))))))))
 ·simp only [Bool.and_eq_true, beq_iff_eq, Bool.not_eq_true'] at g
  obtain ⟨g1, g2⟩ := g
  subst g1
  obtain ⟨b1, b2⟩ := blank_law h g2
  rw [b1, b2]
  refine c_t (by rw [decide_eq_true (show (sz (pS (bz s))).size ≤ 9223372036854775807 by omega), decide_eq_true (show 0 ≤ pW (bz s) ∧ pW (bz s) ≤ 1000 by omega)]; simp) ?_
  simp
 ·have h0 : ¬ (m = 0 ∧ hasZ (marksZ (pS (bz s))) 100 = false) := fun z => by rw [z.2, z.1] at g; cases g
  rw [pla_law h h0]
  refine c_t ?_ (fun _ => by simp)
  simp only [S17_0, decide_eq_true_eq, z0, List.drop_zero]
  rw [H.ms, hz]
  omega
end Go.Px
end
noncomputable section
namespace Go.Px
open Go Go.Ab Go.Proofs
theorem tenZ_ten (n : Nat) : tenZ (n + 1) = 10 * tenZ n := by
 unfold tenZ
 rw [Int.pow_succ, Int.mul_comm]
theorem cuM_ten {n q c e : Int} (hq : 0 ≤ q) (he : 0 ≤ e ∧ e < 10) (h : q ≥ c ∨ e = 0) (m : Int) (hm : (m.natAbs : Int) = 10 * n.natAbs + e) : cuM m (q + 1) c = cuM n q c := by
 unfold cuM
 by_cases h1 : q ≥ c
 ·rw [if_pos (show q + 1 ≥ c by omega), if_pos h1, show (q + 1 - c).toNat = (q - c).toNat + 1 by omega, tenZ_ten, hm]
  have e0 : (10 * (n.natAbs : Int) + e) / (10 * tenZ (q - c).toNat) = (10 * (n.natAbs : Int) + e) / 10 / tenZ (q - c).toNat := (Int.ediv_ediv_of_nonneg (by omega)).symm
  rw [e0]
  congr 1
  omega
 ·have he0 := h.resolve_left h1
  rw [if_neg h1, hm, he0, Int.add_zero]
  by_cases h2 : q + 1 ≥ c
  ·have e1 : (q + 1 - c).toNat = 0 := by omega
   have e2 : (c - q).toNat = 0 + 1 := by omega
   have e3 : tenZ 0 = 1 := rfl
   rw [if_pos h2, e1, e2, tenZ_ten, e3]
   omega
  ·rw [if_neg h2, show (c - q).toNat = (c - (q + 1)).toNat + 1 by omega, tenZ_ten]
   rw [Int.mul_comm 10, Int.mul_assoc]
theorem ed_same {l : List Int} {n m q : Int} (h : pN l = true) (hq : 0 ≤ q ∧ q < 9) (hM : cuM m (q + 1) (pQ l) = cuM n q (pQ l)) (hs : m < 0 ↔ n < 0) :
  edS l m (q + 1) = edS l n q ∧ edF l m (q + 1) = edF l n q := by
 have hp := pD_rng h
 have h1 : pN l = true ∧ 0 ≤ q + 1 ∧ q + 1 ≤ 9 := ⟨h, by omega, by omega⟩
 have h2 : pN l = true ∧ 0 ≤ q ∧ q ≤ 9 := ⟨h, by omega, by omega⟩
 have eV : cuV m (q + 1) (pQ l) (pD l) = cuV n q (pQ l) (pD l) := by rw [cuV, cuV, hM]
 have eN : cuN m (q + 1) (pQ l) (pD l) (pG l) = cuN n q (pQ l) (pD l) (pG l) := by
  rw [cuN, cuN, eV]
  by_cases h0 : n < 0 ∧ pG l = true
  ·rw [if_pos h0, if_pos ⟨hs.2 h0.1, h0.2⟩]
  ·rw [if_neg h0, if_neg (fun z => h0 ⟨hs.1 z.1, z.2⟩)]
 constructor
 ·rw [edS, edS, if_pos h1, if_pos h2, eN]
 ·rw [edF, edF, if_pos h1, if_pos h2, cuF, cuF, hM, eV]
  have : decide (m ≥ 0) = decide (n ≥ 0) := by
   by_cases h0 : n < 0
   ·have := hs.2 h0
    rw [decide_eq_false (show ¬ n ≥ 0 by omega), decide_eq_false (show ¬ m ≥ 0 by omega)]
   ·have : ¬ m < 0 := fun z => h0 (hs.1 z)
    rw [decide_eq_true (show n ≥ 0 by omega), decide_eq_true (show m ≥ 0 by omega)]
  rw [this]
end Go.Px
end
noncomputable section
set_option maxHeartbeats 3200000
namespace Go.Px
open Go Go.Ab Go.Proofs Go.Shelf
def L7 : Env := ((((Env.nil.add 19 (sp0 s19)).add 30 (sp1 s30)).add 33 (sp1 s33)).add 20 (sp3 s20))
theorem ok_L7 : EnvOK Tryz.prog L7 := env_add (env_add (env_add (env_add (env_nil) ok19) ok30) ok33) ok20
def caseV (s t : ByteArray) (n q : Int) (h : Value) : Value := .agg ⟨[.string s, .string t, .int .i64 n, .int .i64 q, h]⟩
theorem v7 (s : ByteArray) (t : ByteArray) (n : Int) (q : Int) (h : Value) (m : Lk) (R : Value → Prop) : (bodyQ Tryz.prog L7 noL Tryz.f7 [caseV s t n q h] m 2 (fun v _ _ => R v)) = ( bif decide (ByteArray.size s ≤ 9223372036854775807) then bif pE (bz s) != 0 || (!pN (bz s) || (decide (q < 0) || (decide (q ≥ 9) || (decide (n > 576460752303423488) || true)))) then bif pE (bz s) != 0 || (!pN (bz s) || (decide (q < 0) || (decide (q ≥ 9) || (decide (n > 576460752303423488) || decide (n < -576460752303423488))))) then bif decide (ByteArray.size s ≤ 9223372036854775807) then R (.bool (pE (bz s) == pE (bz s))) else False else bif decide (ByteArray.size s ≤ 9223372036854775807 ∧ -9223372036854775808 ≤ n ∧ n ≤ 9223372036854775807) then bif decide (ByteArray.size s ≤ 9223372036854775807 ∧ -9223372036854775808 ≤ IntKind.wrap .i64 (10 * n) ∧ IntKind.wrap .i64 (10 * n) ≤ 9223372036854775807) then bif edE (bz s) q != 0 || (edE (bz s) (IntKind.wrap .i64 (q + 1)) != 0 || (!ByteArray.toList (sz (edS (bz s) n q)) == ByteArray.toList (sz (edS (bz s) (IntKind.wrap .i64 (10 * n)) (IntKind.wrap .i64 (q + 1)))) || true)) then bif edE (bz s) q != 0 || (edE (bz s) (IntKind.wrap .i64 (q + 1)) != 0 || (!ByteArray.toList (sz (edS (bz s) n q)) == ByteArray.toList (sz (edS (bz s) (IntKind.wrap .i64 (10 * n)) (IntKind.wrap .i64 (q + 1)))) || !edF (bz s) n q == edF (bz s) (IntKind.wrap .i64 (10 * n)) (IntKind.wrap .i64 (q + 1)))) then R (.bool false) else bif decide (q < pQ (bz s)) || true then bif decide (q < pQ (bz s)) || n == 0 then R (.bool true) else bif decide (n < 0) then bif decide (ByteArray.size s ≤ 9223372036854775807 ∧ -9223372036854775808 ≤ IntKind.wrap .i64 (IntKind.wrap .i64 (10 * n) + IntKind.wrap .i64 (0 - Int.tmod (↑(ByteArray.size t) : Int) 10)) ∧ IntKind.wrap .i64 (IntKind.wrap .i64 (10 * n) + IntKind.wrap .i64 (0 - Int.tmod (↑(ByteArray.size t) : Int) 10)) ≤ 9223372036854775807) then bif bif edE (bz s) (IntKind.wrap .i64 (q + 1)) == 0 then ByteArray.toList (sz (edS (bz s) n q)) == ByteArray.toList (sz (edS (bz s) (IntKind.wrap .i64 (IntKind.wrap .i64 (10 * n) + IntKind.wrap .i64 (0 - Int.tmod (↑(ByteArray.size t) : Int) 10))) (IntKind.wrap .i64 (q + 1)))) || true else true then R (.bool (edE (bz s) (IntKind.wrap .i64 (q + 1)) == 0 && (ByteArray.toList (sz (edS (bz s) n q)) == ByteArray.toList (sz (edS (bz s) (IntKind.wrap .i64 (IntKind.wrap .i64 (10 * n) + IntKind.wrap .i64 (0 - Int.tmod (↑(ByteArray.size t) : Int) 10))) (IntKind.wrap .i64 (q + 1)))) && edF (bz s) n q == edF (bz s) (IntKind.wrap .i64 (IntKind.wrap .i64 (10 * n) + IntKind.wrap .i64 (0 - Int.tmod (↑(ByteArray.size t) : Int) 10))) (IntKind.wrap .i64 (q + 1))))) else False else False else bif decide (ByteArray.size s ≤ 9223372036854775807 ∧ -9223372036854775808 ≤ IntKind.wrap .i64 (IntKind.wrap .i64 (10 * n) + Int.tmod (↑(ByteArray.size t) : Int) 10) ∧ IntKind.wrap .i64 (IntKind.wrap .i64 (10 * n) + Int.tmod (↑(ByteArray.size t) : Int) 10) ≤ 9223372036854775807) then bif bif edE (bz s) (IntKind.wrap .i64 (q + 1)) == 0 then ByteArray.toList (sz (edS (bz s) n q)) == ByteArray.toList (sz (edS (bz s) (IntKind.wrap .i64 (IntKind.wrap .i64 (10 * n) + Int.tmod (↑(ByteArray.size t) : Int) 10)) (IntKind.wrap .i64 (q + 1)))) || true else true then R (.bool (edE (bz s) (IntKind.wrap .i64 (q + 1)) == 0 && (ByteArray.toList (sz (edS (bz s) n q)) == ByteArray.toList (sz (edS (bz s) (IntKind.wrap .i64 (IntKind.wrap .i64 (10 * n) + Int.tmod (↑(ByteArray.size t) : Int) 10)) (IntKind.wrap .i64 (q + 1)))) && edF (bz s) n q == edF (bz s) (IntKind.wrap .i64 (IntKind.wrap .i64 (10 * n) + Int.tmod (↑(ByteArray.size t) : Int) 10)) (IntKind.wrap .i64 (q + 1))))) else False else False else False else False else False else False else False else False) := by kernel_rfl
theorem fn7 : Fn1 Tryz.prog 7 Tryz.f7 := ⟨Tryz.func7, by kernel_rfl, by kernel_rfl, by kernel_rfl⟩
theorem d7 (s t : ByteArray) (n q : Int) (h : Value) (m : Lk) (hs : s.size ≤ 9223372036854775807) (ht : t.size ≤ 9223372036854775807) (hn : -9223372036854775808 ≤ n ∧ n ≤ 9223372036854775807) :
  DoesT Tryz.prog L7 noL Tryz.f7 [caseV s t n q h] m 2 (.bool true) := by
 rw [DoesT, v7]
 have epn : ∀ x : Bool, (pE (bz s) != 0 || (!pN (bz s) || x)) = (!pN (bz s) || x) := fun x => by rw [← Bool.or_assoc, pe_pn]
 rw [epn, epn]
 refine c_t (decide_eq_true hs) (c_t (by simp) (cond_intro (fun g => ?_) (fun g => ?_)))
 ·refine c_t (decide_eq_true hs) ?_
  simp
 simp only [Bool.or_eq_false_iff, Bool.not_eq_false', decide_eq_false_iff_not] at g
 obtain ⟨h1, h2, h3, h4, h5⟩ := g
 have hq : 0 ≤ q ∧ q < 9 := by omega
 have hp := pD_rng h1
 obtain ⟨a1, a2⟩ := ed_same (n := n) (m := 10 * n) h1 hq (cuM_ten (n := n) hq.1 (e := 0) (by omega) (.inr rfl) _ (by omega)) (by omega)
 have e1 : edE (bz s) q = 0 := by rw [edE, if_pos h1, if_pos (by omega)]
 have e2 : edE (bz s) (q + 1) = 0 := by rw [edE, if_pos h1, if_pos (by omega)]
 have et : Int.tmod (t.size : Int) 10 = (t.size : Int) % 10 := Int.tmod_eq_emod_of_nonneg (by omega)
 rw [w64 (n := 10 * n) (by omega), w64 (n := q + 1) (by omega), e1, e2, a1, a2, et]
 have d1 := decide_eq_true (show s.size ≤ 9223372036854775807 ∧ -9223372036854775808 ≤ n ∧ n ≤ 9223372036854775807 from ⟨hs, hn⟩)
 have d2 := decide_eq_true (show s.size ≤ 9223372036854775807 ∧ -9223372036854775808 ≤ 10 * n ∧ 10 * n ≤ 9223372036854775807 by omega)
 refine c_t d1 (c_t d2 (c_t (by simp) (c_f (by simp) (c_t (by simp) (cond_intro (fun k => rfl) (fun k => ?_))))))
 simp only [Bool.or_eq_false_iff, decide_eq_false_iff_not, beq_eq_false_iff_ne] at k
 refine cond_intro (fun j => ?_) (fun j => ?_)
 ·have j := of_decide_eq_true j
  rw [w64 (n := 0 - (t.size : Int) % 10) (by omega), w64 (n := 10 * n + (0 - (t.size : Int) % 10)) (by omega)]
  obtain ⟨b1, b2⟩ := ed_same (n := n) (m := 10 * n + (0 - (t.size : Int) % 10)) h1 hq (cuM_ten (n := n) hq.1 (e := (t.size : Int) % 10) (by omega) (.inl (by omega)) _ (by omega)) (by omega)
  rw [b1, b2]
  refine c_t (decide_eq_true (by omega)) (c_t (by simp) ?_)
  simp
 ·have j := of_decide_eq_false j
  rw [w64 (n := 10 * n + (t.size : Int) % 10) (by omega)]
  obtain ⟨b1, b2⟩ := ed_same (n := n) (m := 10 * n + (t.size : Int) % 10) h1 hq (cuM_ten (n := n) hq.1 (e := (t.size : Int) % 10) (by omega) (.inl (by omega)) _ (by omega)) (by omega)
  rw [b1, b2]
  refine c_t (decide_eq_true (by omega)) (c_t (by simp) ?_)
  simp
end Go.Px
end
noncomputable section
set_option maxHeartbeats 3200000
namespace Go.Px
open Go Go.Ab Go.Proofs Go.Shelf
inductive Sw where
 | nil
 | own (d : List Value) (m cap : Nat)
def Sw.v (q : Nat) : Sw → Value
 | .nil => .slice none 0 0
 | .own _ m cap => .slice (some ⟨q, 0, some 1⟩) m cap
def Sw.b : Sw → Option Blk
 | .nil => none
 | .own d _ _ => some ⟨d, 5, false⟩
def Sw.z : Sw → List Int
 | .nil => []
 | .own d m _ => zc d m
def Sw.ok : Sw → Bool
 | .nil => true
 | .own d m _ => vwOK d m && Nat.ble m 9223372036854775807
def L41 : Env := Env.nil
theorem ok_L41 : EnvOK Tryz.prog L41 := env_nil
def ltGo : List Int → List Int → List Int
 | [], o => o
 | b :: r, o => bif decide ((o.length : Int) < 15) then ltGo r (o ++ [[65, 88, 57].getD (b % 3).toNat 0]) else o
def V41_0 : Sw × ByteArray × Int → List Value := fun (p, o, i) => [p.v 200, S o, I i]
def B41_0 : Sw × ByteArray × Int → List (Option Blk) := fun (p, o, i) => [p.b]
def S41_0 : LSpecA (Sw × ByteArray × Int) where
 live := [0, 3, 4]
 mid := [200]
 n := 210
 ap := [(.tmp 0, 200)]
 dec vs bs := match vs, bs with
  | [.slice none 0 0, .string o, .int .i64 i], [none] => some (.nil, o, i)
  | [.slice (some ⟨200, 0, some 1⟩) m cap, .string o, .int .i64 i], [some ⟨d, 5, false⟩] => some (.own d m cap, o, i)
  | _, _ => none
 pre := fun (p, o, i) => p.ok && decide (0 ≤ i ∧ i ≤ p.z.length ∧ o.size ≤ 15)
 fin := fun (p, o, i) Z => ∀ i', Z (.exit 0) [p.v 200, S (sz (ltGo (p.z.drop i.toNat) (bz o))), I i'] [p.b]
theorem r41_0n (o : ByteArray) (i : Int) (jk : Tmps) (R : Exit → List Value → List (Option Blk) → Prop) : (codeQ Tryz.prog L41 noL Tryz.f41.ntmps (loopOf Tryz.f41 0) (tl S41_0.live (V41_0 (.nil, o, i)) jk) (ml S41_0.mid (B41_0 (.nil, o, i))) S41_0.n fun e t' m' _ => S41_0.out R e t' m') = ( bif decide (i < natO 0) || true then bif decide (i < natO 0) && decide ((↑(ByteArray.size o) : Int) < 15) then False else R (Exit.exit 0) [.slice none 0 0, .string o, .int .i64 i] [none] else False) := by kernel_rfl
theorem r41_0o (d : List Value) (m : Nat) (cap : Nat) (o : ByteArray) (i : Int) (jk : Tmps) (R : Exit → List Value → List (Option Blk) → Prop) : (codeQ Tryz.prog L41 noL Tryz.f41.ntmps (loopOf Tryz.f41 0) (tl S41_0.live (V41_0 (.own d m cap, o, i)) jk) (ml S41_0.mid (B41_0 (.own d m cap, o, i))) S41_0.n fun e t' m' _ => S41_0.out R e t' m') = ( bif decide (i < natO m) || true then bif decide (i < natO m) && decide ((↑(ByteArray.size o) : Int) < 15) then bif decide (0 ≤ i ∧ i < (↑m : Int)) then bif isIntAt IntKind.u8 d (0 + Int.toNat i * 1) then bif decide (0 ≤ Int.tmod (intAt d (0 + Int.toNat i * 1)) 3 ∧ Int.tmod (intAt d (0 + Int.toNat i * 1)) 3 < 3) then bif strFit (ByteArray.size o + ByteArray.size (bytesOf [.int .u8 (byteAt (ByteArray.mk #[65, 88, 57]) (Int.toNat (Int.tmod (intAt d (0 + Int.toNat i * 1)) 3)))] 0 1)) then bif goodL [(200, 200)] d && true && true then R Exit.normal [.slice (some (.mk 200 0 (some 1))) m cap, .string (o ++ bytesOf [.int .u8 (byteAt (ByteArray.mk #[65, 88, 57]) (Int.toNat (Int.tmod (intAt d (0 + Int.toNat i * 1)) 3)))] 0 1), .int .i64 (IntKind.wrap .i64 (i + 1))] [some (.mk (rlbL [(200, 200)] d) 5 false)] else False else False else False else False else False else bif goodL [(200, 200)] d && true && true then R (Exit.exit 0) [.slice (some (.mk 200 0 (some 1))) m cap, .string o, .int .i64 i] [some (.mk (rlbL [(200, 200)] d) 5 false)] else False else False) := by kernel_rfl
theorem l41_0 : LOKf Tryz.prog (oneL 0 S41_0.hA) Tryz.f41 := by
 refine lokf_one (h := S41_0.hA) (by kernel_rfl) (loop_specA ok_L41 hmix (by kernel_rfl) (lok_none _) S41_0 V41_0 B41_0 (fun (p, o, i) => (p.z.length - i).toNat) ?_ ?_ ?_)
 ·intro vs bs s h
  simp only [S41_0] at h
  split at h
  all_goals first | (cases h; exact ⟨rfl, rfl⟩) | cases h | (split at h <;> first | (rename_i hq; cases h; have hq := Nat.eq_of_beq_eq_true hq; subst hq; exact ⟨rfl, rfl⟩) | cases h)
 ·exact fun ⟨p, o, i⟩ hp => by
   simp only [S41_0, Bool.and_eq_true] at hp
   cases p with
   | nil => simp [V41_0, B41_0, S41_0, idsLt, idsLtB, idsL, ids, Sw.v, Sw.b]
   | own d m cap => simp [V41_0, B41_0, S41_0, idsLt, idsLtB, idsL, ids, Sw.v, Sw.b, ids_plainL (vwOK_iff.1 (Bool.and_eq_true_iff.1 hp.1).1).plain]
 ·intro ⟨p, o, i⟩ jk Z hp hf
  simp only [S41_0] at hp hf
  cases p with
  | nil =>
   rw [r41_0n]
   have hf : ∀ i', Z (.exit 0) [.slice none 0 0, S (sz (bz o)), I i'] [none] := fun i' => by have := hf i'; simpa [Sw.z, ltGo, Sw.v, Sw.b] using this
   simp only [Bool.and_eq_true, decide_eq_true_eq] at hp
   rw [natO_eq, decide_eq_false (show ¬ i < ((0 : Nat) : Int) by omega)]
   refine c_t rfl (c_f rfl ?_)
   have := hf i
   rw [sz_bz] at this
   exact this
  | own d m cap =>
   rw [r41_0o]
   simp only [Bool.and_eq_true, decide_eq_true_eq, Sw.ok, Nat.ble_eq] at hp
   obtain ⟨⟨hV, hm⟩, hp⟩ := hp
   have hv := vwOK_iff.1 hV
   have hzl := hv.zlen
   simp only [Sw.z, hzl] at hp
   have e0 : 0 + i.toNat * 1 = i.toNat := by omega
   have hg : ∀ ps, (goodL ps d && true && true) = true := fun ps => by rw [goodL_plain hv.plain]; rfl
   rw [e0]
   simp only [hv.rlb, natO_eq, hg]
   refine c_t (by simp) (cond_intro (fun h => ?_) (fun h => ?_))
   ·simp only [Bool.and_eq_true, decide_eq_true_eq] at h
    obtain ⟨a1, a2, a3⟩ := hv.at hp.1 h.1
    have hf : ∀ i', Z (.exit 0) [.slice (some ⟨200, 0, some 1⟩) m cap, S (sz (ltGo ((zc d m).drop i.toNat) (bz o))), I i'] [some ⟨d, 5, false⟩] := hf
    rw [a3, ltGo, decide_eq_true (show ((bz o).length : Int) < 15 by rw [bz_length]; omega), cond_true] at hf
    generalize intAt d i.toNat = b at *
    have et : Int.tmod b 3 = b % 3 := Int.tmod_eq_emod_of_nonneg a2.1
    have ec : byteAt (ByteArray.mk #[65, 88, 57]) (b % 3).toNat = [65, 88, 57].getD (b % 3).toNat 0 := by rw [byteAt_eq]; rfl
    have hb3 : 0 ≤ [65, 88, (57 : Int)].getD (b % 3).toNat 0 ∧ [65, 88, (57 : Int)].getD (b % 3).toNat 0 < 256 := by
     have h3 : b % 3 = 0 ∨ b % 3 = 1 ∨ b % 3 = 2 := by omega
     rcases h3 with q | q | q <;> rw [q] <;> decide
    rw [et, ec, w64 (n := i + 1) (by omega), a1]
    generalize [65, 88, (57 : Int)].getD (b % 3).toNat 0 = c at *
    have eb : bytesOf [Value.int IntKind.u8 c] 0 1 = sz [c] := rfl
    have es : (sz [c]).size = 1 := rfl
    rw [eb, es]
    refine c_t (decide_eq_true (by omega)) (c_t rfl (c_t (decide_eq_true (by omega)) (c_t (by simp only [strFit, Nat.ble_eq]; omega) (c_t rfl ?_))))
    refine ⟨(.own d m cap, o ++ sz [c], i + 1), rfl, rfl, by simp only [S41_0, Bool.and_eq_true, decide_eq_true_eq, Sw.ok, Nat.ble_eq, Sw.z, hzl, ByteArray.size_append, es]; exact ⟨⟨hV, hm⟩, by omega, by omega, by omega⟩, by simp only [Sw.z, hzl]; omega, ?_⟩
    show ∀ i', Z (.exit 0) [.slice (some ⟨200, 0, some 1⟩) m cap, S (sz (ltGo ((zc d m).drop (i + 1).toNat) (bz (o ++ sz [c])))), I i'] [some ⟨d, 5, false⟩]
    rw [bz_append, bz_sz (cons_isB hb3 IsB.nil)]
    exact hf
   ·have hf : ∀ i', Z (.exit 0) [.slice (some ⟨200, 0, some 1⟩) m cap, S (sz (ltGo ((zc d m).drop i.toNat) (bz o))), I i'] [some ⟨d, 5, false⟩] := hf
    have e : ltGo ((zc d m).drop i.toNat) (bz o) = bz o := by
     by_cases hi : i < m
     ·obtain ⟨_, _, a3⟩ := hv.at hp.1 hi
      have ho : ¬ (o.size : Int) < 15 := fun q => by
       rw [decide_eq_true hi, decide_eq_true q] at h; cases h
      rw [a3, ltGo, decide_eq_false (show ¬ ((bz o).length : Int) < 15 by rw [bz_length]; exact ho), cond_false]
     ·rw [hv.end (by omega), ltGo]
    rw [e, sz_bz] at hf
    exact c_t rfl (hf i)
theorem viewL_none : viewL [none] = fun _ => none := by
 funext k
 cases k with
 | zero => rfl
 | succ k => rfl
theorem viewL_vw {d : List Value} {own : Bool} (h : plainL d = true) : viewL [some ⟨d, 5, own⟩] = vw d 5 := vw_viewL h [] (fun _ h => by cases h)
def s41 : Ab.Spec := fun args bs => match args, bs with
 | [.slice none 0 0], [none] => some (true, .string (sz (ltGo [] [] ++ [88])))
 | [.slice (some ⟨_, 0, some 1⟩) l c], [some ⟨d, 5, _⟩] => some (Sw.ok (.own d l c), .string (sz (ltGo (zc d l) [] ++ [88])))
 | _, _ => none
theorem v41n (u : Bool) (R : Value → Prop) : (bodyQ Tryz.prog L41 (oneL 0 S41_0.hA) Tryz.f41 [.slice none 0 0] (fun _ => none) 1 (fun v _ _ => R v)) = ( ∀ (i' : Int) (x : Tmps), R (.string (sz (ltGo [] (bz (ByteArray.mk #[]))) ++ ByteArray.mk #[88]))) := by kernel_rfl
theorem v41o (d : List Value) (l : Nat) (c : Nat) (R : Value → Prop) : (bodyQ Tryz.prog L41 (oneL 0 S41_0.hA) Tryz.f41 [.slice (some ⟨0, 0, some 1⟩) l c] (vw d 5) 1 (fun v _ _ => R v)) = ( bif goodL [(0, 200)] d && true && true && (idsLt 210 (rlbL [(0, 200)] d) && true) then bif LSpec.pre (LSpecA.toLSpec S41_0) (Sw.own (rlbL [(0, 200)] d) l c, ByteArray.mk #[], 0) then ∀ (i' : Int), bif idsLt 210 (rlbL [(0, 200)] d) && true then ∀ (x : Tmps), bif strFit (ByteArray.size (sz (ltGo (List.drop (Int.toNat 0) (zc (rlbL [(0, 200)] d) l)) (bz (ByteArray.mk #[])))) + ByteArray.size (ByteArray.mk #[88])) then R (.string (sz (ltGo (List.drop (Int.toNat 0) (zc (rlbL [(0, 200)] d) l)) (bz (ByteArray.mk #[]))) ++ ByteArray.mk #[88])) else False else False else False else False) := by kernel_rfl
theorem lt_len : ∀ (l o : List Int), o.length ≤ 15 → (ltGo l o).length ≤ 15
 | [], o, h => h
 | b :: r, o, h => by
  rw [ltGo]
  by_cases q : (o.length : Int) < 15
  ·rw [decide_eq_true q, cond_true]
   exact lt_len r _ (by rw [List.length_append]; simp; omega)
  ·rw [decide_eq_false q]; exact h
theorem fn41 : Fn1 Tryz.prog 41 Tryz.f41 := ⟨Tryz.func41, by kernel_rfl, by kernel_rfl, by kernel_rfl⟩
theorem w41n : DoesT Tryz.prog L41 (oneL 0 S41_0.hA) Tryz.f41 [.slice none 0 0] (fun _ => none) 1 (.string (sz (ltGo [] [] ++ [88]))) := by
 rw [DoesT, v41n true]
 exact fun _ _ => rfl
theorem w41o {d : List Value} {l c : Nat} (h : Sw.ok (.own d l c) = true) : DoesT Tryz.prog L41 (oneL 0 S41_0.hA) Tryz.f41 [.slice (some ⟨0, 0, some 1⟩) l c] (vw d 5) 1 (.string (sz (ltGo (zc d l) [] ++ [88]))) := by
 rw [DoesT, v41o]
 obtain ⟨hV, hm⟩ := Bool.and_eq_true_iff.1 h
 have hv := vwOK_iff.1 hV
 have hg : (goodL [(0, 200)] d && true && true && (idsLt 210 d && true)) = true := by rw [goodL_plain hv.plain]; simp [idsLt, idsL, ids_plainL hv.plain]
 have hi : (idsLt 210 d && true) = true := by simp [idsLt, idsL, ids_plainL hv.plain]
 have z0 : Int.toNat 0 = 0 := rfl
 simp only [hv.rlb, z0, List.drop_zero]
 have e : bz (ByteArray.mk #[]) = [] := rfl
 have hl := lt_len (zc d l) [] (by simp)
 rw [e]
 refine c_t hg (c_t ?_ fun _ => c_t hi fun _ => c_t ?_ ?_)
 ·show (Sw.ok (.own d l c) && decide ((0 : Int) ≤ 0 ∧ (0 : Int) ≤ (zc d l).length ∧ (ByteArray.mk #[]).size ≤ 15)) = true
  rw [h, Bool.true_and, decide_eq_true_eq]
  exact ⟨by omega, by omega, by decide⟩
 ·rw [sz_size]
  simp only [strFit, Nat.ble_eq]
  have : (ByteArray.mk #[88]).size = 1 := rfl
  omega
 ·rw [sz_append]
  rfl
theorem doesT_VQ {G : Env} {L : Nat → Option LoopH} {fn : Func} {args : List Value} {bs : List (Option Blk)} {m : Lk} {n : Nat} {v : Value} (hm : viewL bs = m) (h : DoesT Tryz.prog G L fn args m n v) : DoesVQ Tryz.prog G L fn args bs n v := by
 rw [DoesVQ, hm]
 rw [DoesT] at h
 exact h
theorem ok41 : PureOK Tryz.prog 41 s41 := by
 refine pure_viewQ ok_L41 hmix fn41 l41_0 fun args bs v hs => ?_
 simp only [s41] at hs
 split at hs
 ·simp only [Option.some.injEq, Prod.mk.injEq, true_and] at hs
  subst hs
  exact ⟨_, 1, rfl, rfl, Nat.le_of_ble_eq_true (by kernel_rfl), doesT_VQ viewL_none w41n⟩
 ·simp only [Option.some.injEq, Prod.mk.injEq] at hs
  obtain ⟨hc, rfl⟩ := hs
  exact ⟨_, 1, rfl, rfl, Nat.le_of_ble_eq_true (by kernel_rfl), doesT_VQ (viewL_vw (vwOK_iff.1 (Bool.and_eq_true_iff.1 hc).1).plain) (w41o hc)⟩
 ·cases hs
end Go.Px
end
noncomputable section
namespace Go.Px
open Go Go.Ab Go.Proofs
theorem up_kL {c : Int} (h : hasZ kL c = true) : upZ c = c ∧ c ≠ 40 ∧ c ≠ 41 := by
 have hk : c ∈ kL := hasZ_iff.1 h
 simp only [kL, List.mem_cons, List.not_mem_nil, or_false] at hk
 rcases hk with rfl | rfl | rfl | rfl | rfl | rfl | rfl | rfl | rfl | rfl | rfl | rfl | rfl | rfl | rfl | rfl | rfl | rfl | rfl | rfl <;> decide
theorem xp_id : ∀ (l out : List Int), allK l = true → out.length + l.length ≤ 32 → xpGo l 0 0 out = (out ++ l, true)
 | [], out, _, _ => by rw [xpGo, List.append_nil]; rfl
 | c :: r, out, h, hl => by
  have h : hasZ kL c = true ∧ allK r = true := by
   simp only [allK, List.all_cons, Bool.and_eq_true] at h
   exact h
  obtain ⟨u1, u2, u3⟩ := up_kL h.1
  rw [List.length_cons] at hl
  rw [xpGo, if_neg (by decide), if_neg (fun q => q.elim u3 (fun q => absurd q.1 (by decide))), if_neg u2, u1, if_pos ⟨h.1, by rw [if_neg (by decide)]; omega⟩, if_neg (by decide)]
  have e : rep1 c (1 : Int).toNat = [c] := rfl
  rw [e, xp_id r (out ++ [c]) h.2 (by rw [List.length_append]; simp; omega), List.append_assoc]
  rfl
theorem ex_id {l : List Int} (h : allK l = true) (h0 : l ≠ []) (h32 : l.length ≤ 32) : exOK l = true ∧ exZ l = l := by
 have e := xp_id l [] h (by simpa using h32)
 have e1 : exOK l = true := by
  rw [exOK, e]
  cases l with
  | nil => exact absurd rfl h0
  | cons c r => rfl
 exact ⟨e1, by rw [exZ, if_pos e1, e]; rfl⟩
end Go.Px
end
noncomputable section
namespace Go.Px
open Go Go.Ab Go.Proofs
structure LtP (L : List Int) : Prop where
 ch : ∀ c ∈ L, c = 65 ∨ c = 88 ∨ c = 57
 x : 88 ∈ L
 l32 : L.length ≤ 32
theorem lt_ch : ∀ (l o : List Int), (∀ c ∈ o, c = 65 ∨ c = 88 ∨ c = 57) → ∀ c ∈ ltGo l o, c = 65 ∨ c = 88 ∨ c = 57
 | [], o, h => h
 | b :: r, o, h => by
  rw [ltGo]
  cases decide ((o.length : Int) < 15) with
  | false => exact h
  | true =>
   refine lt_ch r _ fun c hc => ?_
   rcases List.mem_append.1 hc with q | q
   ·exact h c q
   ·rw [List.mem_singleton.1 q]
    have : b % 3 = 0 ∨ b % 3 = 1 ∨ b % 3 = 2 := by omega
    rcases this with z | z | z <;> rw [z] <;> decide
theorem lt_pic (l : List Int) : LtP (ltGo l [] ++ [88]) ∧ (ltGo l [] ++ [88]).length ≤ 16 := by
 have hl := lt_len l [] (by simp)
 have hc := lt_ch l [] (by simp)
 refine ⟨⟨fun c h => ?_, by simp, by rw [List.length_append]; simp; omega⟩, by rw [List.length_append]; simp; omega⟩
 rcases List.mem_append.1 h with q | q
 ·exact hc c q
 ·rw [List.mem_singleton.1 q]; omega
theorem LtP.app {a b : List Int} (ha : LtP a) (hb : LtP b) (h : a.length + b.length ≤ 32) : LtP (a ++ b) :=
 ⟨fun c hc => (List.mem_append.1 hc).elim (ha.ch c) (hb.ch c), List.mem_append_left _ ha.x, by rw [List.length_append]; exact h⟩
theorem LtP.isB {L : List Int} (h : LtP L) : IsB L := fun c hc => by have := h.ch c hc; omega
structure LtF (L : List Int) : Prop where
 v : vOK L = true
 n : pN L = false
 s : pS L = L
 w : pW L = L.length
theorem lt_fac {L : List Int} (h : LtP L) : LtF L := by
 have hk : allK L = true := by
  simp only [allK, List.all_eq_true]
  intro c hc
  rcases h.ch c hc with rfl | rfl | rfl <;> decide
 have h0 : L ≠ [] := fun q => by have := h.x; rw [q] at this; cases this
 obtain ⟨e1, e2⟩ := ex_id hk h0 h.l32
 have hch : charZ L = true := by
  rw [charZ, hasZ_iff.2 h.x, Bool.or_true, Bool.and_true, List.all_eq_true]
  intro c hc
  rcases h.ch c hc with rfl | rfl | rfl <;> decide
 have hv : vOK L = true := by rw [vOK, e1, e2, hch]; rfl
 have hn : pN L = false := by rw [pN, e2, numV, hch]; simp
 exact ⟨hv, hn, by rw [pS, if_pos hv, e2], by rw [pW, if_pos hv, e2, if_pos hch]⟩
theorem ho_ch {L : List Int} (F : LtF L) (t : List Int) : hoZ L t = (decide ((t.length : Int) = L.length) && onGo L t) := by
 rw [hoZ, if_pos F.v, if_neg (by rw [F.n]; decide), F.s, F.w]
theorem fl_ch {L : List Int} (F : LtF L) (t : List Int) : (flZ L t).length = L.length := by
 rw [flZ, F.w]
 split
 ·rw [List.length_take]; omega
 ·rw [List.length_append]; simp [rep1]; omega
theorem fl_id {L : List Int} (F : LtF L) {t : List Int} (h : t.length = L.length) : flZ L t = t := by
 rw [flZ, F.w, if_neg (by omega)]
 have : ((L.length : Int) - t.length).toNat = 0 := by omega
 rw [this]
 exact List.append_nil t
theorem fl_isB (L : List Int) {t : List Int} (h : IsB t) : IsB (flZ L t) := by
 unfold flZ
 split
 ·exact h.take _
 ·exact h.append (rep_isB _ _ (by omega))
theorem fi_ch {L : List Int} (F : LtF L) (t : List Int) : fiS L t = flZ L t ∧ fiF L t = hoZ L (flZ L t) ∧ fiE L = 0 := by
 have h : vOK L = true ∧ pN L = false := ⟨F.v, F.n⟩
 exact ⟨by rw [fiS, if_pos h], by rw [fiF, if_pos h], by rw [fiE, if_pos h]⟩
theorem on_app : ∀ (a x b y : List Int), x.length = a.length → onGo (a ++ b) (x ++ y) = (onGo a x && onGo b y)
 | [], [], b, y, _ => by simp [onGo]
 | [], _ :: _, _, _, h => by simp at h
 | _ :: _, [], _, _, h => by simp at h
 | c :: a, d :: x, b, y, h => by
  rw [List.cons_append, List.cons_append, onGo, onGo, on_app a x b y (by simpa using h), Bool.and_assoc]
theorem ho_app {a b x y : List Int} (Fa : LtF a) (Fb : LtF b) (Fc : LtF (a ++ b)) (hx : x.length = a.length) (hy : y.length = b.length) : hoZ (a ++ b) (x ++ y) = (hoZ a x && hoZ b y) := by
 rw [ho_ch Fc, ho_ch Fa, ho_ch Fb, on_app a x b y hx, List.length_append, List.length_append, hx, hy]
 simp
end Go.Px
end
noncomputable section
set_option maxHeartbeats 3200000
namespace Go.Px
open Go Go.Ab Go.Proofs Go.Shelf
end Go.Px
end
noncomputable section
set_option maxHeartbeats 3200000
namespace Go.Px
open Go Go.Ab Go.Proofs Go.Shelf
def vwS (d : List Value) : Lk := fun k => match Nat.beq k 1 with | true => some ⟨d, 5, false⟩ | false => none
end Go.Px
end
noncomputable section
namespace Go.Px
open Go Go.Ab Go.Proofs
structure SameP (a b : List Int) : Prop where
 ok : exOK a = exOK b
 z : exZ a = exZ b
section
variable {a b : List Int}
theorem SameP.v (h : SameP a b) : vOK a = vOK b := by rw [vOK, vOK, h.ok, h.z]
theorem SameP.n (h : SameP a b) : pN a = pN b := by rw [pN, pN, h.ok, h.z]
theorem SameP.s (h : SameP a b) : pS a = pS b := by rw [pS, pS, h.v, h.z]
theorem SameP.w (h : SameP a b) : pW a = pW b := by rw [pW, pW, h.v, h.z]
theorem SameP.d (h : SameP a b) : pD a = pD b := by rw [pD, pD, h.n, h.z]
theorem SameP.q (h : SameP a b) : pQ a = pQ b := by rw [pQ, pQ, h.n, h.z]
theorem SameP.g (h : SameP a b) : pG a = pG b := by rw [pG, pG, h.n, h.z]
end
end Go.Px
end
noncomputable section
set_option maxHeartbeats 3200000
namespace Go.Px
open Go Go.Ab Go.Proofs Go.Shelf
def L11 : Env := ((((Env.nil.add 19 (sp0 s19)).add 42 (sp2 s42)).add 24 (sp2 s24))).addG 41 (hideS s41)
theorem ok_L11 : EnvOK Tryz.prog L11 := env_addG (env_add (env_add (env_add (env_nil) ok19) ok42) ok24) (gen_hide ok41)
def pairV (p q : Value) (s t : ByteArray) : Value := .agg ⟨[p, q, .string s, .string t]⟩
def F11 (s' s'_1 s t : ByteArray) (R : Value → Prop) : Prop := bif decide (ByteArray.size s' ≤ 9223372036854775807 ∧ ByteArray.size s ≤ 9223372036854775807) then bif decide (ByteArray.size s'_1 ≤ 9223372036854775807 ∧ ByteArray.size t ≤ 9223372036854775807) then bif strFit (ByteArray.size s' + ByteArray.size s'_1) then bif strFit (ByteArray.size (sz (fiS (bz s') (bz s))) + ByteArray.size (sz (fiS (bz s'_1) (bz t)))) then bif decide (ByteArray.size (s' ++ s'_1) ≤ 9223372036854775807 ∧ ByteArray.size (sz (fiS (bz s') (bz s)) ++ sz (fiS (bz s'_1) (bz t))) ≤ 9223372036854775807) then bif fiE (bz s') != 0 || (fiE (bz s'_1) != 0 || (fiE (bz (s' ++ s'_1)) != 0 || ((↑(ByteArray.size (sz (fiS (bz s') (bz s)))) : Int) != (↑(ByteArray.size s') : Int) || true))) then bif fiE (bz s') != 0 || (fiE (bz s'_1) != 0 || (fiE (bz (s' ++ s'_1)) != 0 || ((↑(ByteArray.size (sz (fiS (bz s') (bz s)))) : Int) != (↑(ByteArray.size s') : Int) || (↑(ByteArray.size (sz (fiS (bz s'_1) (bz t)))) : Int) != (↑(ByteArray.size s'_1) : Int)))) then R (Value.bool false) else bif decide (ByteArray.size s' ≤ 9223372036854775807 ∧ ByteArray.size (sz (fiS (bz s') (bz s))) ≤ 9223372036854775807) && (!fiF (bz s') (bz s) == hoZ (bz s') (bz (sz (fiS (bz s') (bz s)))) || decide (ByteArray.size s'_1 ≤ 9223372036854775807 ∧ ByteArray.size (sz (fiS (bz s'_1) (bz t))) ≤ 9223372036854775807) && (!fiF (bz s'_1) (bz t) == hoZ (bz s'_1) (bz (sz (fiS (bz s'_1) (bz t)))) || bif fiF (bz s') (bz s) then !fiF (bz (s' ++ s'_1)) (bz (sz (fiS (bz s') (bz s)) ++ sz (fiS (bz s'_1) (bz t)))) == fiF (bz s'_1) (bz t) || strFit (ByteArray.size (sz (fiS (bz s') (bz s))) + ByteArray.size (sz (fiS (bz s'_1) (bz t)))) && true else !fiF (bz (s' ++ s'_1)) (bz (sz (fiS (bz s') (bz s)) ++ sz (fiS (bz s'_1) (bz t)))) == false || strFit (ByteArray.size (sz (fiS (bz s') (bz s))) + ByteArray.size (sz (fiS (bz s'_1) (bz t)))) && true)) then bif !fiF (bz s') (bz s) == hoZ (bz s') (bz (sz (fiS (bz s') (bz s)))) || (!fiF (bz s'_1) (bz t) == hoZ (bz s'_1) (bz (sz (fiS (bz s'_1) (bz t)))) || bif fiF (bz s') (bz s) then !fiF (bz (s' ++ s'_1)) (bz (sz (fiS (bz s') (bz s)) ++ sz (fiS (bz s'_1) (bz t)))) == fiF (bz s'_1) (bz t) || !ByteArray.toList (sz (fiS (bz (s' ++ s'_1)) (bz (sz (fiS (bz s') (bz s)) ++ sz (fiS (bz s'_1) (bz t)))))) == ByteArray.toList (sz (fiS (bz s') (bz s)) ++ sz (fiS (bz s'_1) (bz t))) else !fiF (bz (s' ++ s'_1)) (bz (sz (fiS (bz s') (bz s)) ++ sz (fiS (bz s'_1) (bz t)))) == false || !ByteArray.toList (sz (fiS (bz (s' ++ s'_1)) (bz (sz (fiS (bz s') (bz s)) ++ sz (fiS (bz s'_1) (bz t)))))) == ByteArray.toList (sz (fiS (bz s') (bz s)) ++ sz (fiS (bz s'_1) (bz t)))) then R (Value.bool false) else bif decide (ByteArray.size s' ≤ 9223372036854775807 ∧ ByteArray.size (sz (fiS (bz s') (bz s))) ≤ 9223372036854775807) then bif bif ByteArray.toList (sz (fiS (bz s') (bz (sz (fiS (bz s') (bz s)))))) == ByteArray.toList (sz (fiS (bz s') (bz s))) then bif fiF (bz s') (bz (sz (fiS (bz s') (bz s)))) == fiF (bz s') (bz s) then bif fiE (bz s') == 0 then strFit (ByteArray.size s' + ByteArray.size s'_1) && (decide (ByteArray.size (s' ++ s'_1) ≤ 9223372036854775807 ∧ ByteArray.size s ≤ 9223372036854775807) && bif (↑(ByteArray.size s) : Int) == IntKind.wrap IntKind.i64 ((↑(ByteArray.size s') : Int) + (↑(ByteArray.size s'_1) : Int)) then decide ((0 : Int) ≤ 0 ∧ 0 ≤ imin (↑(ByteArray.size s) : Int) (↑(ByteArray.size s') : Int) ∧ imin (↑(ByteArray.size s) : Int) (↑(ByteArray.size s') : Int) ≤ (↑(ByteArray.size s) : Int)) && (decide (ByteArray.size s' ≤ 9223372036854775807 ∧ ByteArray.size (ByteArray.extract s 0 (Int.toNat (imin (↑(ByteArray.size s) : Int) (↑(ByteArray.size s') : Int)))) ≤ 9223372036854775807) && bif hoZ (bz s') (bz (ByteArray.extract s 0 (Int.toNat (imin (↑(ByteArray.size s) : Int) (↑(ByteArray.size s') : Int))))) then decide (0 ≤ imin (↑(ByteArray.size s) : Int) (↑(ByteArray.size s') : Int) ∧ imin (↑(ByteArray.size s) : Int) (↑(ByteArray.size s') : Int) ≤ (↑(ByteArray.size s) : Int) ∧ (↑(ByteArray.size s) : Int) ≤ (↑(ByteArray.size s) : Int)) && (decide (ByteArray.size s'_1 ≤ 9223372036854775807 ∧ ByteArray.size (ByteArray.extract s (Int.toNat (imin (↑(ByteArray.size s) : Int) (↑(ByteArray.size s') : Int))) (ByteArray.size s)) ≤ 9223372036854775807) && true) else true) else true) else true else true else true then R (Value.bool (ByteArray.toList (sz (fiS (bz s') (bz (sz (fiS (bz s') (bz s)))))) == ByteArray.toList (sz (fiS (bz s') (bz s))) && (fiF (bz s') (bz (sz (fiS (bz s') (bz s)))) == fiF (bz s') (bz s) && (fiE (bz s') == 0 && bif (↑(ByteArray.size s) : Int) == IntKind.wrap IntKind.i64 ((↑(ByteArray.size s') : Int) + (↑(ByteArray.size s'_1) : Int)) then bif hoZ (bz s') (bz (ByteArray.extract s 0 (Int.toNat (imin (↑(ByteArray.size s) : Int) (↑(ByteArray.size s') : Int))))) then hoZ (bz (s' ++ s'_1)) (bz s) == hoZ (bz s'_1) (bz (ByteArray.extract s (Int.toNat (imin (↑(ByteArray.size s) : Int) (↑(ByteArray.size s') : Int))) (ByteArray.size s))) else hoZ (bz (s' ++ s'_1)) (bz s) == false else hoZ (bz (s' ++ s'_1)) (bz s) == false)))) else False else False else False else False else False else False else False else False else False
theorem v11nn (s : ByteArray) (t : ByteArray) (R : Value → Prop) : (bodyQ Tryz.prog L11 noL Tryz.f11 [pairV (.slice none 0 0) (.slice none 0 0) s t] (fun _ => none) 2 (fun v _ _ => R v)) = ( ∀ (s' : ByteArray), sz [88] = s' → ∀ (s'_1 : ByteArray), sz [88] = s'_1 → F11 s' s'_1 s t R) := by kernel_rfl
theorem v11on (d : List Value) (l : Nat) (c : Nat) (s : ByteArray) (t : ByteArray) (R : Value → Prop) : (bodyQ Tryz.prog L11 noL Tryz.f11 [pairV (.slice (some ⟨0, 0, some 1⟩) l c) (.slice none 0 0) s t] (vw d 5) 2 (fun v _ _ => R v)) = ( bif vwOK d l && Nat.ble l 9223372036854775807 then ∀ (s' : ByteArray), sz (ltGo (zc d l) [] ++ [88]) = s' → ∀ (s'_1 : ByteArray), sz [88] = s'_1 → F11 s' s'_1 s t R else False) := by kernel_rfl
theorem v11no (e : List Value) (m : Nat) (f : Nat) (s : ByteArray) (t : ByteArray) (R : Value → Prop) : (bodyQ Tryz.prog L11 noL Tryz.f11 [pairV (.slice none 0 0) (.slice (some ⟨1, 0, some 1⟩) m f) s t] (vwS e) 2 (fun v _ _ => R v)) = ( ∀ (s' : ByteArray), sz [88] = s' → bif vwOK e m && Nat.ble m 9223372036854775807 then ∀ (s'_1 : ByteArray), sz (ltGo (zc e m) [] ++ [88]) = s'_1 → F11 s' s'_1 s t R else False) := by kernel_rfl
theorem v11oo (d : List Value) (l : Nat) (c : Nat) (e : List Value) (m : Nat) (f : Nat) (s : ByteArray) (t : ByteArray) (R : Value → Prop) : (bodyQ Tryz.prog L11 noL Tryz.f11 [pairV (.slice (some ⟨0, 0, some 1⟩) l c) (.slice (some ⟨1, 0, some 1⟩) m f) s t] (vw2 d e 5) 2 (fun v _ _ => R v)) = ( bif vwOK d l && Nat.ble l 9223372036854775807 then ∀ (s' : ByteArray), sz (ltGo (zc d l) [] ++ [88]) = s' → bif vwOK e m && Nat.ble m 9223372036854775807 then ∀ (s'_1 : ByteArray), sz (ltGo (zc e m) [] ++ [88]) = s'_1 → F11 s' s'_1 s t R else False else False) := by kernel_rfl
end Go.Px
end
noncomputable section
set_option maxHeartbeats 3200000
namespace Go.Px
open Go Go.Ab Go.Proofs Go.Shelf
end Go.Px
end
noncomputable section
set_option maxHeartbeats 3200000
namespace Go.Px
open Go Go.Ab Go.Proofs Go.Shelf
theorem f11_law {a b s t : ByteArray} (ha : LtP (bz a)) (hb : LtP (bz b)) (za : a.size ≤ 16) (zb : b.size ≤ 16) (hs : s.size ≤ 9223372036854775807) (ht : t.size ≤ 9223372036854775807) : F11 a b s t (fun v => v = .bool true) := by
 unfold F11
 have hab : (bz a).length + (bz b).length ≤ 32 := by rw [bz_length, bz_length]; omega
 have Fa := lt_fac ha
 have Fb := lt_fac hb
 have Fc := lt_fac (ha.app hb hab)
 obtain ⟨a1, a2, a3⟩ := fi_ch Fa (bz s)
 obtain ⟨b1, b2, b3⟩ := fi_ch Fb (bz t)
 have lx := fl_ch Fa (bz s)
 have ly := fl_ch Fb (bz t)
 have ix := bz_sz (fl_isB (bz a) (bz_isB s))
 have iy := bz_sz (fl_isB (bz b) (bz_isB t))
 generalize flZ (bz a) (bz s) = x at *
 generalize flZ (bz b) (bz t) = y at *
 obtain ⟨c1, c2, _⟩ := fi_ch Fa x
 rw [fl_id Fa lx] at c1 c2
 have lxy : (x ++ y).length = (bz a ++ bz b).length := by rw [List.length_append, List.length_append, lx, ly]
 obtain ⟨d1, d2, d3⟩ := fi_ch Fc (x ++ y)
 rw [fl_id Fc lxy] at d1 d2
 rw [ho_app Fa Fb Fc lx ly] at d2
 have zx : (sz x).size = a.size := by rw [sz_size, lx, bz_length]
 have zy : (sz y).size = b.size := by rw [sz_size, ly, bz_length]
 simp only [bz_append, a1, a2, a3, b1, b2, b3, ix, iy, c1, c2, d1, d2, d3, ByteArray.size_append, zx, zy]
 have e1 : decide (a.size ≤ 9223372036854775807 ∧ s.size ≤ 9223372036854775807) = true := decide_eq_true ⟨by omega, hs⟩
 have e2 : decide (b.size ≤ 9223372036854775807 ∧ t.size ≤ 9223372036854775807) = true := decide_eq_true ⟨by omega, ht⟩
 have e3 : strFit (a.size + b.size) = true := Nat.ble_eq_true_of_le (by omega)
 have e4 : decide (a.size + b.size ≤ 9223372036854775807 ∧ a.size + b.size ≤ 9223372036854775807) = true := decide_eq_true ⟨by omega, by omega⟩
 have e5 : decide (a.size ≤ 9223372036854775807 ∧ a.size ≤ 9223372036854775807) = true := decide_eq_true ⟨by omega, by omega⟩
 have e6 : decide (b.size ≤ 9223372036854775807 ∧ b.size ≤ 9223372036854775807) = true := decide_eq_true ⟨by omega, by omega⟩
 have e7 : decide (a.size ≤ 9223372036854775807) = true := decide_eq_true (by omega)
 have e8 : decide (a.size + b.size ≤ 9223372036854775807 ∧ s.size ≤ 9223372036854775807) = true := decide_eq_true ⟨by omega, hs⟩
 have e9 : IntKind.wrap IntKind.i64 ((a.size : Int) + (b.size : Int)) = (a.size : Int) + b.size := w64 (by omega)
 have e10 : sz (x ++ y) = sz x ++ sz y := sz_append x y
 simp only [e1, e2, e3, e4, e5, e6, e7, e8, e9, e10, cond_true, beq_self_eq_true, bne_self_eq_false, Bool.true_and, Bool.or_true, Bool.not_true, Bool.false_or]
 by_cases hl : (s.size : Int) = a.size + b.size
 ·have im : imin (s.size : Int) (a.size : Int) = a.size := by unfold imin; split <;> omega
  have t1 : bz (s.extract 0 a.size) = (bz s).take a.size := by rw [bz_extract, List.drop_zero]
  have t2 : bz (s.extract a.size s.size) = (bz s).drop a.size := by rw [bz_extract, List.take_of_length_le (by rw [bz_length]; omega)]
  have l1 : ((bz s).take a.size).length = (bz a).length := by rw [List.length_take, bz_length, bz_length]; omega
  have l2 : ((bz s).drop a.size).length = (bz b).length := by rw [List.length_drop, bz_length, bz_length]; omega
  have hh : hoZ (bz a ++ bz b) (bz s) = (hoZ (bz a) ((bz s).take a.size) && hoZ (bz b) ((bz s).drop a.size)) := by
   conv => lhs; rw [← List.take_append_drop a.size (bz s)]
   exact ho_app Fa Fb Fc l1 l2
  have f1 : (s.extract 0 a.size).size ≤ 9223372036854775807 := by rw [← bz_length, t1, l1, bz_length]; omega
  have f2 : (s.extract a.size s.size).size ≤ 9223372036854775807 := by rw [← bz_length, t2, l2, bz_length]; omega
  have g1 : decide ((0 : Int) ≤ 0 ∧ (0 : Int) ≤ (a.size : Int) ∧ (a.size : Int) ≤ (s.size : Int)) = true := decide_eq_true ⟨by omega, by omega, by omega⟩
  have g2 : decide (a.size ≤ 9223372036854775807 ∧ (s.extract 0 a.size).size ≤ 9223372036854775807) = true := decide_eq_true ⟨by omega, f1⟩
  have g3 : decide ((0 : Int) ≤ (a.size : Int) ∧ (a.size : Int) ≤ (s.size : Int) ∧ (s.size : Int) ≤ (s.size : Int)) = true := decide_eq_true ⟨by omega, by omega, by omega⟩
  have g4 : decide (b.size ≤ 9223372036854775807 ∧ (s.extract a.size s.size).size ≤ 9223372036854775807) = true := decide_eq_true ⟨by omega, f2⟩
  have g5 : ((s.size : Int) == (a.size : Int) + b.size) = true := beq_iff_eq.2 hl
  simp only [im, Int.toNat_natCast, t1, t2, hh, g1, g2, g3, g4, g5, cond_true]
  cases hoZ (bz a) x <;> cases hoZ (bz b) y <;> cases hoZ (bz a) ((bz s).take a.size) <;> cases hoZ (bz b) ((bz s).drop a.size) <;> simp
 ·have g5 : ((s.size : Int) == (a.size : Int) + b.size) = false := by simpa using hl
  have hh : hoZ (bz a ++ bz b) (bz s) = false := by
   rw [ho_ch Fc, decide_eq_false, Bool.false_and]
   rw [List.length_append, bz_length, bz_length, bz_length]
   omega
  simp only [hh, g5, cond_false]
  cases hoZ (bz a) x <;> cases hoZ (bz b) y <;> simp
theorem fn11 : Fn1 Tryz.prog 11 Tryz.f11 := ⟨Tryz.func11, by kernel_rfl, by kernel_rfl, by kernel_rfl⟩
theorem lt_made {z : List Int} {a : ByteArray} (h : sz (ltGo z [] ++ [88]) = a) : LtP (bz a) ∧ a.size ≤ 16 := by
 obtain ⟨h1, h2⟩ := lt_pic z
 rw [← h, bz_sz h1.isB, sz_size]
 exact ⟨h1, h2⟩
section
variable {s t : ByteArray} (hs : s.size ≤ 9223372036854775807) (ht : t.size ≤ 9223372036854775807)
include hs ht
theorem d11nn : DoesT Tryz.prog L11 noL Tryz.f11 [pairV (.slice none 0 0) (.slice none 0 0) s t] (fun _ => none) 2 (.bool true) := by
 rw [DoesT, v11nn]
 exact fun a h b h' => f11_law (lt_made (z := []) h).1 (lt_made (z := []) h').1 (lt_made (z := []) h).2 (lt_made (z := []) h').2 hs ht
theorem d11on {d : List Value} {l c : Nat} (hv : (vwOK d l && Nat.ble l 9223372036854775807) = true) : DoesT Tryz.prog L11 noL Tryz.f11 [pairV (.slice (some ⟨0, 0, some 1⟩) l c) (.slice none 0 0) s t] (vw d 5) 2 (.bool true) := by
 rw [DoesT, v11on]
 exact c_t hv fun a h b h' => f11_law (lt_made h).1 (lt_made (z := []) h').1 (lt_made h).2 (lt_made (z := []) h').2 hs ht
theorem d11no {e : List Value} {m f : Nat} (hv : (vwOK e m && Nat.ble m 9223372036854775807) = true) : DoesT Tryz.prog L11 noL Tryz.f11 [pairV (.slice none 0 0) (.slice (some ⟨1, 0, some 1⟩) m f) s t] (vwS e) 2 (.bool true) := by
 rw [DoesT, v11no]
 exact fun a h => c_t hv fun b h' => f11_law (lt_made (z := []) h).1 (lt_made h').1 (lt_made (z := []) h).2 (lt_made h').2 hs ht
theorem d11oo {d : List Value} {l c : Nat} {e : List Value} {m f : Nat} (hv : (vwOK d l && Nat.ble l 9223372036854775807) = true) (hv' : (vwOK e m && Nat.ble m 9223372036854775807) = true) : DoesT Tryz.prog L11 noL Tryz.f11 [pairV (.slice (some ⟨0, 0, some 1⟩) l c) (.slice (some ⟨1, 0, some 1⟩) m f) s t] (vw2 d e 5) 2 (.bool true) := by
 rw [DoesT, v11oo]
 exact c_t hv fun a h => c_t hv' fun b h' => f11_law (lt_made h).1 (lt_made h').1 (lt_made h).2 (lt_made h').2 hs ht
end
end Go.Px
end
noncomputable section
namespace Go.Px
open Go Go.Ab Go.Proofs Go.Shelf Go.ChangeMaps Go.ChangeShapes Go.WideShapes Go.ChangeAt Go.RowKit Go.Joins
open Go.Proofs.YtheglfmhbfngkaaGreatDoor
theorem own : ownKnob Tryz.prog.godebug = none := by kernel_rfl
def laidL : List (String × DataW Unit) := Rows.pictureEditsRow.laid
theorem tab_is {P : Program} {W : World} {name : String} {k : IntKind} {zs : List Int} {g : Nat} {t e : TypeId} {n : Nat} (hr : Lib.VarReads P W name (Lib.tabData k zs))
  (hg : P.globalNamed name = some g) (hty : (P.globals[g]?).map (·.type) = some t) (ht : P.underlying t = some (.array n e)) (he : P.underlying e = some (.int k)) (hce : P.cellsOf e = 1) (hct : P.cellsOf t = n) :
  g < W.heap.size ∧ ∃ ty fr, W.heap[g]? = some (.cells ⟨zs.map fun z => Value.int k z⟩ ty fr) := by
 obtain ⟨g', t', cs, fuel, p, h1, h2, h3, h4⟩ := hr
 obtain rfl := Option.some.inj (hg.symm.trans h1)
 obtain rfl := Option.some.inj (hty.symm.trans h2)
 have hc := Lib.cells_of_tab ht he hce hct h4
 unfold World.var? at h3
 rw [hg, Option.bind_some] at h3
 split at h3
 case h_2 => cases h3
 rename_i cs' ty fr hh
 have h3 := Option.some.inj h3
 refine ⟨(Array.getElem?_eq_some_iff.1 hh).1, ty, fr, ?_⟩
 rw [hh, h3]
 congr 2
 rw [← hc]
set_option maxRecDepth 100000 in
theorem tabs_of_laid {W : World} (h : laidMetH Tryz.prog laidL W) : TabsIn W.heap.size W := by
 rw [MakeChecks.laidMetH_plain _ _ _ (by kernel_rfl)] at h
 intro b r hb
 have key : ∀ b : Nat, rowsT b = some r → b = 0 ∧ r = punchedZ.map (fun n => Value.int .u8 n) ∨ b = 3 ∧ r = pow10Z.map (fun n => Value.int .u64 n) := by
  intro b hb
  unfold rowsT at hb
  split at hb
  ·cases hb; exact .inl ⟨rfl, rfl⟩
  ·cases hb; exact .inr ⟨rfl, rfl⟩
  ·cases hb
 have t5 : Tryz.prog.cellsOf 5 = 1 := by kernel_rfl
 rcases key b hb with ⟨rfl, rfl⟩ | ⟨rfl, rfl⟩
 ·have hr : Lib.VarReads Tryz.prog W "pliant/picture.punched" (Lib.tabData .u8 punchedZ) := Lib.laidMet.reads h (by unfold laidL Rows.pictureEditsRow; exact .tail _ (.tail _ (.tail _ (.tail _ (.tail _ (.tail _ (.head _)))))))
  exact tab_is hr (g := 0) (t := 91) (n := 20) (e := 5) (by kernel_rfl) (by kernel_rfl) (by kernel_rfl) (by kernel_rfl) t5 (by kernel_rfl)
 ·have hr : Lib.VarReads Tryz.prog W "internal/strconv.uint64pow10" (Lib.tabData .u64 pow10Z) := Lib.laidMet.reads h (by unfold laidL Rows.pictureEditsRow; exact .tail _ (.tail _ (.head _)))
  exact tab_is hr (g := 3) (t := 168) (n := 20) (e := 94) (by kernel_rfl) (by kernel_rfl) (by kernel_rfl) (by kernel_rfl) (by kernel_rfl) (by kernel_rfl)
def OpensP (P : Program) (t : TypeId) (α : Type) [Enc α] (Q : α → Prop) : Prop :=
 ∀ {H : Type} {enc : TypeId × Value → H} {w : World} {base : Nat} {spare : Nat → Bool} {held : Bool} {r : Reach} {b0 : Nat} {v : Value} {d : DataW H} {p : List MemPlace}, Value.okWide P w r b0 t v → DataW.Trod enc P w base spare held t v d p →
  ∃ a : α, v = Enc.enc a ∧ Q a ∧ p = [] ∧ ∀ (w' : World) (b' : Nat) (sp' : Nat → Bool) (hd' : Bool), DataW.Trod enc P w' b' sp' hd' t v d []
theorem opensP_string {P : Program} {t : TypeId} (ht : P.underlying t = some .string) : OpensP P t ByteArray fun s => s.size ≤ 9223372036854775807 := by
 intro H enc w base spare held r b0 v d p hv h
 obtain ⟨n, rfl, rfl, rfl, hw⟩ := open_string ht hv h
 exact ⟨n, rfl, Nat.le_trans hw (by decide), rfl, fun w' b' sp' hd' => shut_string ht hw⟩
theorem oS : OpensP Tryz.prog 9 ByteArray fun s => s.size ≤ 9223372036854775807 := opensP_string Tryz.underlying9
theorem opensP_int {P : Program} {t : TypeId} (ht : P.underlying t = some (.int .i64)) : OpensP P t Int fun n => -9223372036854775808 ≤ n ∧ n ≤ 9223372036854775807 := by
 intro H enc w base spare held r b0 v d p hv h
 obtain ⟨n, rfl, rfl, rfl, hw⟩ := open_int ht hv h
 exact ⟨n, rfl, by simpa [Lit.wf, IntKind.min, IntKind.max, IntKind.signed, IntKind.bits] using hw, rfl, fun w' b' sp' hd' => shut_int ht hw⟩
theorem oI : OpensP Tryz.prog 3 Int fun n => -9223372036854775808 ≤ n ∧ n ≤ 9223372036854775807 := opensP_int Tryz.underlying3
theorem opensP_bool {P : Program} {t : TypeId} (ht : P.underlying t = some .bool) : OpensP P t Bool fun _ => True := by
 intro H enc w base spare held r b0 v d p hv h
 obtain ⟨n, rfl, rfl, rfl⟩ := open_bool ht hv h
 exact ⟨n, rfl, trivial, rfl, fun w' b' sp' hd' => shut_bool ht n⟩
theorem oB : OpensP Tryz.prog 4 Bool fun _ => True := opensP_bool Tryz.underlying4
theorem opensP_u8 {P : Program} {t : TypeId} (ht : P.underlying t = some (.int .u8)) : OpensP P t U8 fun c => 0 ≤ c.n ∧ c.n ≤ 255 := by
 intro H enc w base spare held r b0 v d p hv h
 obtain ⟨n, rfl, rfl, rfl, hw⟩ := open_int ht hv h
 exact ⟨⟨n⟩, rfl, by simpa [Lit.wf, IntKind.min, IntKind.max, IntKind.signed, IntKind.bits] using hw, rfl, fun w' b' sp' hd' => shut_int ht hw⟩
theorem oC : OpensP Tryz.prog 5 U8 fun c => 0 ≤ c.n ∧ c.n ≤ 255 := opensP_u8 Tryz.underlying5
theorem plain_laid : ∀ w, laidMetH Tryz.prog laidL w = laidMet Tryz.prog laidL w := fun w => MakeChecks.laidMetH_plain _ _ _ (by kernel_rfl)
theorem jf_mk {P : Program} {f : FuncId} {fn : Func} {s : ChangeSpec} {c : OpenClaim} (hA : (c.wf (OpenSpec.ofChange s) && laidOutB P && mapsRowed P && fn.params.all (P.readableRec ·) && namedTie P c.named s.vars && (c.stops == []) && (P.stops == []) && (c.knobs == []) && (P.stopKnobs == [])) = true)
  (h1 : (c.inPlace == P.inPlace f) = true) (h2 : (c.unfollowed == P.unfollowed f) = true) (h3 : (c.recurses == P.recurses f) = true) (h4 : (c.named == P.varsNamed f) = true)
  (hR : ((c.maps == (fn.params.toList ++ s.plain.varTypes P).any (P.mapsRec ·)) && (c.ifaces == (fn.params.toList ++ s.plain.varTypes P).any (P.ifacesRec ·)) && (c.mapsOut == P.mapsAmong fn.resultTypes.toList) && (c.loops == (fn.params.toList ++ s.plain.varTypes P).any (P.loopsFrom ·)) && (c.wideKeys == (fn.params.toList ++ s.plain.varTypes P ++ fn.resultTypes.toList).any (P.wideKeysFrom ·)) && s.vars.all (P.varReadable ·) && fn.resultTypes.all (fun t => P.readableRec t && decide (t < P.types.size)) && (c.ifacesOut == fn.resultTypes.toList.any (P.ifacesRec ·)) && (c.loopsOut == fn.resultTypes.toList.any (P.loopsFrom ·)) && (c.plainKeys == P.plainKeys) && c.shortTexts.isNone && P.stopsHeard && P.mayEnter && (c.lifted == P.liftsFinal) && (P.make == some c.make) && (c.kinds == (if c.domain.isEmpty then [] else fn.params.toList.map fun t => match P.underlying t with | some (.int k) => some k | _ => none)) && (c.pinned == c.pinnedBy) && (c.veiled == (fn.params.toList ++ s.plain.varTypes P ++ fn.resultTypes.toList).any (P.veiledRec ·)) && c.veiledFits P fn.params.toList (fn.params.toList ++ s.plain.varTypes P ++ fn.resultTypes.toList)) = true) : joinedFacts P f fn s c = true := by
 unfold joinedFacts
 rw [hA, h1, h2, h3, h4]
 simp only [Bool.true_and]
 exact hR
theorem main_is : Tryz.pinned.checked.prog.mainIs = some (true, ("1071b1b82e10af2d54fdefa34d8f8e5a24ee595ac523bd215b5ede5d74a6a811" : String).toList) := by kernel_rfl
theorem looks_is : true = Tryz.pinned.checked.prog.looks [] := by kernel_rfl
end Go.Px
end
noncomputable section
namespace Go.Px
open Go Go.Ab Go.Proofs Go.Shelf Go.ChangeMaps Go.ChangeShapes Go.WideShapes Go.ChangeAt Go.RowKit Go.Joins
open Go.Proofs.YtheglfmhbfngkaaGreatDoor
def SlB (w : World) (v : Value) : Prop := v = .slice none 0 0 ∨
 ∃ b off n cap c, v = .slice (some ⟨b, off, none⟩) n cap ∧ b < w.heap.size ∧ (vwOK c n && Nat.ble n 9223372036854775807) = true ∧ ∀ i x, c[i]? = some x → w.cell? ⟨b, off + i, none⟩ = some x
theorem rd42 : Tryz.prog.readableRec 42 = true ∧ 42 < Tryz.prog.types.size := ⟨by kernel_rfl, of_decide_eq_true (by kernel_rfl)⟩
theorem rd44 : Tryz.prog.readableRec 44 = true ∧ 44 < Tryz.prog.types.size := ⟨by kernel_rfl, of_decide_eq_true (by kernel_rfl)⟩
theorem rd57 : Tryz.prog.readableRec 57 = true ∧ 57 < Tryz.prog.types.size := ⟨by kernel_rfl, of_decide_eq_true (by kernel_rfl)⟩
theorem rd3 : Tryz.prog.readableRec 3 = true ∧ 3 < Tryz.prog.types.size := ⟨by kernel_rfl, of_decide_eq_true (by kernel_rfl)⟩
theorem laid_ok : laidOutB Tryz.prog = true := by kernel_rfl
theorem cel3 : Tryz.prog.cellsOf 3 = 1 := by kernel_rfl
theorem cel5 : Tryz.prog.cellsOf 5 = 1 := by kernel_rfl
theorem cel9 : Tryz.prog.cellsOf 9 = 1 := by kernel_rfl
theorem cel42 : Tryz.prog.cellsOf 42 = 1 := by kernel_rfl
theorem cel44 : Tryz.prog.cellsOf 44 = 5 := by kernel_rfl
theorem cel57 : Tryz.prog.cellsOf 57 = 4 := by kernel_rfl
theorem ct44 : Tryz.prog.cellTypes Tryz.prog.depth 44 = some [9, 9, 3, 3, 42] := by kernel_rfl
theorem ct57 : Tryz.prog.cellTypes Tryz.prog.depth 57 = some [42, 42, 9, 9] := by kernel_rfl
set_option maxRecDepth 100000 in
theorem cell_has {w : World} {base : Nat} {a : Addr} {len cap : Nat} (h : Cell.okWide Tryz.prog w .any base 42 (.slice (some a) len cap)) : a.spot = none ∧ a.block < w.heap.size := by
 simp only [Cell.okWide, Tryz.underlying42, Cell.ok] at h
 obtain ⟨_, _, _, hs, row, cells, hsh, _⟩ := h
 refine ⟨hs, ?_⟩
 unfold World.shape? at hsh
 split at hsh
 ·rename_i hq
  exact (Array.getElem?_eq_some_iff.1 hq).1
 ·cases hsh
section
variable {H : Type} {enc : TypeId × Value → H} {w : World} {base : Nat}
set_option maxRecDepth 100000 in
theorem cell_slB {v : Value} {fuel : Nat} {x : DataW H × List MemPlace} (hv : Cell.okWide Tryz.prog w .any base 42 v) (h : DataW.trod enc Tryz.prog w 0 (fun _ => true) true fuel 42 [v] = some x) : SlB w v := by
 rcases open_ints Tryz.underlying42 Tryz.underlying5 cel5 h with ⟨h1, _⟩ | ⟨a, len, cap, zs, h1, hb, hl, hm, hz, _, hc, hwf⟩
 ·exact .inl (by simpa using h1)
 ·right
  have h1 : v = .slice (some a) len cap := by simpa using h1
  subst h1
  obtain ⟨hs, hlt⟩ := cell_has hv
  obtain ⟨b, off, sp⟩ := a
  simp only at hs hlt
  subst hs
  simp only [if_true] at hz
  have hL : (zs.take len).length = len := by rw [List.length_take]; omega
  refine ⟨b, off, len, cap, cz (zs.take len), rfl, hlt, ?_, fun i y hi => ?_⟩
  ·rw [Bool.and_eq_true_iff]
   refine ⟨vwOK_iff.2 ⟨cz_isBytes _, by rw [cz_length, hL], ?_⟩, Nat.ble_eq_true_of_le (Nat.le_trans hl (Nat.le_trans hm (by decide)))⟩
   rw [show (cz (zs.take len)).map iv = zs.take len by simp [cz, Function.comp_def, iv]]
   intro c hcm
   have := hwf c (List.mem_of_mem_take hcm)
   simp [Lit.wf, IntKind.min, IntKind.max, IntKind.signed, IntKind.bits] at this
   omega
  ·have hi' : i < len := by
    have := (List.getElem?_eq_some_iff.1 hi).1
    rw [cz_length, hL] at this
    exact this
   have q := hc i (by omega)
   have add : (⟨b, off, none⟩ : Addr).add i = ⟨b, off + i, none⟩ := by unfold Addr.add; split <;> simp_all
   rw [add] at q
   rw [q]
   rw [cz, List.getElem?_map, List.getElem?_take_of_lt hi', List.getElem?_eq_getElem (by omega)] at hi
   have hi := Option.some.inj hi
   rw [List.getD_eq_getElem?_getD, List.getElem?_eq_getElem (by omega)]
   rw [← hi]
   rfl
set_option maxRecDepth 100000 in
theorem open42 {v : Value} {d : DataW H} {p : List MemPlace} (hv : Value.okWide Tryz.prog w .any base 42 v) (h : DataW.Trod enc Tryz.prog w 0 (fun _ => true) true 42 v d p) : SlB w v := by
 obtain ⟨a, len, cap, rfl⟩ := okWide_slice (e := 5) Tryz.underlying42 hv
 obtain ⟨fuel, h⟩ := h
 simp only [Value.okWide, Tryz.underlying42] at hv
 exact cell_slB hv h
set_option maxRecDepth 100000 in
theorem open44 {v : Value} {d : DataW H} {p : List MemPlace} (hv : Value.okWide Tryz.prog w .any base 44 v) (h : DataW.Trod enc Tryz.prog w 0 (fun _ => true) true 44 v d p) :
  ∃ s t n q h, v = .agg ⟨[.string s, .string t, .int .i64 n, .int .i64 q, h]⟩ ∧ s.size ≤ 9223372036854775807 ∧ t.size ≤ 9223372036854775807 ∧ (-9223372036854775808 ≤ n ∧ n ≤ 9223372036854775807) ∧ SlB w h := by
 obtain ⟨fuel, h⟩ := h
 simp only [Value.okWide, Tryz.underlying44] at hv
 obtain ⟨cs, rfl, hsz, ts, hts, _, hc⟩ := hv
 obtain ⟨l⟩ := cs
 rw [ct44] at hts
 obtain rfl := Option.some.inj hts
 simp only [cel44, List.size_toArray] at hsz
 match l, hsz with
 | [x0, x1, x2, x3, x4], _ =>
  obtain ⟨xs, n, _, _, _, hlen, hf⟩ := DataW.trod_struct Tryz.underlying44 h
  match xs, hlen with
  | [y0, y1, y2, y3, y4], _ =>
   have f0 : DataW.trod enc Tryz.prog w 0 (fun _ => true) true n 9 (([x0, x1, x2, x3, x4].drop 0).take (Tryz.prog.cellsOf 9)) = some y0 := hf 0 _ rfl
   rw [cel9] at f0
   have f1 : DataW.trod enc Tryz.prog w 0 (fun _ => true) true n 9 (([x0, x1, x2, x3, x4].drop 1).take (Tryz.prog.cellsOf 9)) = some y1 := hf 1 _ rfl
   rw [cel9] at f1
   have f2 : DataW.trod enc Tryz.prog w 0 (fun _ => true) true n 3 (([x0, x1, x2, x3, x4].drop 2).take (Tryz.prog.cellsOf 3)) = some y2 := hf 2 _ rfl
   rw [cel3] at f2
   have f3 : DataW.trod enc Tryz.prog w 0 (fun _ => true) true n 3 (([x0, x1, x2, x3, x4].drop 3).take (Tryz.prog.cellsOf 3)) = some y3 := hf 3 _ rfl
   rw [cel3] at f3
   have f4 : DataW.trod enc Tryz.prog w 0 (fun _ => true) true n 42 (([x0, x1, x2, x3, x4].drop 4).take (Tryz.prog.cellsOf 42)) = some y4 := hf 4 _ rfl
   rw [cel42] at f4
   obtain ⟨s, e0, _, hs⟩ := DataW.trod_string Tryz.underlying9 f0
   obtain ⟨t, e1, _, ht⟩ := DataW.trod_string Tryz.underlying9 f1
   obtain ⟨n, e2, _, hn⟩ := DataW.trod_int Tryz.underlying3 f2
   obtain ⟨q, e3, _, _⟩ := DataW.trod_int Tryz.underlying3 f3
   obtain ⟨u, hu, h4⟩ := hc 4 x4 rfl
   obtain rfl : 42 = u := Option.some.inj hu
   obtain rfl : x0 = .string s := by simpa using e0
   obtain rfl : x1 = .string t := by simpa using e1
   obtain rfl : x2 = .int .i64 n := by simpa using e2
   obtain rfl : x3 = .int .i64 q := by simpa using e3
   exact ⟨s, t, n, q, x4, rfl, Nat.le_trans hs (by decide), Nat.le_trans ht (by decide), by simpa [Lit.wf, IntKind.min, IntKind.max, IntKind.signed, IntKind.bits] using hn, cell_slB h4 f4⟩
set_option maxRecDepth 100000 in
theorem open57 {v : Value} {d : DataW H} {p : List MemPlace} (hv : Value.okWide Tryz.prog w .any base 57 v) (h : DataW.Trod enc Tryz.prog w 0 (fun _ => true) true 57 v d p) :
  ∃ a b s t, v = .agg ⟨[a, b, .string s, .string t]⟩ ∧ s.size ≤ 9223372036854775807 ∧ t.size ≤ 9223372036854775807 ∧ SlB w a ∧ SlB w b := by
 obtain ⟨fuel, h⟩ := h
 simp only [Value.okWide, Tryz.underlying57] at hv
 obtain ⟨cs, rfl, hsz, ts, hts, _, hc⟩ := hv
 obtain ⟨l⟩ := cs
 rw [ct57] at hts
 obtain rfl := Option.some.inj hts
 simp only [cel57, List.size_toArray] at hsz
 match l, hsz with
 | [x0, x1, x2, x3], _ =>
  obtain ⟨xs, n, _, _, _, hlen, hf⟩ := DataW.trod_struct Tryz.underlying57 h
  match xs, hlen with
  | [y0, y1, y2, y3], _ =>
   have f0 : DataW.trod enc Tryz.prog w 0 (fun _ => true) true n 42 (([x0, x1, x2, x3].drop 0).take (Tryz.prog.cellsOf 42)) = some y0 := hf 0 _ rfl
   rw [cel42] at f0
   have f1 : DataW.trod enc Tryz.prog w 0 (fun _ => true) true n 42 (([x0, x1, x2, x3].drop 1).take (Tryz.prog.cellsOf 42)) = some y1 := hf 1 _ rfl
   rw [cel42] at f1
   have f2 : DataW.trod enc Tryz.prog w 0 (fun _ => true) true n 9 (([x0, x1, x2, x3].drop 2).take (Tryz.prog.cellsOf 9)) = some y2 := hf 2 _ rfl
   rw [cel9] at f2
   have f3 : DataW.trod enc Tryz.prog w 0 (fun _ => true) true n 9 (([x0, x1, x2, x3].drop 3).take (Tryz.prog.cellsOf 9)) = some y3 := hf 3 _ rfl
   rw [cel9] at f3
   obtain ⟨s, e2, _, hs⟩ := DataW.trod_string Tryz.underlying9 f2
   obtain ⟨t, e3, _, ht⟩ := DataW.trod_string Tryz.underlying9 f3
   obtain ⟨u, hu, h0⟩ := hc 0 x0 rfl
   obtain rfl : 42 = u := Option.some.inj hu
   obtain ⟨u, hu, h1⟩ := hc 1 x1 rfl
   obtain rfl : 42 = u := Option.some.inj hu
   obtain rfl : x2 = .string s := by simpa using e2
   obtain rfl : x3 = .string t := by simpa using e3
   exact ⟨x0, x1, s, t, rfl, Nat.le_trans hs (by decide), Nat.le_trans ht (by decide), cell_slB h0 f0, cell_slB h1 f1⟩
end
theorem one_lk {w : World} {b off n : Nat} {c : List Value} (hb : b < w.heap.size) (hv : (vwOK c n && Nat.ble n 9223372036854775807) = true) (hc : ∀ i x, c[i]? = some x → w.cell? ⟨b, off + i, none⟩ = some x) :
  ∀ k bl, vw c 5 k = some bl → k < 2 ∧ bl.own = false ∧ plainL bl.c = true ∧ (((fun _ => (b, off)) : Nm) k).1 < w.heap.size ∧ ∀ i v, bl.c[i]? = some v → w.cell? ⟨(((fun _ => (b, off)) : Nm) k).1, (((fun _ => (b, off)) : Nm) k).2 + i, none⟩ = some v := by
 intro k bl hk
 obtain ⟨rfl, rfl⟩ := vw_get hk
 rw [Bool.and_eq_true_iff] at hv
 exact ⟨by decide, rfl, isBytes_plain (vwOK_iff.1 hv.1).bytes, hb, hc⟩
end Go.Px
end
noncomputable section
namespace Go.Px
open Go Go.Ab Go.Proofs
def nm2 (a b : Nat × Nat) : Nm := fun k => match k with | 0 => a | _ => b
theorem vwS_get {c : List Value} {k : Nat} {b : Blk} (h : vwS c k = some b) : k = 1 ∧ b = ⟨c, 5, false⟩ := by
 simp only [vwS] at h
 split at h
 ·rename_i hk
  cases h
  exact ⟨Nat.eq_of_beq_eq_true hk, rfl⟩
 ·cases h
section
variable {w : World} {b off n : Nat} {c : List Value} (hb : b < w.heap.size) (hv : (vwOK c n && Nat.ble n 9223372036854775807) = true) (hc : ∀ i x, c[i]? = some x → w.cell? ⟨b, off + i, none⟩ = some x)
include hb hv hc
theorem oneS_lk : ∀ k bl, vwS c k = some bl → k < 2 ∧ bl.own = false ∧ plainL bl.c = true ∧ (((fun _ => (b, off)) : Nm) k).1 < w.heap.size ∧ ∀ i v, bl.c[i]? = some v → w.cell? ⟨(((fun _ => (b, off)) : Nm) k).1, (((fun _ => (b, off)) : Nm) k).2 + i, none⟩ = some v := by
 intro k bl hk
 obtain ⟨rfl, rfl⟩ := vwS_get hk
 rw [Bool.and_eq_true_iff] at hv
 exact ⟨by decide, rfl, isBytes_plain (vwOK_iff.1 hv.1).bytes, hb, hc⟩
theorem two_lk {b2 off2 n2 : Nat} {c2 : List Value} (hb2 : b2 < w.heap.size) (hv2 : (vwOK c2 n2 && Nat.ble n2 9223372036854775807) = true) (hc2 : ∀ i x, c2[i]? = some x → w.cell? ⟨b2, off2 + i, none⟩ = some x) :
  ∀ k bl, vw2 c c2 5 k = some bl → k < 2 ∧ bl.own = false ∧ plainL bl.c = true ∧ (nm2 (b, off) (b2, off2) k).1 < w.heap.size ∧ ∀ i v, bl.c[i]? = some v → w.cell? ⟨(nm2 (b, off) (b2, off2) k).1, (nm2 (b, off) (b2, off2) k).2 + i, none⟩ = some v := by
 intro k bl hk
 rw [Bool.and_eq_true_iff] at hv hv2
 rcases vw2_get hk with ⟨rfl, rfl⟩ | ⟨rfl, rfl⟩
 ·exact ⟨by decide, rfl, isBytes_plain (vwOK_iff.1 hv.1).bytes, hb, hc⟩
 ·exact ⟨by decide, rfl, isBytes_plain (vwOK_iff.1 hv2.1).bytes, hb2, hc2⟩
end
end Go.Px
end
section

end
