/-
  The run and the laws that serve these rows (part 4)
-/
import Derived.Test.YtheglfmhbfngkaaGreatDoorR3
set_option linter.unusedVariables false
set_option linter.unusedSimpArgs false
noncomputable section
set_option maxHeartbeats 3200000
namespace Go.Px
open Go Go.Ab Go.Proofs Go.Shelf
theorem cuN_lt (n q sc d : Int) (sg : Bool) : ((cuN n q sc d sg).natAbs : Int) < tenZ d.toNat := by
 have hm := Int.emod_nonneg (cuM n q sc) (b := tenZ d.toNat) (by have := tenZ_pos d.toNat; omega)
 have hl := Int.emod_lt_of_pos (cuM n q sc) (tenZ_pos d.toNat)
 unfold cuN cuV
 split <;> omega
theorem wr_use {s : ByteArray} (h : pN (bz s) = true) {k cap : Nat} {d : List Value} (hR : rowIOK d k cap = true) (hz : zc d k = rolF (pS (bz s))) {m : Int} (hm : (m.natAbs : Int) < tenZ (pD (bz s)).toNat) :
  w64C (sz (pS (bz s))) (sz (digZ m.natAbs (pD (bz s)).toNat)) k cap (pW (bz s)) (fdFl (pS (bz s))) d = true ∧
  wrV (bz (sz (pS (bz s)))) (pW (bz s)) (nD (bodyZ (pS (bz s)))).2.2 (crZ (pS (bz s))) (drZ (bodyZ (pS (bz s)))) (fdFl (pS (bz s))) (cntZ (mkGo (drZ (bodyZ (pS (bz s)))) false (bodyZ (pS (bz s)))) 100) (zc d k) (bz (sz (digZ m.natAbs (pD (bz s)).toNat))) (decide (m < 0)) =
   (fieldZ (pS (bz s)) (pW (bz s)) (pD (bz s)).toNat m, fdLe (pS (bz s)) (pW (bz s)) (pD (bz s)).toNat m) := by
 have hl := pS_len s
 have hr := rowIOK_iff.1 hR
 have hk : k = (pS (bz s)).length := by rw [← rol_len h, ← hz, zi_length hr]
 have b1 : bz (sz (pS (bz s))) = pS (bz s) := bz_sz hl.1
 have hdd := digZ_dg (pD (bz s)).toNat m.natAbs
 have b2 : bz (sz (digZ m.natAbs (pD (bz s)).toNat)) = digZ m.natAbs (pD (bz s)).toNat := bz_sz (dg_isB hdd)
 have z1 : (sz (pS (bz s))).size = (pS (bz s)).length := by rw [← bz_length, b1]
 have z2 : (sz (digZ m.natAbs (pD (bz s)).toNat)).size = (pD (bz s)).toNat := by rw [← bz_length, b2, digZ_len]
 obtain ⟨f1, _, f3, _⟩ := pic_facts hl h
 have hp := pD_rng h
 have hw := pN_ok hl h 0
 refine ⟨?_, by rw [b1, b2, hz]; exact wr_law hl h hm⟩
 simp only [w64C, Bool.and_eq_true, decide_eq_true_eq]
 rw [hz, b2, z1, z2, f3]
 refine ⟨hR, ?_, hdd, ⟨by omega, by omega, by omega, by omega, hw.2.2.2.1, by omega⟩, by omega, ?_⟩
 ·simp only [roOK, List.all_eq_true, decide_eq_true_eq]
  exact fun r hr => by have := f1 r hr; omega
 ·unfold fdFl
  split
  ·exact .inr rfl
  ·exact .inl rfl
def s20 (n : Int) (q : Int) (s : ByteArray) : Bool × Value := (decide (s.size ≤ 9223372036854775807 ∧ -9223372036854775808 ≤ n ∧ n ≤ 9223372036854775807), .tuple ⟨[.string (sz (edS (bz s) n q)), .bool (edF (bz s) n q), .int .i64 (edE (bz s) q)]⟩)
theorem fn20 : Fn1 Tryz.prog 20 Tryz.f20 := ⟨Tryz.func20, by kernel_rfl, by kernel_rfl, by kernel_rfl⟩
theorem v20 (n : Int) (q : Int) (s : ByteArray) (R : Value → Prop) : bodyQ Tryz.prog G37 noL Tryz.f20 [Enc.enc n, Enc.enc q, Enc.enc s] (fun _ => none) 0 (fun v _ _ => R v) = ( bif decide (ByteArray.size s ≤ 9223372036854775807) then bif pN (bz s) then ∀ (k cap : Nat) (d : List Value), rowIOK d k cap = true → zc d k = rolF (pS (bz s)) → bif decide (q < 0) || true then bif decide (q < 0) || decide (q > 9) then R (.tuple (.mk [.string (ByteArray.mk #[]), .bool false, .int .i64 1])) else bif i64B n && (decide (0 ≤ q ∧ q ≤ 9) && (decide (0 ≤ pQ (bz s) ∧ pQ (bz s) ≤ 9) && decide (0 ≤ pD (bz s) ∧ pD (bz s) ≤ 9))) then bif rowIOK d k cap && (roOK (zc d k) && (dgL (bz (sz (digZ (↑(Int.natAbs (cuN n q (pQ (bz s)) (pD (bz s)) (pG (bz s)))) : Int) (Int.toNat (pD (bz s)))))) && decide ((k ≤ 1000 ∧ ByteArray.size (sz (digZ (↑(Int.natAbs (cuN n q (pQ (bz s)) (pD (bz s)) (pG (bz s)))) : Int) (Int.toNat (pD (bz s))))) ≤ 1000 ∧ k ≤ ByteArray.size (sz (pS (bz s))) ∧ ByteArray.size (sz (pS (bz s))) ≤ 1000 ∧ 0 ≤ pW (bz s) ∧ pW (bz s) ≤ 1000) ∧ cdg (zc d k) ≤ (↑(ByteArray.size (sz (digZ (↑(Int.natAbs (cuN n q (pQ (bz s)) (pD (bz s)) (pG (bz s)))) : Int) (Int.toNat (pD (bz s)))))) : Int) ∧ (fdFl (pS (bz s)) = 32 ∨ fdFl (pS (bz s)) = 42)))) then ∀ (t : ByteArray) (l : Int), sz (Prod.fst (wrV (bz (sz (pS (bz s)))) (pW (bz s)) (Prod.snd (Prod.snd (nD (bodyZ (pS (bz s)))))) (crZ (pS (bz s))) (drZ (bodyZ (pS (bz s)))) (fdFl (pS (bz s))) (↑(cntZ (mkGo (drZ (bodyZ (pS (bz s)))) false (bodyZ (pS (bz s)))) 100) : Int) (zc d k) (bz (sz (digZ (↑(Int.natAbs (cuN n q (pQ (bz s)) (pD (bz s)) (pG (bz s)))) : Int) (Int.toNat (pD (bz s)))))) (decide (cuN n q (pQ (bz s)) (pD (bz s)) (pG (bz s)) < 0)))) = t → Prod.snd (wrV (bz (sz (pS (bz s)))) (pW (bz s)) (Prod.snd (Prod.snd (nD (bodyZ (pS (bz s)))))) (crZ (pS (bz s))) (drZ (bodyZ (pS (bz s)))) (fdFl (pS (bz s))) (↑(cntZ (mkGo (drZ (bodyZ (pS (bz s)))) false (bodyZ (pS (bz s)))) 100) : Int) (zc d k) (bz (sz (digZ (↑(Int.natAbs (cuN n q (pQ (bz s)) (pD (bz s)) (pG (bz s)))) : Int) (Int.toNat (pD (bz s)))))) (decide (cuN n q (pQ (bz s)) (pD (bz s)) (pG (bz s)) < 0))) = l → R (.tuple (.mk [.string t, .bool (cuF n q (pQ (bz s)) (pD (bz s)) (pG (bz s))), .int .i64 0])) else False else False else False else R (.tuple (.mk [.string (ByteArray.mk #[]), .bool false, .int .i64 30])) else False) := by kernel_rfl
theorem ok20 : PureOK Tryz.prog 20 (sp3 s20) := by
 refine qure3 ok_G37 hmix fn20 lokf_none (Nat.le_of_ble_eq_true (by kernel_rfl)) fun n q s hc => ?_
 rw [DoesQ, v20]
 have hc : (s.size ≤ 9223372036854775807 ∧ -9223372036854775808 ≤ n ∧ n ≤ 9223372036854775807) := of_decide_eq_true hc
 try dsimp only [s20]
 refine c_t (decide_eq_true hc.1) (cond_intro (fun h => ?_) (fun h => ?_))
 ·intro k cap d hR hz
  refine c_t (by simp) (cond_intro (fun hq => ?_) (fun hq => ?_))
  ·have hq : q < 0 ∨ q > 9 := by simpa using hq
   have h1 : ¬ (0 ≤ q ∧ q ≤ 9) := by omega
   rw [edS, edF, edE, if_neg (fun e => h1 ⟨e.2.1, e.2.2⟩), if_neg (fun e => h1 ⟨e.2.1, e.2.2⟩), if_pos h, if_neg h1, sz_nil]
  ·have hq : 0 ≤ q ∧ q ≤ 9 := by
    simp only [Bool.or_eq_false_iff, decide_eq_false_iff_not] at hq
    omega
   have hp := pD_rng h
   obtain ⟨g1, g2⟩ := wr_use h hR hz (cuN_lt n q (pQ (bz s)) (pD (bz s)) (pG (bz s)))
   refine c_t (by simp only [i64B, Bool.and_eq_true, decide_eq_true_eq]; omega) (c_t g1 fun t l h1 h2 => ?_)
   rw [g2] at h1 h2
   rw [edS, edF, edE, if_pos ⟨h, hq⟩, if_pos ⟨h, hq⟩, if_pos h, if_pos hq, ← h1]
 ·have h1 : ¬ pN (bz s) = true := by rw [h]; simp
  rw [edS, edF, edE, if_neg (fun e => h1 e.1), if_neg (fun e => h1 e.1), if_neg h1, sz_nil]
end Go.Px
end
noncomputable section
set_option maxHeartbeats 3200000
namespace Go.Px
open Go Go.Ab Go.Proofs Go.Shelf
theorem unK_dig {c : Int} (h1 : c ≥ 48) (h2 : c ≤ 57) : unK c = false := by
 cases h : unK c with
 | false => rfl
 | true =>
  have := hasZ_iff.1 h
  simp only [punchedZ, List.mem_cons, List.not_mem_nil, or_false] at this
  omega
def gsGo : List Int → List Int → List Int
 | [], _ => []
 | r :: rs, cs => bif r == 2 then gsGo rs cs else bif r != 0 && r != 1 then gsGo rs cs.tail else (48 + rdD (cs.headD 0)) :: gsGo rs cs.tail
def V67_0 : ByteArray × ByteArray × Rw × Int × Nat × Nat × Int × Int × List Value → List Value := fun (t, r4, o, aa, k2, cap2, L, i, d) => [.string t, .string r4, o.v 200, .int .i64 aa, .slice (some ⟨1, 0, some 1⟩) k2 cap2, .int .i64 L, .int .i64 i]
def B67_0 : ByteArray × ByteArray × Rw × Int × Nat × Nat × Int × Int × List Value → List (Option Blk) := fun (t, r4, o, aa, k2, cap2, L, i, d) => [some ⟨d, 102, false⟩, o.b]
def S67_0 : LSpecA (ByteArray × ByteArray × Rw × Int × Nat × Nat × Int × Int × List Value) where
 live := [1, 4, 5, 6, 16, 17, 18]
 mid := [1, 200]
 n := 210
 ap := [(.tmp 5, 200)]
 dec vs bs := match vs, bs with | [.string t, .string r4, .slice none 0 0, .int .i64 aa, .slice (some ⟨1, 0, some 1⟩) k2 cap2, .int .i64 L, .int .i64 i], [some ⟨d, 102, false⟩, none] => some (t, r4, .nil, aa, k2, cap2, L, i, d) | [.string t, .string r4, .slice (some ⟨200, 0, some 1⟩) om oc, .int .i64 aa, .slice (some ⟨1, 0, some 1⟩) k2 cap2, .int .i64 L, .int .i64 i], [some ⟨d, 102, false⟩, some ⟨od, 5, true⟩] => some (t, r4, .own od om oc, aa, k2, cap2, L, i, d) | _, _ => none
 pre := fun (t, r4, o, aa, k2, cap2, L, i, d) => o.ok && (rowIOK d k2 cap2 && decide (0 ≤ i ∧ i ≤ k2 ∧ k2 ≤ 1000 ∧ L = k2 ∧ 0 ≤ aa ∧ aa ≤ i ∧ aa + cN ((zc d k2).drop i.toNat) ≤ t.size ∧ o.z.length ≤ i))
 fin := fun (t, r4, o, aa, k2, cap2, L, i, d) Z => (o.is = false → gsGo ((zc d k2).drop i.toNat) ((bz t).drop aa.toNat) = [] → ∀ a' i', Z (.exit 0) [.string t, .string r4, .slice none 0 0, .int .i64 a', .slice (some ⟨1, 0, some 1⟩) k2 cap2, .int .i64 L, .int .i64 i'] [some ⟨d, 102, false⟩, none]) ∧ (∀ a' i' od' om' oc', rowOK od' om' oc' = true → zc od' om' = o.z ++ gsGo ((zc d k2).drop i.toNat) ((bz t).drop aa.toNat) → Z (.exit 0) [.string t, .string r4, .slice (some ⟨200, 0, some 1⟩) om' oc', .int .i64 a', .slice (some ⟨1, 0, some 1⟩) k2 cap2, .int .i64 L, .int .i64 i'] [some ⟨d, 102, false⟩, some ⟨od', 5, true⟩])
theorem r67_0n (t : ByteArray) (r4 : ByteArray) (aa : Int) (k2 : Nat) (cap2 : Nat) (L : Int) (i : Int) (d : List Value) (jk : Tmps) (R : Exit → List Value → List (Option Blk) → Prop) : (codeQ Tryz.prog G37 noL Tryz.f67.ntmps (loopOf Tryz.f67 0) (tl S67_0.live (V67_0 (t, r4, .nil, aa, k2, cap2, L, i, d)) jk) (ml S67_0.mid (B67_0 (t, r4, .nil, aa, k2, cap2, L, i, d))) S67_0.n fun e t' m' _ => S67_0.out R e t' m') = ( bif decide (i < L) then bif decide (0 ≤ i ∧ i < (↑k2 : Int)) then bif isIntAt IntKind.i64 d (0 + Int.toNat i * 1) then bif intAt d (0 + Int.toNat i * 1) == 2 then bif goodL [] d && true && true then R Exit.normal [.string t, .string r4, .slice none 0 0, .int .i64 aa, .slice (some (.mk 1 0 (some 1))) k2 cap2, .int .i64 L, .int .i64 (IntKind.wrap .i64 (i + 1))] [some (.mk (rlbL [] d) 102 false), none] else False else bif decide (0 ≤ aa ∧ aa < (↑(ByteArray.size t) : Int)) then bif intAt d (0 + Int.toNat i * 1) != 0 || true then bif intAt d (0 + Int.toNat i * 1) != 0 && intAt d (0 + Int.toNat i * 1) != 1 then bif goodL [] d && true && true then R Exit.normal [.string t, .string r4, .slice none 0 0, .int .i64 (IntKind.wrap .i64 (aa + 1)), .slice (some (.mk 1 0 (some 1))) k2 cap2, .int .i64 L, .int .i64 (IntKind.wrap .i64 (i + 1))] [some (.mk (rlbL [] d) 102 false), none] else False else bif decide (byteAt t (Int.toNat aa) ≥ 48) || true then bif decide (byteAt t (Int.toNat aa) ≥ 48) && decide (byteAt t (Int.toNat aa) ≤ 57) then ∀ (cap : Nat) (tail : List Value), tailOK tail cap 1 1 = true → bif goodL [(248, 200)] d && (goodL [(248, 200)] (.int .u8 (byteAt t (Int.toNat aa)) :: tail) && true) && true then R Exit.normal [.string t, .string r4, .slice (some (.mk 200 0 (some 1))) 1 cap, .int .i64 (IntKind.wrap .i64 (aa + 1)), .slice (some (.mk 1 0 (some 1))) k2 cap2, .int .i64 L, .int .i64 (IntKind.wrap .i64 (i + 1))] [some (.mk (rlbL [(248, 200)] d) 102 false), some (.mk (rlbL [(248, 200)] (.int .u8 (byteAt t (Int.toNat aa)) :: tail)) 5 true)] else False else bif unK (byteAt t (Int.toNat aa)) then ∀ (cap : Nat) (tail : List Value), tailOK tail cap 1 1 = true → bif goodL [(252, 200)] d && (goodL [(252, 200)] (.int .u8 (IntKind.wrap .u8 (48 + IntKind.wrap .u8 (unD (byteAt t (Int.toNat aa))))) :: tail) && true) && true then R Exit.normal [.string t, .string r4, .slice (some (.mk 200 0 (some 1))) 1 cap, .int .i64 (IntKind.wrap .i64 (aa + 1)), .slice (some (.mk 1 0 (some 1))) k2 cap2, .int .i64 L, .int .i64 (IntKind.wrap .i64 (i + 1))] [some (.mk (rlbL [(252, 200)] d) 102 false), some (.mk (rlbL [(252, 200)] (.int .u8 (IntKind.wrap .u8 (48 + IntKind.wrap .u8 (unD (byteAt t (Int.toNat aa))))) :: tail)) 5 true)] else False else ∀ (cap : Nat) (tail : List Value), tailOK tail cap 1 1 = true → bif goodL [(249, 200)] d && (goodL [(249, 200)] (.int .u8 48 :: tail) && true) && true then R Exit.normal [.string t, .string r4, .slice (some (.mk 200 0 (some 1))) 1 cap, .int .i64 (IntKind.wrap .i64 (aa + 1)), .slice (some (.mk 1 0 (some 1))) k2 cap2, .int .i64 L, .int .i64 (IntKind.wrap .i64 (i + 1))] [some (.mk (rlbL [(249, 200)] d) 102 false), some (.mk (rlbL [(249, 200)] (.int .u8 48 :: tail)) 5 true)] else False else False else False else False else False else False else bif goodL [] d && true && true then R (Exit.exit 0) [.string t, .string r4, .slice none 0 0, .int .i64 aa, .slice (some (.mk 1 0 (some 1))) k2 cap2, .int .i64 L, .int .i64 i] [some (.mk (rlbL [] d) 102 false), none] else False) := by kernel_rfl
theorem r67_0o (t : ByteArray) (r4 : ByteArray) (od : List Value) (om : Nat) (oc : Nat) (aa : Int) (k2 : Nat) (cap2 : Nat) (L : Int) (i : Int) (d : List Value) (jk : Tmps) (R : Exit → List Value → List (Option Blk) → Prop) : (codeQ Tryz.prog G37 noL Tryz.f67.ntmps (loopOf Tryz.f67 0) (tl S67_0.live (V67_0 (t, r4, (.own od om oc), aa, k2, cap2, L, i, d)) jk) (ml S67_0.mid (B67_0 (t, r4, (.own od om oc), aa, k2, cap2, L, i, d))) S67_0.n fun e t' m' _ => S67_0.out R e t' m') = ( bif decide (i < L) then bif decide (0 ≤ i ∧ i < (↑k2 : Int)) then bif isIntAt IntKind.i64 d (0 + Int.toNat i * 1) then bif intAt d (0 + Int.toNat i * 1) == 2 then bif goodL [(200, 200)] d && (goodL [(200, 200)] od && true) && true then R Exit.normal [.string t, .string r4, .slice (some (.mk 200 0 (some 1))) om oc, .int .i64 aa, .slice (some (.mk 1 0 (some 1))) k2 cap2, .int .i64 L, .int .i64 (IntKind.wrap .i64 (i + 1))] [some (.mk (rlbL [(200, 200)] d) 102 false), some (.mk (rlbL [(200, 200)] od) 5 true)] else False else bif decide (0 ≤ aa ∧ aa < (↑(ByteArray.size t) : Int)) then bif intAt d (0 + Int.toNat i * 1) != 0 || true then bif intAt d (0 + Int.toNat i * 1) != 0 && intAt d (0 + Int.toNat i * 1) != 1 then bif goodL [(200, 200)] d && (goodL [(200, 200)] od && true) && true then R Exit.normal [.string t, .string r4, .slice (some (.mk 200 0 (some 1))) om oc, .int .i64 (IntKind.wrap .i64 (aa + 1)), .slice (some (.mk 1 0 (some 1))) k2 cap2, .int .i64 L, .int .i64 (IntKind.wrap .i64 (i + 1))] [some (.mk (rlbL [(200, 200)] d) 102 false), some (.mk (rlbL [(200, 200)] od) 5 true)] else False else bif decide (byteAt t (Int.toNat aa) ≥ 48) || true then bif decide (byteAt t (Int.toNat aa) ≥ 48) && decide (byteAt t (Int.toNat aa) ≤ 57) then bif Nat.beq (List.length od) (oc * 1) && Nat.ble om oc && Nat.ble oc 9223372036854775807 && true && fitsA (om + 1) 1 then ∀ (cap : Nat) (tail : List Value), tailOK tail cap (om + 1) 1 = true → bif goodL [(248, 200)] d && (goodL [(248, 200)] (List.take (om * 1) od ++ [.int .u8 (byteAt t (Int.toNat aa))] ++ tail) && true) && true then R Exit.normal [.string t, .string r4, .slice (some (.mk 200 0 (some 1))) (om + 1) cap, .int .i64 (IntKind.wrap .i64 (aa + 1)), .slice (some (.mk 1 0 (some 1))) k2 cap2, .int .i64 L, .int .i64 (IntKind.wrap .i64 (i + 1))] [some (.mk (rlbL [(248, 200)] d) 102 false), some (.mk (rlbL [(248, 200)] (List.take (om * 1) od ++ [.int .u8 (byteAt t (Int.toNat aa))] ++ tail)) 5 true)] else False else False else bif unK (byteAt t (Int.toNat aa)) then bif Nat.beq (List.length od) (oc * 1) && Nat.ble om oc && Nat.ble oc 9223372036854775807 && true && fitsA (om + 1) 1 then ∀ (cap : Nat) (tail : List Value), tailOK tail cap (om + 1) 1 = true → bif goodL [(252, 200)] d && (goodL [(252, 200)] (List.take (om * 1) od ++ [.int .u8 (IntKind.wrap .u8 (48 + IntKind.wrap .u8 (unD (byteAt t (Int.toNat aa)))))] ++ tail) && true) && true then R Exit.normal [.string t, .string r4, .slice (some (.mk 200 0 (some 1))) (om + 1) cap, .int .i64 (IntKind.wrap .i64 (aa + 1)), .slice (some (.mk 1 0 (some 1))) k2 cap2, .int .i64 L, .int .i64 (IntKind.wrap .i64 (i + 1))] [some (.mk (rlbL [(252, 200)] d) 102 false), some (.mk (rlbL [(252, 200)] (List.take (om * 1) od ++ [.int .u8 (IntKind.wrap .u8 (48 + IntKind.wrap .u8 (unD (byteAt t (Int.toNat aa)))))] ++ tail)) 5 true)] else False else False else bif Nat.beq (List.length od) (oc * 1) && Nat.ble om oc && Nat.ble oc 9223372036854775807 && true && fitsA (om + 1) 1 then ∀ (cap : Nat) (tail : List Value), tailOK tail cap (om + 1) 1 = true → bif goodL [(249, 200)] d && (goodL [(249, 200)] (List.take (om * 1) od ++ [.int .u8 48] ++ tail) && true) && true then R Exit.normal [.string t, .string r4, .slice (some (.mk 200 0 (some 1))) (om + 1) cap, .int .i64 (IntKind.wrap .i64 (aa + 1)), .slice (some (.mk 1 0 (some 1))) k2 cap2, .int .i64 L, .int .i64 (IntKind.wrap .i64 (i + 1))] [some (.mk (rlbL [(249, 200)] d) 102 false), some (.mk (rlbL [(249, 200)] (List.take (om * 1) od ++ [.int .u8 48] ++ tail)) 5 true)] else False else False else False else False else False else False else False else bif goodL [(200, 200)] d && (goodL [(200, 200)] od && true) && true then R (Exit.exit 0) [.string t, .string r4, .slice (some (.mk 200 0 (some 1))) om oc, .int .i64 aa, .slice (some (.mk 1 0 (some 1))) k2 cap2, .int .i64 L, .int .i64 i] [some (.mk (rlbL [(200, 200)] d) 102 false), some (.mk (rlbL [(200, 200)] od) 5 true)] else False) := by kernel_rfl
theorem l67_0 : LOKf Tryz.prog (oneL 0 S67_0.hA) Tryz.f67 := by
 refine lokf_one (h := S67_0.hA) (by kernel_rfl) (loop_specA ok_G37 hmix (by kernel_rfl) (lok_none _) S67_0 V67_0 B67_0 (fun (t, r4, o, aa, k2, cap2, L, i, d) => (k2 - i).toNat) ?_ ?_ ?_)
 ·intro vs bs s h
  simp only [S67_0] at h
  split at h
  all_goals first | (cases h; exact ⟨rfl, rfl⟩) | cases h | (split at h <;> first | (rename_i hq; cases h; have hq := Nat.eq_of_beq_eq_true hq; subst hq; exact ⟨rfl, rfl⟩) | cases h)
 ·exact fun ⟨t, r4, o, aa, k2, cap2, L, i, d⟩ hp => by
   simp only [S67_0, Bool.and_eq_true] at hp
   have hr := rowIOK_iff.1 hp.2.1
   cases o with
   | nil => simp [V67_0, B67_0, S67_0, idsLt, idsLtB, idsL, ids, Rw.v, Rw.b, ids_plainL hr.plain]
   | own od om oc => simp [V67_0, B67_0, S67_0, idsLt, idsLtB, idsL, ids, Rw.v, Rw.b, ids_plainL hr.plain, ids_plainL (rowOK_iff.1 hp.1).plain]
 ·intro ⟨t, r4, o, aa, k2, cap2, L, i, d⟩ jk Z hp hf
  simp only [S67_0] at hp hf
  cases o with
  | nil =>
   rw [r67_0n]
   simp only [Bool.and_eq_true, decide_eq_true_eq] at hp
   obtain ⟨-, hR, hp⟩ := hp
   have hr := rowIOK_iff.1 hR
   simp only [Rw.z, List.length_nil] at hp hf
   have e0 : 0 + i.toNat * 1 = i.toNat := by omega
   rw [e0]
   refine cond_intro (fun h => ?_) (fun h => ?_)
   ·have h := of_decide_eq_true h
    obtain ⟨a1, a3⟩ := hr.at hp.1 (by omega)
    rw [a3, gsGo] at hf
    rw [a3, cN] at hp
    have hc := cN_nn ((zc d k2).drop (i + 1).toNat)
    rw [a1, w64 (n := i + 1) (by omega), w64 (n := aa + 1) (by omega)]
    generalize intAt d i.toNat = r at *
    refine c_t (decide_eq_true (by omega)) (c_t rfl (cond_intro (fun q => ?_) (fun q => ?_)))
    ·rw [q, cond_true] at hf hp
     refine c_t (by rw [hr.good]; rfl) ?_
     rw [hr.rlb]
     exact ⟨(t, r4, .nil, aa, k2, cap2, L, i + 1, d), rfl, rfl, by simp only [S67_0, Bool.and_eq_true, decide_eq_true_eq]; exact ⟨rfl, hR, by simp only [Rw.z, List.length_nil]; omega⟩, by simp only; omega, hf⟩
    ·rw [q, cond_false] at hf hp
     obtain ⟨p1, p2, p3, p4, p5, p6, p7, p8⟩ := hp
     rw [bz_at p5 (by omega), List.headD_cons, List.tail_cons] at hf
     have hB := byte_rng t aa.toNat
     generalize byteAt t aa.toNat = c at *
     have hu : 0 ≤ unD c ∧ unD c ≤ 9 := by unfold unD; split <;> omega
     rw [w8 (n := unD c) (by omega), w8 (n := 48 + unD c) (by omega)]
     refine c_t (decide_eq_true (by omega)) (c_t (by simp) (cond_intro (fun q2 => ?_) (fun q2 => c_t (by simp) (cond_intro (fun q3 => ?_) (fun q3 => cond_intro (fun q4 => ?_) (fun q4 => ?_))))))
     ·rw [q2, cond_true] at hf
      refine c_t (by rw [hr.good]; rfl) ?_
      rw [hr.rlb]
      exact ⟨(t, r4, .nil, aa + 1, k2, cap2, L, i + 1, d), rfl, rfl, by simp only [S67_0, Bool.and_eq_true, decide_eq_true_eq]; exact ⟨rfl, hR, by simp only [Rw.z, List.length_nil]; omega⟩, by simp only; omega, hf⟩
     ·rw [q2, cond_false] at hf
      intro cap1 tail ht
      obtain ⟨h1, h2⟩ : RowP (Value.int IntKind.u8 (c) :: tail) 1 cap1 ∧ zc (Value.int IntKind.u8 (c) :: tail) 1 = [c] := row_new [c] ht
      have hl1 := zc_length h1
      generalize Value.int IntKind.u8 (c) :: tail = od' at *
      have e : 48 + rdD c = c := by
       have q := q3
       simp only [Bool.and_eq_true, decide_eq_true_eq] at q
       unfold rdD
       rw [unK_dig q.1 q.2, q3]
       simp only [cond_true, cond_false]
       omega
      rw [e] at hf
      refine c_t (by rw [hr.good, h1.good]; rfl) ?_
      rw [hr.rlb, h1.rlb]
      exact ⟨(t, r4, .own od' (1) cap1, aa + 1, k2, cap2, L, i + 1, d), rfl, rfl, by simp only [S67_0, Bool.and_eq_true, decide_eq_true_eq]; exact ⟨rowOK_iff.2 h1, hR, by simp only [Rw.z, hl1]; omega⟩, by simp only; omega, ⟨fun q => (by cases q), fun a' i' od'' om'' oc'' g1 g2 => hf.2 a' i' od'' om'' oc'' g1 (by rw [g2]; simp only [Rw.z, h2, List.append_assoc, List.cons_append, List.nil_append])⟩⟩
     ·rw [q2, cond_false] at hf
      intro cap1 tail ht
      obtain ⟨h1, h2⟩ : RowP (Value.int IntKind.u8 (48 + unD c) :: tail) 1 cap1 ∧ zc (Value.int IntKind.u8 (48 + unD c) :: tail) 1 = [48 + unD c] := row_new [48 + unD c] ht
      have hl1 := zc_length h1
      generalize Value.int IntKind.u8 (48 + unD c) :: tail = od' at *
      have e : 48 + rdD c = 48 + unD c := by
       unfold rdD
       rw [q4]
       rfl
      rw [e] at hf
      refine c_t (by rw [hr.good, h1.good]; rfl) ?_
      rw [hr.rlb, h1.rlb]
      exact ⟨(t, r4, .own od' (1) cap1, aa + 1, k2, cap2, L, i + 1, d), rfl, rfl, by simp only [S67_0, Bool.and_eq_true, decide_eq_true_eq]; exact ⟨rowOK_iff.2 h1, hR, by simp only [Rw.z, hl1]; omega⟩, by simp only; omega, ⟨fun q => (by cases q), fun a' i' od'' om'' oc'' g1 g2 => hf.2 a' i' od'' om'' oc'' g1 (by rw [g2]; simp only [Rw.z, h2, List.append_assoc, List.cons_append, List.nil_append])⟩⟩
     ·rw [q2, cond_false] at hf
      intro cap1 tail ht
      obtain ⟨h1, h2⟩ : RowP (Value.int IntKind.u8 (48) :: tail) 1 cap1 ∧ zc (Value.int IntKind.u8 (48) :: tail) 1 = [48] := row_new [48] ht
      have hl1 := zc_length h1
      generalize Value.int IntKind.u8 (48) :: tail = od' at *
      have e : 48 + rdD c = 48 := by
       unfold rdD
       rw [q4, q3]
       rfl
      rw [e] at hf
      refine c_t (by rw [hr.good, h1.good]; rfl) ?_
      rw [hr.rlb, h1.rlb]
      exact ⟨(t, r4, .own od' (1) cap1, aa + 1, k2, cap2, L, i + 1, d), rfl, rfl, by simp only [S67_0, Bool.and_eq_true, decide_eq_true_eq]; exact ⟨rowOK_iff.2 h1, hR, by simp only [Rw.z, hl1]; omega⟩, by simp only; omega, ⟨fun q => (by cases q), fun a' i' od'' om'' oc'' g1 g2 => hf.2 a' i' od'' om'' oc'' g1 (by rw [g2]; simp only [Rw.z, h2, List.append_assoc, List.cons_append, List.nil_append])⟩⟩
   ·have h := of_decide_eq_false h
    rw [hr.end (by omega), gsGo] at hf
    refine c_t (by rw [hr.good]; rfl) ?_
    rw [hr.rlb]
    exact hf.1 rfl rfl aa i
  | own od om oc =>
   rw [r67_0o]
   simp only [Bool.and_eq_true, decide_eq_true_eq] at hp
   obtain ⟨ho, hR, hp⟩ := hp
   have hr := rowIOK_iff.1 hR
   have ho := rowOK_iff.1 ho
   have hzl := zc_length ho
   simp only [Rw.z, hzl] at hp hf
   have e0 : 0 + i.toNat * 1 = i.toNat := by omega
   rw [e0]
   refine cond_intro (fun h => ?_) (fun h => ?_)
   ·have h := of_decide_eq_true h
    obtain ⟨a1, a3⟩ := hr.at hp.1 (by omega)
    rw [a3, gsGo] at hf
    rw [a3, cN] at hp
    have hc := cN_nn ((zc d k2).drop (i + 1).toNat)
    rw [a1, w64 (n := i + 1) (by omega), w64 (n := aa + 1) (by omega)]
    generalize intAt d i.toNat = r at *
    refine c_t (decide_eq_true (by omega)) (c_t rfl (cond_intro (fun q => ?_) (fun q => ?_)))
    ·rw [q, cond_true] at hf hp
     refine c_t (by rw [hr.good, ho.good]; rfl) ?_
     rw [hr.rlb, ho.rlb]
     exact ⟨(t, r4, .own od om oc, aa, k2, cap2, L, i + 1, d), rfl, rfl, by simp only [S67_0, Bool.and_eq_true, decide_eq_true_eq]; exact ⟨rowOK_iff.2 ho, hR, by simp only [Rw.z, hzl]; omega⟩, by simp only; omega, hf⟩
    ·rw [q, cond_false] at hf hp
     obtain ⟨p1, p2, p3, p4, p5, p6, p7, p8⟩ := hp
     rw [bz_at p5 (by omega), List.headD_cons, List.tail_cons] at hf
     have hB := byte_rng t aa.toNat
     generalize byteAt t aa.toNat = c at *
     have hu : 0 ≤ unD c ∧ unD c ≤ 9 := by unfold unD; split <;> omega
     rw [w8 (n := unD c) (by omega), w8 (n := 48 + unD c) (by omega)]
     refine c_t (decide_eq_true (by omega)) (c_t (by simp) (cond_intro (fun q2 => ?_) (fun q2 => c_t (by simp) (cond_intro (fun q3 => ?_) (fun q3 => cond_intro (fun q4 => ?_) (fun q4 => ?_))))))
     ·rw [q2, cond_true] at hf
      refine c_t (by rw [hr.good, ho.good]; rfl) ?_
      rw [hr.rlb, ho.rlb]
      exact ⟨(t, r4, .own od om oc, aa + 1, k2, cap2, L, i + 1, d), rfl, rfl, by simp only [S67_0, Bool.and_eq_true, decide_eq_true_eq]; exact ⟨rowOK_iff.2 ho, hR, by simp only [Rw.z, hzl]; omega⟩, by simp only; omega, hf⟩
     ·rw [q2, cond_false] at hf
      refine c_t (ho.ask (k := 1) (by omega)) (fun cap1 tail ht => ?_)
      obtain ⟨h1, h2⟩ := ho.app1 (c) ht
      have hl1 := zc_length h1
      generalize List.take (om * 1) od ++ [Value.int IntKind.u8 (c)] ++ tail = od' at *
      have e : 48 + rdD c = c := by
       have q := q3
       simp only [Bool.and_eq_true, decide_eq_true_eq] at q
       unfold rdD
       rw [unK_dig q.1 q.2, q3]
       simp only [cond_true, cond_false]
       omega
      rw [e] at hf
      refine c_t (by rw [hr.good, h1.good]; rfl) ?_
      rw [hr.rlb, h1.rlb]
      exact ⟨(t, r4, .own od' (om + 1) cap1, aa + 1, k2, cap2, L, i + 1, d), rfl, rfl, by simp only [S67_0, Bool.and_eq_true, decide_eq_true_eq]; exact ⟨rowOK_iff.2 h1, hR, by simp only [Rw.z, hl1]; omega⟩, by simp only; omega, ⟨fun q => (by cases q), fun a' i' od'' om'' oc'' g1 g2 => hf.2 a' i' od'' om'' oc'' g1 (by rw [g2]; simp only [Rw.z, h2, List.append_assoc, List.cons_append, List.nil_append])⟩⟩
     ·rw [q2, cond_false] at hf
      refine c_t (ho.ask (k := 1) (by omega)) (fun cap1 tail ht => ?_)
      obtain ⟨h1, h2⟩ := ho.app1 (48 + unD c) ht
      have hl1 := zc_length h1
      generalize List.take (om * 1) od ++ [Value.int IntKind.u8 (48 + unD c)] ++ tail = od' at *
      have e : 48 + rdD c = 48 + unD c := by
       unfold rdD
       rw [q4]
       rfl
      rw [e] at hf
      refine c_t (by rw [hr.good, h1.good]; rfl) ?_
      rw [hr.rlb, h1.rlb]
      exact ⟨(t, r4, .own od' (om + 1) cap1, aa + 1, k2, cap2, L, i + 1, d), rfl, rfl, by simp only [S67_0, Bool.and_eq_true, decide_eq_true_eq]; exact ⟨rowOK_iff.2 h1, hR, by simp only [Rw.z, hl1]; omega⟩, by simp only; omega, ⟨fun q => (by cases q), fun a' i' od'' om'' oc'' g1 g2 => hf.2 a' i' od'' om'' oc'' g1 (by rw [g2]; simp only [Rw.z, h2, List.append_assoc, List.cons_append, List.nil_append])⟩⟩
     ·rw [q2, cond_false] at hf
      refine c_t (ho.ask (k := 1) (by omega)) (fun cap1 tail ht => ?_)
      obtain ⟨h1, h2⟩ := ho.app1 (48) ht
      have hl1 := zc_length h1
      generalize List.take (om * 1) od ++ [Value.int IntKind.u8 (48)] ++ tail = od' at *
      have e : 48 + rdD c = 48 := by
       unfold rdD
       rw [q4, q3]
       rfl
      rw [e] at hf
      refine c_t (by rw [hr.good, h1.good]; rfl) ?_
      rw [hr.rlb, h1.rlb]
      exact ⟨(t, r4, .own od' (om + 1) cap1, aa + 1, k2, cap2, L, i + 1, d), rfl, rfl, by simp only [S67_0, Bool.and_eq_true, decide_eq_true_eq]; exact ⟨rowOK_iff.2 h1, hR, by simp only [Rw.z, hl1]; omega⟩, by simp only; omega, ⟨fun q => (by cases q), fun a' i' od'' om'' oc'' g1 g2 => hf.2 a' i' od'' om'' oc'' g1 (by rw [g2]; simp only [Rw.z, h2, List.append_assoc, List.cons_append, List.nil_append])⟩⟩
   ·have h := of_decide_eq_false h
    rw [hr.end (by omega), gsGo] at hf
    refine c_t (by rw [hr.good, ho.good]; rfl) ?_
    rw [hr.rlb, ho.rlb]
    exact hf.2 aa i od om oc (rowOK_iff.2 ho) (by simp)
end Go.Px
end
noncomputable section
set_option maxHeartbeats 3200000
namespace Go.Px
open Go Go.Ab Go.Proofs Go.Shelf
theorem v67 (s : ByteArray) (nb : Bool) (w : Int) (dg : Int) (sc : Int) (sg : Bool) (k : Nat) (cap : Nat) (dr : Int) (f : Int) (cr : Bool) (fl : Int) (fm : Int) (t : ByteArray) (d : List Value) (R : Value → Prop) : (bodyQ Tryz.prog G37 (oneL 0 S67_0.hA) Tryz.f67 [.pointer (some ⟨0, 0, some 0⟩), .string t] (vwF2 (fmL s nb w dg sc sg 1 k cap dr f cr fl fm) d) 2 (fun v _ _ => R v)) = ( bif goodL [] d && true && true && (idsLt 210 (rlbL [] d) && true) then bif LSpec.pre (LSpecA.toLSpec S67_0) (t, ByteArray.mk #[], Rw.nil, 0, k, cap, natO k, 0, rlbL [] d) then (Rw.is Rw.nil = false → gsGo (List.drop (Int.toNat 0) (zc (rlbL [] d) k)) (List.drop (Int.toNat 0) (bz t)) = [] → ∀ (a' i' : Int), bif idsLt 210 (rlbL [] d) && true then ∀ (x : Tmps), R (.string ByteArray.empty) else False) ∧ ∀ (a' i' : Int) (od' : List Value) (om' oc' : Nat), rowOK od' om' oc' = true → zc od' om' = Rw.z Rw.nil ++ gsGo (List.drop (Int.toNat 0) (zc (rlbL [] d) k)) (List.drop (Int.toNat 0) (bz t)) → bif idsLt 210 (rlbL [] d) && (idsLt 210 od' && true) then ∀ (x : Tmps), bif bytesOK od' 0 om' then R (.string (bytesOf od' 0 om')) else False else False else False else False) := by kernel_rfl
theorem fn67 : Fn1 Tryz.prog 67 Tryz.f67 := ⟨Tryz.func67, by kernel_rfl, by kernel_rfl, by kernel_rfl⟩
theorem w_67 (s : ByteArray) (nb : Bool) (w : Int) (dg : Int) (sc : Int) (sg : Bool) (k : Nat) (cap : Nat) (dr : Int) (f : Int) (cr : Bool) (fl : Int) (fm : Int) (t : ByteArray) (d : List Value) (hR : rowIOK d k cap = true) (hk : k ≤ 1000) (hc : cN (zc d k) ≤ t.size)
  {R : Value → Prop} (hV : R (.string (sz (gsGo (zc d k) (bz t))))) :
  DoesM Tryz.prog G37 (oneL 0 S67_0.hA) Tryz.f67 [.pointer (some ⟨0, 0, some 0⟩), .string t] (vwF2 (fmL s nb w dg sc sg 1 k cap dr f cr fl fm) d) 2 (fun v _ _ => R v) := by
 rw [DoesM, v67]
 have h := rowIOK_iff.1 hR
 have z0 : Int.toNat 0 = 0 := rfl
 have hg : (goodL [] d && true && true && (idsLt 210 d && true)) = true := by rw [h.good]; simp [idsLt, idsL, ids_plainL h.plain]
 have hg' : (goodL [] d && true && (idsLt 210 d && true)) = true := by rw [h.good]; simp [idsLt, idsL, ids_plainL h.plain]
 have hi : (idsLt 210 d && true) = true := by simp [idsLt, idsL, ids_plainL h.plain]
 simp only [h.rlb, z0, List.drop_zero]
 refine c_t (by first | exact hg | exact hg') (c_t ?_ ⟨fun _ hn a' i' => c_t hi fun _ => ?_, fun a' i' od om oc g1 g2 => ?_⟩)
 ·show (Rw.nil.ok && (rowIOK d k cap && decide ((0 : Int) ≤ 0 ∧ (0 : Int) ≤ k ∧ k ≤ 1000 ∧ natO k = k ∧ (0 : Int) ≤ 0 ∧ (0 : Int) ≤ 0 ∧ 0 + cN ((zc d k).drop (Int.toNat 0)) ≤ t.size ∧ ((Rw.nil.z.length : Nat) : Int) ≤ 0))) = true
  rw [hR, natO_eq, z0, List.drop_zero]
  simp only [Bool.true_and, Rw.ok, Rw.z, List.length_nil, decide_eq_true_eq]
  exact ⟨by omega, by omega, by omega, trivial, by omega, by omega, by omega, by omega⟩
 ·rw [hn] at hV
  exact hV
 ·have ho := rowOK_iff.1 g1
  have hio : (idsLt 210 d && (idsLt 210 od && true)) = true := by simp [idsLt, idsL, ids_plainL h.plain, ids_plainL ho.plain]
  have s3 := ho.str
  have g3 : zc od om = gsGo (zc d k) (bz t) := by rw [g2]; rfl
  rw [g3] at s3
  exact c_t hio fun _ => c_t s3.1 (by rw [s3.2]; exact hV)
def h67 : List Value → Lk → Nat → (Value → Lk → Nat → Prop) → Prop := fun args m n K => match args with
 | [.pointer (some ⟨a, 0, some 0⟩), .string t] => match m a with
  | some ⟨[.string s, .bool nb, .int .i64 w, .int .i64 dg, .int .i64 sc, .bool sg, .slice (some ⟨y, 0, some 1⟩) k cap, .int .u8 dr, .int .i64 f, .bool cr, .int .u8 fl, .int .i64 fm], 84, own⟩ => match m y with
   | some ⟨d, 102, own2⟩ => match cnd (rowIOK d k cap && decide (k ≤ 1000 ∧ cN (zc d k) ≤ t.size)) with
    | true => ∀ e : ByteArray, sz (gsGo (zc d k) (bz t)) = e → K (.string e) m n
    | false => False
   | _ => False
  | _ => False
 | _ => False
theorem h67_ok : GenOK Tryz.prog 67 h67 := by
 refine gen_sub ok_G37 hmix fn67 l67_0 fun args m n K h => ?_
 unfold h67 at h
 split at h
 case h_2 => exact h.elim
 rename_i a t
 split at h
 case h_2 => exact h.elim
 rename_i s nb w dg sc sg y k cap dr f cr fl fm own hm
 split at h
 case h_2 => exact h.elim
 rename_i d own2 hy
 split at h
 case h_2 => exact h.elim
 rename_i hc
 simp only [cnd, Bool.and_eq_true, decide_eq_true_eq] at hc
 obtain ⟨h1, h2, h3⟩ := hc
 refine ⟨[.pointer (some ⟨0, 0, some 0⟩), .string t], _, 2, rho2 a y, .string (sz (gsGo (zc d k) (bz t))), sub_F2 (rowIOK_iff.1 h1).plain hm hy, fun ι => by simp [ren, ren1, rho2], Nat.le_of_ble_eq_true (by kernel_rfl), fun v hv j hj => ?_, rfl,
  w_67 s nb w dg sc sg k cap dr f cr fl fm t d h1 h2 h3 (R := fun v => v = .string (sz (gsGo (zc d k) (bz t)))) rfl, h _ rfl⟩
 simp at hv
 rcases hv with rfl | rfl
 ·have : j = 0 := by simpa [ids] using hj
  omega
 ·simp [ids] at hj
end Go.Px
end
noncomputable section
set_option maxHeartbeats 3200000
namespace Go.Px
open Go Go.Ab Go.Proofs Go.Shelf
def V71_0 : ByteArray × Bool × List Value × Nat × Nat × Int × Int → List Value := fun (s, r, d, m, cap, L, i) => [S s, B r, .slice (some ⟨300, 0, some 1⟩) m cap, I L, I i]
def B71_0 : ByteArray × Bool × List Value × Nat × Nat × Int × Int → List (Option Blk) := fun (s, r, d, m, cap, L, i) => [some ⟨d, 5, false⟩]
def S71_0 : LSpecA (ByteArray × Bool × List Value × Nat × Nat × Int × Int) where
 live := [0, 4, 15, 16, 17]
 mid := [300]
 n := 310
 ap := [(.tmp 15, 300)]
 dec vs bs := match vs, bs with | [.string s, .bool r, .slice (some ⟨300, 0, some 1⟩) m cap, .int .i64 L, .int .i64 i], [some ⟨d, 5, false⟩] => some (s, r, d, m, cap, L, i) | _, _ => none
 pre := fun (s, r, d, m, cap, L, i) => vwOK d m && ((bz s).all (hasZ [65, 88, 57]) && decide (0 ≤ i ∧ i ≤ m ∧ L = m ∧ s.size = m ∧ m ≤ 1000))
 fin := fun (s, r, d, m, cap, L, i) Z => (bif onGo ((bz s).drop i.toNat) ((zc d m).drop i.toNat) then ∀ i', Z (.exit 0) [S s, B r, .slice (some ⟨300, 0, some 1⟩) m cap, I L, I i'] [some ⟨d, 5, false⟩] else ∀ i', Z .ret [S s, B false, .slice (some ⟨300, 0, some 1⟩) m cap, I L, I i'] [some ⟨d, 5, false⟩])
theorem r71_0 (s : ByteArray) (r : Bool) (d : List Value) (m : Nat) (cap : Nat) (L : Int) (i : Int) (jk : Tmps) (R : Exit → List Value → List (Option Blk) → Prop) : (codeQ Tryz.prog G37 noL Tryz.f71.ntmps (loopOf Tryz.f71 0) (tl S71_0.live (V71_0 (s, r, d, m, cap, L, i)) jk) (ml S71_0.mid (B71_0 (s, r, d, m, cap, L, i))) S71_0.n fun e t' m' _ => S71_0.out R e t' m') = ( bif decide (i < L) then bif decide (0 ≤ i ∧ i < (↑m : Int)) then bif isIntAt IntKind.u8 d (0 + Int.toNat i * 1) then bif decide (intAt d (0 + Int.toNat i * 1) ≥ 48) || true then bif bif decide (intAt d (0 + Int.toNat i * 1) ≥ 65) then decide (intAt d (0 + Int.toNat i * 1) ≤ 90) || (decide (intAt d (0 + Int.toNat i * 1) ≥ 97) || true) else decide (intAt d (0 + Int.toNat i * 1) ≥ 97) || true then bif decide (0 ≤ i ∧ i < (↑(ByteArray.size s) : Int)) && bif byteAt s (Int.toNat i) == 65 then bif !bif decide (intAt d (0 + Int.toNat i * 1) ≥ 65) then decide (intAt d (0 + Int.toNat i * 1) ≤ 90) || decide (intAt d (0 + Int.toNat i * 1) ≥ 97) && decide (intAt d (0 + Int.toNat i * 1) ≤ 122) else decide (intAt d (0 + Int.toNat i * 1) ≥ 97) && decide (intAt d (0 + Int.toNat i * 1) ≤ 122) then intAt d (0 + Int.toNat i * 1) != 32 || decide (0 ≤ i ∧ i < (↑(ByteArray.size s) : Int)) && bif byteAt s (Int.toNat i) == 57 then !(decide (intAt d (0 + Int.toNat i * 1) ≥ 48) && decide (intAt d (0 + Int.toNat i * 1) ≤ 57)) || true else true else decide (0 ≤ i ∧ i < (↑(ByteArray.size s) : Int)) && bif byteAt s (Int.toNat i) == 57 then !(decide (intAt d (0 + Int.toNat i * 1) ≥ 48) && decide (intAt d (0 + Int.toNat i * 1) ≤ 57)) || true else true else decide (0 ≤ i ∧ i < (↑(ByteArray.size s) : Int)) && bif byteAt s (Int.toNat i) == 57 then !(decide (intAt d (0 + Int.toNat i * 1) ≥ 48) && decide (intAt d (0 + Int.toNat i * 1) ≤ 57)) || true else true then bif bif byteAt s (Int.toNat i) == 65 then bif !bif decide (intAt d (0 + Int.toNat i * 1) ≥ 65) then decide (intAt d (0 + Int.toNat i * 1) ≤ 90) || decide (intAt d (0 + Int.toNat i * 1) ≥ 97) && decide (intAt d (0 + Int.toNat i * 1) ≤ 122) else decide (intAt d (0 + Int.toNat i * 1) ≥ 97) && decide (intAt d (0 + Int.toNat i * 1) ≤ 122) then intAt d (0 + Int.toNat i * 1) != 32 || byteAt s (Int.toNat i) == 57 && (!(decide (intAt d (0 + Int.toNat i * 1) ≥ 48) && decide (intAt d (0 + Int.toNat i * 1) ≤ 57)) && intAt d (0 + Int.toNat i * 1) != 32) else byteAt s (Int.toNat i) == 57 && (!(decide (intAt d (0 + Int.toNat i * 1) ≥ 48) && decide (intAt d (0 + Int.toNat i * 1) ≤ 57)) && intAt d (0 + Int.toNat i * 1) != 32) else byteAt s (Int.toNat i) == 57 && (!(decide (intAt d (0 + Int.toNat i * 1) ≥ 48) && decide (intAt d (0 + Int.toNat i * 1) ≤ 57)) && intAt d (0 + Int.toNat i * 1) != 32) then bif goodL [(300, 300)] d && true && true then R Exit.ret [.string s, .bool false, .slice (some (.mk 300 0 (some 1))) m cap, .int .i64 L, .int .i64 i] [some (.mk (rlbL [(300, 300)] d) 5 false)] else False else bif goodL [(300, 300)] d && true && true then R Exit.normal [.string s, .bool r, .slice (some (.mk 300 0 (some 1))) m cap, .int .i64 L, .int .i64 (IntKind.wrap .i64 (i + 1))] [some (.mk (rlbL [(300, 300)] d) 5 false)] else False else False else False else False else False else False else bif goodL [(300, 300)] d && true && true then R (Exit.exit 0) [.string s, .bool r, .slice (some (.mk 300 0 (some 1))) m cap, .int .i64 L, .int .i64 i] [some (.mk (rlbL [(300, 300)] d) 5 false)] else False) := by kernel_rfl
theorem l71_0 : LOKf Tryz.prog (oneL 0 S71_0.hA) Tryz.f71 := by
 refine lokf_one (h := S71_0.hA) (by kernel_rfl) (loop_specA ok_G37 hmix (by kernel_rfl) (lok_none _) S71_0 V71_0 B71_0 (fun (s, r, d, m, cap, L, i) => (m - i).toNat) ?_ ?_ ?_)
 ·intro vs bs s h
  simp only [S71_0] at h
  split at h
  all_goals first | (cases h; exact ⟨rfl, rfl⟩) | cases h | (split at h <;> first | (rename_i hq; cases h; have hq := Nat.eq_of_beq_eq_true hq; subst hq; exact ⟨rfl, rfl⟩) | cases h)
 ·exact fun ⟨s, r, d, m, cap, L, i⟩ hp => by
   simp only [S71_0, Bool.and_eq_true] at hp
   have hv := vwOK_iff.1 hp.1
   simp [V71_0, B71_0, S71_0, idsLt, idsLtB, idsL, ids, ids_plainL hv.plain]
 ·intro ⟨s, r, d, m, cap, L, i⟩ jk Z hp hf
  rw [r71_0]
  simp only [S71_0] at hp hf
  simp only [Bool.and_eq_true, decide_eq_true_eq] at hp
  obtain ⟨hV, hA, hp⟩ := hp
  have hv := vwOK_iff.1 hV
  have e0 : 0 + i.toNat * 1 = i.toNat := by omega
  rw [e0]
  simp only [hv.rlb]
  have hg : ∀ ps, (goodL ps d && true && true) = true := fun ps => by rw [goodL_plain hv.plain]; rfl
  refine cond_intro (fun h => ?_) (fun h => ?_)
  ·have h := of_decide_eq_true h
   obtain ⟨a1, a2, a3⟩ := hv.at hp.1 (by omega)
   have hcb : byteAt s i.toNat = 65 ∨ byteAt s i.toNat = 88 ∨ byteAt s i.toNat = 57 := by
    have hm : byteAt s i.toNat ∈ bz s := List.drop_subset i.toNat (bz s) (by rw [bz_at hp.1 (by omega)]; exact List.mem_cons_self)
    have := List.all_eq_true.1 hA _ hm
    have := hasZ_iff.1 this
    simp only [List.mem_cons, List.not_mem_nil, or_false] at this
    omega
   rw [bz_at hp.1 (by omega), a3, onGo] at hf
   rw [a1, w64 (n := i + 1) (by omega), decide_eq_true (show 0 ≤ i ∧ i < (m : Int) by omega), decide_eq_true (show 0 ≤ i ∧ i < (s.size : Int) by omega)]
   generalize intAt d i.toNat = b at *
   generalize byteAt s i.toNat = c at *
   have el : (bif decide (b ≥ 65) then decide (b ≤ 90) || decide (b ≥ 97) && decide (b ≤ 122) else decide (b ≥ 97) && decide (b ≤ 122)) = letZ b := by
    unfold letZ
    rw [Bool.eq_iff_iff]
    by_cases h1 : b ≥ 65 <;> simp [h1] <;> omega
   have ed : (decide (b ≥ 48) && decide (b ≤ 57)) = isDig b := by
    rw [Bool.eq_iff_iff]
    simp [isDig]
   rw [el, ed]
   have key : (bif c == 65 then bif !letZ b then b != 32 || c == 57 && (!isDig b && b != 32) else c == 57 && (!isDig b && b != 32) else c == 57 && (!isDig b && b != 32)) = !oneZ c b := by
    unfold oneZ
    rcases hcb with rfl | rfl | rfl <;> by_cases h2 : b = 32 <;> simp [h2] <;> cases letZ b <;> cases isDig b <;> simp
   rw [key]
   refine c_t rfl (c_t rfl (c_t (by simp) (c_t (by cases decide (b ≥ 65) <;> simp) (c_t (by cases c == 65 <;> cases !letZ b <;> cases c == 57 <;> simp) (cond_intro (fun q => c_t (hg _) ?_) (fun q => c_t (hg _) ?_))))))
   ·have q : oneZ c b = false := by simpa using q
    rw [q, Bool.false_and, cond_false] at hf
    exact hf i
   ·have q : oneZ c b = true := by simpa using q
    rw [q, Bool.true_and] at hf
    exact ⟨(s, r, d, m, cap, L, i + 1), rfl, rfl, by simp only [S71_0, Bool.and_eq_true, decide_eq_true_eq]; exact ⟨hV, hA, by omega⟩, by simp only; omega, hf⟩
  ·have h := of_decide_eq_false h
   have hz : (bz s).drop i.toNat = [] := List.drop_eq_nil_of_le (by rw [bz_length]; omega)
   rw [hv.end (by omega), hz] at hf
   exact c_t (hg _) (hf i)
end Go.Px
end
noncomputable section
set_option maxHeartbeats 3200000
namespace Go.Px
open Go Go.Ab Go.Proofs Go.Shelf
def s71 (s : ByteArray) (t : ByteArray) : Bool × Value := ((bz s).all (hasZ [65, 88, 57]) && decide (s.size ≤ 1000 ∧ t.size ≤ 9223372036854775807), .bool (decide ((t.size : Int) = s.size) && onGo (bz s) (bz t)))
theorem fn71 : Fn1 Tryz.prog 71 Tryz.f71 := ⟨Tryz.func71, by kernel_rfl, by kernel_rfl, by kernel_rfl⟩
theorem v71 (s : ByteArray) (t : ByteArray) (R : Value → Prop) : bodyQ Tryz.prog G37 (oneL 0 S71_0.hA) Tryz.f71 [Enc.enc s, Enc.enc t] (fun _ => none) 0 (fun v _ _ => R v) = ( bif (↑(ByteArray.size t) : Int) != (↑(ByteArray.size s) : Int) then R (.bool false) else ∀ (cap : Nat), Nat.ble (ByteArray.size t) cap = true → bif goodL [(7, 300)] (Lib.strCells t) && true && true && (idsLt 310 (rlbL [(7, 300)] (Lib.strCells t)) && true) then bif LSpec.pre (LSpecA.toLSpec S71_0) (s, false, rlbL [(7, 300)] (Lib.strCells t), ByteArray.size t, cap, natO (ByteArray.size t), 0) then bif onGo (List.drop (Int.toNat 0) (bz s)) (List.drop (Int.toNat 0) (zc (rlbL [(7, 300)] (Lib.strCells t)) (ByteArray.size t))) then ∀ (i' : Int), bif idsLt 310 (rlbL [(7, 300)] (Lib.strCells t)) && true then ∀ (x : Tmps), R (.bool true) else False else ∀ (i' : Int), bif idsLt 310 (rlbL [(7, 300)] (Lib.strCells t)) && true then ∀ (x : Tmps), R (.bool false) else False else False else False) := by kernel_rfl
theorem ok71 : PureOK Tryz.prog 71 (sp2 s71) := by
 refine qure2 ok_G37 hmix fn71 l71_0 (Nat.le_of_ble_eq_true (by kernel_rfl)) fun s t hc => ?_
 rw [DoesQ, v71]
 try dsimp only [s71]
 obtain ⟨hA, hc⟩ := Bool.and_eq_true_iff.1 hc
 have hc := of_decide_eq_true hc
 obtain ⟨hv, hz⟩ := vw_str t
 have hV := vwOK_iff.2 hv
 refine cond_intro (fun h => ?_) (fun h => fun cap _ => ?_)
 ·have h : ¬ (t.size : Int) = s.size := by simpa using h
  rw [decide_eq_false h]
  rfl
 ·have h : (t.size : Int) = s.size := by simpa using h
  have hg : (goodL [(7, 300)] (Lib.strCells t) && true && true && (idsLt 310 (Lib.strCells t) && true)) = true := by rw [goodL_plain hv.plain]; simp [idsLt, idsL, ids_plainL hv.plain]
  have hi : (idsLt 310 (Lib.strCells t) && true) = true := by simp [idsLt, idsL, ids_plainL hv.plain]
  have z0 : Int.toNat 0 = 0 := rfl
  simp only [hv.rlb, z0, List.drop_zero, hz]
  refine c_t hg (c_t ?_ ?_)
  ·show (vwOK (Lib.strCells t) t.size && ((bz s).all (hasZ [65, 88, 57]) && decide ((0 : Int) ≤ 0 ∧ (0 : Int) ≤ t.size ∧ natO t.size = t.size ∧ s.size = t.size ∧ t.size ≤ 1000))) = true
   rw [hV, hA, natO_eq]
   simp only [Bool.true_and, decide_eq_true_eq]
   exact ⟨by omega, by omega, trivial, by omega, by omega⟩
  ·rw [decide_eq_true h, Bool.true_and]
   refine cond_intro (fun q _ => c_t hi fun _ => by rw [q]) (fun q _ => c_t hi fun _ => by rw [q])
end Go.Px
end
noncomputable section
namespace Go.Px
open Go Go.Ab Go.Proofs Go.Shelf
theorem dec_from : ∀ (l : List UInt8) (a : Nat), dgL (zl l) = true → Lib.decFrom a l = some (numZ (zl l) a).toNat ∧ 0 ≤ numZ (zl l) a
 | [], a, _ => ⟨rfl, Int.natCast_nonneg a⟩
 | b :: r, a, h => by
  have h : dgL ((b.toNat : Int) :: zl r) = true := h
  have h1 : 48 ≤ b.toNat ∧ b.toNat ≤ 57 := by
   simp only [dgL, List.all_cons, Bool.and_eq_true, decide_eq_true_eq] at h
   omega
  have h2 : dgL (zl r) = true := by
   simp only [dgL, List.all_cons, Bool.and_eq_true] at h
   exact h.2
  obtain ⟨e1, e2⟩ := dec_from r (a * 10 + (b.toNat - 48)) h2
  have e : ((a * 10 + (b.toNat - 48) : Nat) : Int) = (a : Int) * 10 + ((b.toNat : Int) - 48) := by omega
  rw [e] at e1 e2
  have hd : Lib.digitVal b = some (b.toNat - 48) := by rw [Lib.digitVal, if_pos h1]
  refine ⟨?_, e2⟩
  rw [Lib.decFrom, hd]
  exact e1
theorem atoi_dig {s : ByteArray} (h0 : 1 ≤ s.size) (h : dgL (bz s) = true) : Lib.atoi s.data.toList = some (dval (bz s)) := by
 have hb : bz s = zl s.data.toList := rfl
 have hl : s.data.toList.length = s.size := rfl
 rw [hb] at h ⊢
 generalize s.data.toList = l at *
 cases l with
 | nil => simp at hl; omega
 | cons b r =>
  have h1 : 48 ≤ b.toNat ∧ b.toNat ≤ 57 := by
   have h : dgL ((b.toNat : Int) :: zl r) = true := h
   simp only [dgL, List.all_cons, Bool.and_eq_true, decide_eq_true_eq] at h
   omega
  have n45 : (b == 45) = false := by
   cases q : b == 45 with
   | false => rfl
   | true => have := eq_of_beq q; rw [this] at h1; revert h1; decide
  have n43 : (b == 43) = false := by
   cases q : b == 43 with
   | false => rfl
   | true => have := eq_of_beq q; rw [this] at h1; revert h1; decide
  obtain ⟨e1, e2⟩ := dec_from (b :: r) 0 h
  rw [Lib.atoi, n45, n43]
  show (Lib.decNat (b :: r)).map (fun m : Nat => (m : Int)) = _
  have : Lib.decNat (b :: r) = Lib.decFrom 0 (b :: r) := rfl
  rw [this, e1, Option.map_some, dval]
  congr 1
  exact Int.toNat_of_nonneg e2
def s68 (s : ByteArray) : Bool × Value := (decide (1 ≤ s.size ∧ s.size ≤ 18) && dgL (bz s), .tuple ⟨[.int .i64 (dval (bz s)), .nilIface]⟩)
theorem ok68 : PureOK Tryz.prog 68 (sp1 s68) := shelf1 c68 fun s hc w _ => by
 simp only [s68, Bool.and_eq_true, decide_eq_true_eq] at hc
 refine (Any.strconv_Atoi (ρ := Tryz.lays172_ren) Tryz.lays172 s (dval (bz s)) hc.1.2 (atoi_dig hc.1.1 hc.2) w).mono fun e w' ⟨h1, t, h2⟩ => ⟨h1, ?_⟩
 subst h2
 exact Lib.bytesWorld_below _ _ _
end Go.Px
end
noncomputable section
namespace Go.Px
open Go Go.Ab Go.Proofs Go.Shelf
theorem gs_law : ∀ (ro cs : List Int) (a : Int), okR ro → ((gsGo ro cs).length : Int) = cdg ro ∧ dgL (gsGo ro cs) = true ∧ numZ (gsGo ro cs) a = rdGo (ro.map rmk) cs a
 | [], _, _, _ => ⟨rfl, rfl, rfl⟩
 | r :: rs, cs, a, hok => by
  have hok' : okR rs := fun x hx => hok x (List.mem_cons_of_mem _ hx)
  rw [gsGo, cdg, List.map_cons, rdGo]
  have hr := rd_rng (cs.headD 0)
  have dig : ∀ l, dgL l = true → dgL ((48 + rdD (cs.headD 0)) :: l) = true := fun l h => by
   simp only [dgL, List.all_cons, Bool.and_eq_true, decide_eq_true_eq] at h ⊢
   exact ⟨by omega, h⟩
  have e : a * 10 + (48 + rdD (cs.headD 0) - 48) = a * 10 + rdD (cs.headD 0) := by omega
  rcases rmk_cases (hok r List.mem_cons_self) with rfl | rfl | rfl | rfl | rfl | rfl
  ·obtain ⟨h1, h2, h3⟩ := gs_law rs cs.tail (a * 10 + rdD (cs.headD 0)) hok'
   refine ⟨?_, dig _ h2, ?_⟩
   ·show (((_ :: gsGo rs cs.tail).length : Nat) : Int) = 1 + cdg rs
    rw [List.length_cons]; omega
   ·show numZ (_ :: gsGo rs cs.tail) a = rdGo (rs.map rmk) cs.tail (a * 10 + rdD (cs.headD 0))
    rw [numZ, e]; exact h3
  ·obtain ⟨h1, h2, h3⟩ := gs_law rs cs.tail (a * 10 + rdD (cs.headD 0)) hok'
   refine ⟨?_, dig _ h2, ?_⟩
   ·show (((_ :: gsGo rs cs.tail).length : Nat) : Int) = 1 + cdg rs
    rw [List.length_cons]; omega
   ·show numZ (_ :: gsGo rs cs.tail) a = rdGo (rs.map rmk) cs.tail (a * 10 + rdD (cs.headD 0))
    rw [numZ, e]; exact h3
  ·obtain ⟨h1, h2, h3⟩ := gs_law rs cs a hok'
   exact ⟨by simpa using h1, h2, h3⟩
  ·obtain ⟨h1, h2, h3⟩ := gs_law rs cs.tail a hok'
   exact ⟨by simpa using h1, h2, h3⟩
  ·obtain ⟨h1, h2, h3⟩ := gs_law rs cs.tail a hok'
   exact ⟨by simpa using h1, h2, h3⟩
  ·obtain ⟨h1, h2, h3⟩ := gs_law rs cs.tail a hok'
   exact ⟨by simpa using h1, h2, h3⟩
end Go.Px
end
noncomputable section
set_option maxHeartbeats 3200000
namespace Go.Px
open Go Go.Ab Go.Proofs Go.Shelf
def G38 : Env := ((G37.addG 67 h67).add 68 (sp1 s68)).add 71 (sp2 s71)
theorem ok_G38 : EnvOK Tryz.prog G38 := env_add (env_add (env_addG ok_G37 h67_ok) ok68) ok71
theorem cN_nv : ∀ (rs : List Int), okR rs → cN rs = nv (rs.map rmk)
 | [], _ => rfl
 | r :: rs, hok => by
  have hok' : okR rs := fun x hx => hok x (List.mem_cons_of_mem _ hx)
  have ih := cN_nv rs hok'
  rw [cN, List.map_cons, nv_cons]
  rcases rmk_cases (hok r List.mem_cons_self) with rfl | rfl | rfl | rfl | rfl | rfl <;> simp [rmk] <;> omega
theorem gs_use {s t : ByteArray} (h : pN (bz s) = true) : digZ (rdA (bz s) (bz t)) (pD (bz s)).toNat = gsGo (rolF (pS (bz s))) (bz t) ∧ 0 ≤ rdA (bz s) (bz t) ∧ rdA (bz s) (bz t) < tenZ (pD (bz s)).toNat ∧ dval (gsGo (rolF (pS (bz s))) (bz t)) = rdA (bz s) (bz t) ∧ cN (rolF (pS (bz s))) = pW (bz s) := by
 have hl := pS_len s
 obtain ⟨f1, f2, f3, _⟩ := pic_facts hl h
 obtain ⟨g1, g2, g3⟩ := gs_law (rolF (pS (bz s))) (bz t) 0 f1
 have hp := pD_rng h
 have hv : dval (gsGo (rolF (pS (bz s))) (bz t)) = rdA (bz s) (bz t) := by rw [dval, g3, f2, rdA]
 have hlen : (gsGo (rolF (pS (bz s))) (bz t)).length = (pD (bz s)).toNat := by omega
 have hr := dval_rng _ g2
 rw [hv, hlen] at hr
 refine ⟨by rw [← hv]; exact digZ_val' _ _ hlen g2, hr.1, hr.2, hv, by rw [cN_nv _ f1, f2, pN_nv h]⟩
def s22 (s : ByteArray) (t : ByteArray) : Bool × Value := (decide (s.size ≤ 9223372036854775807 ∧ t.size ≤ 9223372036854775807), .tuple ⟨[.int .i64 (rdV (bz s) (bz t)).1, .int .i64 (rdV (bz s) (bz t)).2]⟩)
theorem fn22 : Fn1 Tryz.prog 22 Tryz.f22 := ⟨Tryz.func22, by kernel_rfl, by kernel_rfl, by kernel_rfl⟩
theorem v22 (s : ByteArray) (t : ByteArray) (R : Value → Prop) : bodyQ Tryz.prog G38 noL Tryz.f22 [Enc.enc s, Enc.enc t] (fun _ => none) 0 (fun v _ _ => R v) = ( bif decide (ByteArray.size s ≤ 9223372036854775807) then bif pN (bz s) then ∀ (k cap : Nat) (d : List Value), rowIOK d k cap = true → zc d k = rolF (pS (bz s)) → bif (↑(ByteArray.size t) : Int) != pW (bz s) then R (.tuple (.mk [.int .i64 0, .int .i64 31])) else bif rowIOK d k cap && decide (k ≤ 1000 ∧ cN (zc d k) ≤ (↑(ByteArray.size t) : Int)) then ∀ (e : ByteArray), sz (gsGo (zc d k) (bz t)) = e → bif decide (1 ≤ ByteArray.size e ∧ ByteArray.size e ≤ 18) && dgL (bz e) then bif rowIOK d k cap && (roOK (zc d k) && (dgL (bz e) && decide ((k ≤ 1000 ∧ ByteArray.size e ≤ 1000 ∧ k ≤ ByteArray.size (sz (pS (bz s))) ∧ ByteArray.size (sz (pS (bz s))) ≤ 1000 ∧ 0 ≤ pW (bz s) ∧ pW (bz s) ≤ 1000) ∧ cdg (zc d k) ≤ (↑(ByteArray.size e) : Int) ∧ (fdFl (pS (bz s)) = 32 ∨ fdFl (pS (bz s)) = 42)))) then ∀ (t_1 : ByteArray) (l : Int), sz (Prod.fst (wrV (bz (sz (pS (bz s)))) (pW (bz s)) (Prod.snd (Prod.snd (nD (bodyZ (pS (bz s)))))) (crZ (pS (bz s))) (drZ (bodyZ (pS (bz s)))) (fdFl (pS (bz s))) (↑(cntZ (mkGo (drZ (bodyZ (pS (bz s)))) false (bodyZ (pS (bz s)))) 100) : Int) (zc d k) (bz e) false)) = t_1 → Prod.snd (wrV (bz (sz (pS (bz s)))) (pW (bz s)) (Prod.snd (Prod.snd (nD (bodyZ (pS (bz s)))))) (crZ (pS (bz s))) (drZ (bodyZ (pS (bz s)))) (fdFl (pS (bz s))) (↑(cntZ (mkGo (drZ (bodyZ (pS (bz s)))) false (bodyZ (pS (bz s)))) 100) : Int) (zc d k) (bz e) false) = l → bif ByteArray.toList t_1 == ByteArray.toList t then R (.tuple (.mk [.int .i64 (dval (bz e)), .int .i64 0])) else bif rowIOK d k cap && (roOK (zc d k) && (dgL (bz e) && decide ((k ≤ 1000 ∧ ByteArray.size e ≤ 1000 ∧ k ≤ ByteArray.size (sz (pS (bz s))) ∧ ByteArray.size (sz (pS (bz s))) ≤ 1000 ∧ 0 ≤ pW (bz s) ∧ pW (bz s) ≤ 1000) ∧ cdg (zc d k) ≤ (↑(ByteArray.size e) : Int) ∧ (fdFl (pS (bz s)) = 32 ∨ fdFl (pS (bz s)) = 42)))) then ∀ (t_2 : ByteArray) (l : Int), sz (Prod.fst (wrV (bz (sz (pS (bz s)))) (pW (bz s)) (Prod.snd (Prod.snd (nD (bodyZ (pS (bz s)))))) (crZ (pS (bz s))) (drZ (bodyZ (pS (bz s)))) (fdFl (pS (bz s))) (↑(cntZ (mkGo (drZ (bodyZ (pS (bz s)))) false (bodyZ (pS (bz s)))) 100) : Int) (zc d k) (bz e) true)) = t_2 → Prod.snd (wrV (bz (sz (pS (bz s)))) (pW (bz s)) (Prod.snd (Prod.snd (nD (bodyZ (pS (bz s)))))) (crZ (pS (bz s))) (drZ (bodyZ (pS (bz s)))) (fdFl (pS (bz s))) (↑(cntZ (mkGo (drZ (bodyZ (pS (bz s)))) false (bodyZ (pS (bz s)))) 100) : Int) (zc d k) (bz e) true) = l → bif bif ByteArray.toList t_2 == ByteArray.toList t then pG (bz s) || true else true then bif ByteArray.toList t_2 == ByteArray.toList t && (pG (bz s) && decide (dval (bz e) > 0)) then R (.tuple (.mk [.int .i64 (IntKind.wrap .i64 (0 - dval (bz e))), .int .i64 0])) else R (.tuple (.mk [.int .i64 0, .int .i64 31])) else False else False else False else False else False else R (.tuple (.mk [.int .i64 0, .int .i64 30])) else False) := by kernel_rfl
theorem ok22 : PureOK Tryz.prog 22 (sp2 s22) := by
 refine qure2 ok_G38 hmix fn22 lokf_none (Nat.le_of_ble_eq_true (by kernel_rfl)) fun s t hc => ?_
 rw [DoesQ, v22]
 have hc : (s.size ≤ 9223372036854775807 ∧ t.size ≤ 9223372036854775807) := of_decide_eq_true hc
 try dsimp only [s22]
 refine c_t (decide_eq_true hc.1) (cond_intro (fun h => ?_) (fun h => ?_))
 ·intro k cap d hR hz
  obtain ⟨u1, u2, u3, u4, u5⟩ := gs_use (t := t) h
  have hl := pS_len s
  have hr := rowIOK_iff.1 hR
  have hk : k = (pS (bz s)).length := by rw [← rol_len h, ← hz, zi_length hr]
  have hp := pD_rng h
  have bl : ((bz t).length : Int) = t.size := by rw [bz_length]
  refine cond_intro (fun hw => ?_) (fun hw => ?_)
  ·have hw : ¬ (t.size : Int) = pW (bz s) := by simpa using hw
   rw [rdV, if_pos h, bl, if_neg hw]
  ·have hw : (t.size : Int) = pW (bz s) := by simpa using hw
   refine c_t (by rw [hR, hz, u5]; simp only [Bool.true_and, decide_eq_true_eq]; omega) fun e he => ?_
   rw [hz, ← u1] at he
   have hdd := digZ_dg (pD (bz s)).toNat (rdA (bz s) (bz t))
   have be : bz e = digZ (rdA (bz s) (bz t)) (pD (bz s)).toNat := by rw [← he, bz_sz (dg_isB hdd)]
   have ze : e.size = (pD (bz s)).toNat := by rw [← bz_length, be, digZ_len]
   have hv : dval (bz e) = rdA (bz s) (bz t) := by rw [be, u1, u4]
   rw [hv, rdV, if_pos h, bl, if_pos hw]
   generalize rdA (bz s) (bz t) = m at *
   have hm : ((m.natAbs : Nat) : Int) = m := by omega
   have hm' : (((0 - m).natAbs : Nat) : Int) = m := by omega
   obtain ⟨g1, g2⟩ := wr_use h hR hz (m := m) (by omega)
   obtain ⟨k1, k2⟩ := wr_use h hR hz (m := 0 - m) (by omega)
   rw [hm, he] at g1 g2
   rw [hm', he] at k2
   have d0 : decide (m < 0) = false := decide_eq_false (by omega)
   rw [d0] at g2
   have ht : tenZ (pD (bz s)).toNat ≤ 1000000000 := tenZ_le9 (by omega)
   have hF : ∀ (a : ByteArray) (n : Int), sz (fieldZ (pS (bz s)) (pW (bz s)) (pD (bz s)).toNat n) = a → (a.toList == t.toList) = decide (fdN (bz s) n = bz t) := fun a n e => by
    rw [toList_beq, ← e, bz_sz (field_isB hl.1 _ _ _)]
    rfl
   refine c_t (by rw [be, hdd, ze, Bool.and_true, decide_eq_true_eq]; omega) (c_t g1 fun a1 l1 q1 q2 => cond_intro (fun p => ?_) (fun p => c_t g1 fun a2 l2 q3 q4 => ?_))
   ·rw [hF _ _ (by rw [← q1, g2])] at p
    rw [if_pos (of_decide_eq_true p)]
   ·rw [hF _ _ (by rw [← q1, g2])] at p
    have p := of_decide_eq_false p
    rw [if_neg p]
    refine c_t (by cases ByteArray.toList a2 == ByteArray.toList t <;> simp) ?_
    by_cases m0 : m > 0
    ·have d1 : decide (0 - m < 0) = true := decide_eq_true (by omega)
     rw [d1] at k2
     rw [hF _ _ (by rw [← q3, k2]), w64 (n := 0 - m) (by omega)]
     by_cases r1 : fdN (bz s) (0 - m) = bz t
     ·cases hG : pG (bz s) with
      | true =>
       have : (decide (fdN (bz s) (0 - m) = bz t) && (true && decide (m > 0))) = true := by rw [decide_eq_true r1, decide_eq_true m0]; rfl
       rw [this, if_pos ⟨rfl, m0, r1⟩]
       rfl
      | false =>
       rw [Bool.false_and, Bool.and_false, if_neg (fun q => by cases q.1)]
       rfl
     ·rw [decide_eq_false r1, Bool.false_and, if_neg (fun q => r1 q.2.2)]
      rfl
    ·rw [decide_eq_false m0, Bool.and_false, Bool.and_false, if_neg (fun q => m0 q.2.1)]
     rfl
 ·have h1 : ¬ pN (bz s) = true := by rw [h]; simp
  rw [rdV, if_neg h1]
end Go.Px
end
noncomputable section
set_option maxHeartbeats 3200000
namespace Go.Px
open Go Go.Ab Go.Proofs Go.Shelf
def G39 : Env := (G38.add 22 (sp2 s22))
theorem ok_G39 : EnvOK Tryz.prog G39 := env_add (ok_G38) ok22
theorem ch_all {l : List Int} (h : vOK l = true) (hn : pN l = false) : (pS l).all (hasZ [65, 88, 57]) = true := by
 have hc : charZ (exZ l) = true := by
  simp only [vOK, Bool.and_eq_true, Bool.or_eq_true] at h
  simp only [pN] at hn
  rcases h.2 with q | q
  ·exact q
  ·rw [h.1, q] at hn; cases hn
 rw [pS, if_pos h]
 simp only [charZ, Bool.and_eq_true] at hc
 exact hc.1
def s24 (s : ByteArray) (t : ByteArray) : Bool × Value := (decide (s.size ≤ 9223372036854775807 ∧ t.size ≤ 9223372036854775807), .bool (hoZ (bz s) (bz t)))
theorem fn24 : Fn1 Tryz.prog 24 Tryz.f24 := ⟨Tryz.func24, by kernel_rfl, by kernel_rfl, by kernel_rfl⟩
theorem v24 (s : ByteArray) (t : ByteArray) (R : Value → Prop) : bodyQ Tryz.prog G39 noL Tryz.f24 [Enc.enc s, Enc.enc t] (fun _ => none) 0 (fun v _ _ => R v) = ( bif decide (ByteArray.size s ≤ 9223372036854775807) then bif vOK (bz s) then bif pN (bz s) then ∀ (k cap : Nat) (d : List Value), rowIOK d k cap = true → zc d k = rolF (pS (bz s)) → bif decide (ByteArray.size s ≤ 9223372036854775807 ∧ ByteArray.size t ≤ 9223372036854775807) then R (.bool (Prod.snd (rdV (bz s) (bz t)) == 0)) else False else bif List.all (bz (sz (pS (bz s)))) (hasZ [65, 88, 57]) && decide (ByteArray.size (sz (pS (bz s))) ≤ 1000 ∧ ByteArray.size t ≤ 9223372036854775807) then R (.bool (decide ((↑(ByteArray.size t) : Int) = (↑(ByteArray.size (sz (pS (bz s)))) : Int)) && onGo (bz (sz (pS (bz s)))) (bz t))) else False else R (.bool false) else False) := by kernel_rfl
theorem ok24 : PureOK Tryz.prog 24 (sp2 s24) := by
 refine qure2 ok_G39 hmix fn24 lokf_none (Nat.le_of_ble_eq_true (by kernel_rfl)) fun s t hc => ?_
 rw [DoesQ, v24]
 have hc : (s.size ≤ 9223372036854775807 ∧ t.size ≤ 9223372036854775807) := of_decide_eq_true hc
 try dsimp only [s24]
 refine c_t (decide_eq_true hc.1) (cond_intro (fun h => cond_intro (fun hn => ?_) (fun hn => ?_)) (fun h => ?_))
 ·intro k cap d _ _
  refine c_t (decide_eq_true hc) ?_
  rw [hoZ, if_pos h, if_pos hn]
  rfl
 ·have hl := pS_len s
  have b1 : bz (sz (pS (bz s))) = pS (bz s) := bz_sz hl.1
  have z1 : (sz (pS (bz s))).size = (pS (bz s)).length := by rw [← bz_length, b1]
  have hn' : ¬ pN (bz s) = true := by rw [hn]; simp
  rw [b1, z1, ch_all h hn]
  refine c_t (by simp only [Bool.true_and, decide_eq_true_eq]; omega) ?_
  rw [hoZ, if_pos h, if_neg hn', pCh h hn, bz_length]
 ·have h1 : ¬ vOK (bz s) = true := by rw [h]; simp
  rw [hoZ, if_neg h1]
def s42 (s : ByteArray) (t : ByteArray) : Bool × Value := (decide (s.size ≤ 9223372036854775807 ∧ t.size ≤ 9223372036854775807), .tuple ⟨[.string (sz (fiS (bz s) (bz t))), .bool (fiF (bz s) (bz t)), .int .i64 (fiE (bz s))]⟩)
theorem fn42 : Fn1 Tryz.prog 42 Tryz.f42 := ⟨Tryz.func42, by kernel_rfl, by kernel_rfl, by kernel_rfl⟩
theorem v42 (s : ByteArray) (t : ByteArray) (R : Value → Prop) : bodyQ Tryz.prog G39 noL Tryz.f42 [Enc.enc s, Enc.enc t] (fun _ => none) 0 (fun v _ _ => R v) = ( bif decide (ByteArray.size s ≤ 9223372036854775807) then bif vOK (bz s) then bif pN (bz s) then ∀ (k cap : Nat) (d : List Value), rowIOK d k cap = true → zc d k = rolF (pS (bz s)) → R (.tuple (.mk [.string (ByteArray.mk #[]), .bool false, .int .i64 30])) else bif decide (0 ≤ imax 0 (IntKind.wrap .i64 (pW (bz s) - (↑(ByteArray.size t) : Int))) ∧ imax 0 (IntKind.wrap .i64 (pW (bz s) - (↑(ByteArray.size t) : Int))) ≤ 1000 ∧ ByteArray.size (ByteArray.mk #[32]) ≤ 1000) then bif strFit (ByteArray.size t + ByteArray.size (sz (repZ (bz (ByteArray.mk #[32])) (Int.toNat (imax 0 (IntKind.wrap .i64 (pW (bz s) - (↑(ByteArray.size t) : Int)))))))) then bif decide ((0 : Int) ≤ 0 ∧ 0 ≤ pW (bz s) ∧ pW (bz s) ≤ (↑(ByteArray.size (t ++ sz (repZ (bz (ByteArray.mk #[32])) (Int.toNat (imax 0 (IntKind.wrap .i64 (pW (bz s) - (↑(ByteArray.size t) : Int)))))))) : Int)) then bif List.all (bz (sz (pS (bz s)))) (hasZ [65, 88, 57]) && decide (ByteArray.size (sz (pS (bz s))) ≤ 1000 ∧ ByteArray.size (ByteArray.extract (t ++ sz (repZ (bz (ByteArray.mk #[32])) (Int.toNat (imax 0 (IntKind.wrap .i64 (pW (bz s) - (↑(ByteArray.size t) : Int))))))) 0 (Int.toNat (pW (bz s)))) ≤ 9223372036854775807) then R (.tuple (.mk [.string (ByteArray.extract (t ++ sz (repZ (bz (ByteArray.mk #[32])) (Int.toNat (imax 0 (IntKind.wrap .i64 (pW (bz s) - (↑(ByteArray.size t) : Int))))))) 0 (Int.toNat (pW (bz s)))), .bool (decide ((↑(ByteArray.size (ByteArray.extract (t ++ sz (repZ (bz (ByteArray.mk #[32])) (Int.toNat (imax 0 (IntKind.wrap .i64 (pW (bz s) - (↑(ByteArray.size t) : Int))))))) 0 (Int.toNat (pW (bz s))))) : Int) = (↑(ByteArray.size (sz (pS (bz s)))) : Int)) && onGo (bz (sz (pS (bz s)))) (bz (ByteArray.extract (t ++ sz (repZ (bz (ByteArray.mk #[32])) (Int.toNat (imax 0 (IntKind.wrap .i64 (pW (bz s) - (↑(ByteArray.size t) : Int))))))) 0 (Int.toNat (pW (bz s)))))), .int .i64 0])) else False else False else False else False else R (.tuple (.mk [.string (ByteArray.mk #[]), .bool false, .int .i64 30])) else False) := by kernel_rfl
theorem ok42 : PureOK Tryz.prog 42 (sp2 s42) := by
 refine qure2 ok_G39 hmix fn42 lokf_none (Nat.le_of_ble_eq_true (by kernel_rfl)) fun s t hc => ?_
 rw [DoesQ, v42]
 have hc : (s.size ≤ 9223372036854775807 ∧ t.size ≤ 9223372036854775807) := of_decide_eq_true hc
 try dsimp only [s42]
 refine c_t (decide_eq_true hc.1) (cond_intro (fun h => cond_intro (fun hn => ?_) (fun hn => ?_)) (fun h => ?_))
 ·intro k cap d _ _
  have h1 : ¬ (vOK (bz s) = true ∧ pN (bz s) = false) := by rw [hn]; simp
  rw [fiS, fiF, fiE, if_neg h1, if_neg h1, if_neg h1, sz_nil]
 ·have hl := pS_len s
  have hw := @pW_rng s
  have b1 : bz (sz (pS (bz s))) = pS (bz s) := bz_sz hl.1
  have z1 : (sz (pS (bz s))).size = (pS (bz s)).length := by rw [← bz_length, b1]
  have hn' : ¬ pN (bz s) = true := by rw [hn]; simp
  have hk : ∃ k : Nat, (imax 0 (pW (bz s) - (t.size : Int))).toNat = k ∧ k ≤ 32 ∧ (k : Int) = imax 0 (pW (bz s) - (t.size : Int)) ∧ (pW (bz s) ≤ t.size → k = 0) ∧ (t.size ≤ pW (bz s) → (k : Int) = pW (bz s) - t.size) := by
   refine ⟨_, rfl, ?_⟩
   unfold imax
   split <;> omega
  obtain ⟨k, e1, e2, e3, e4, e5⟩ := hk
  have e32 : bz (ByteArray.mk #[32]) = [32] := rfl
  rw [w64 (by omega), e1, ← e3, e32, rep_one]
  have hR := rep_isB 32 k (by omega)
  have hlr : (rep1 32 k).length = k := by simp [rep1]
  have zr : (sz (rep1 32 k)).size = k := by rw [sz_size, hlr]
  have zt : (t ++ sz (rep1 32 k)).size = t.size + k := by rw [ByteArray.size_append, zr]
  have ex : bz ((t ++ sz (rep1 32 k)).extract 0 (pW (bz s)).toNat) = flZ (bz s) (bz t) := by
   rw [bz_extract, bz_append, bz_sz hR, List.drop_zero, flZ, bz_length]
   by_cases a : (t.size : Int) > pW (bz s)
   ·rw [if_pos a, e4 (by omega)]
    show (bz t ++ []).take _ = _
    rw [List.append_nil]
   ·rw [if_neg a, ← e5 (by omega), Int.toNat_natCast, List.take_of_length_le]
    rw [List.length_append, bz_length, hlr]
    have := e5 (by omega)
    omega
  have exs : ((t ++ sz (rep1 32 k)).extract 0 (pW (bz s)).toNat).size ≤ 32 := by
   rw [ByteArray.size_extract]
   omega
  rw [b1, z1, ch_all h hn, zr, zt]
  refine c_t (decide_eq_true ⟨by omega, by omega, by decide⟩) (c_t (by simp only [strFit, Nat.ble_eq]; omega) (c_t (decide_eq_true ?_) (c_t ?_ ?_)))
  ·by_cases a : (t.size : Int) ≥ pW (bz s)
   ·omega
   ·have := e5 (by omega)
    omega
  ·simp only [Bool.true_and, decide_eq_true_eq]
   omega
  ·rw [fiS, fiF, fiE, if_pos ⟨h, hn⟩, if_pos ⟨h, hn⟩, if_pos ⟨h, hn⟩, hoZ, if_pos h, if_neg hn', ← ex, sz_bz, bz_length, pCh h hn]
 ·have h1 : ¬ (vOK (bz s) = true ∧ pN (bz s) = false) := by rw [h]; simp
  rw [fiS, fiF, fiE, if_neg h1, if_neg h1, if_neg h1, sz_nil]
end Go.Px
end
noncomputable section
namespace Go.Px
open Go Go.Ab Go.Proofs
def cel0 (le fill dr : Int) (neg : Bool) (m c d o : Int) : Int :=
 bif m == 100 then fmZ c d neg else bif m == 99 then (bif decide (o < le) then fill else d)
 else bif m == 105 then (bif c == 66 then 32 else bif decide (o < le) then fill else c) else ssZ c dr neg
theorem fd_cons (le fill dr : Int) (neg : Bool) (m : Int) (r sp ds : List Int) (o : Int) : fdGo le fill dr neg (m :: r) sp ds o =
  bif m == 118 then fdGo le fill dr neg r sp.tail ds o else cel0 le fill dr neg m (sp.headD 0) (ds.headD 0) o :: fdGo le fill dr neg r sp.tail (bif isP m then ds.tail else ds) (o + 1) := by
 rw [fdGo, cel0, isP]
 by_cases h1 : m = 100
 ·subst h1; rfl
 by_cases h2 : m = 99
 ·subst h2; rfl
 by_cases h3 : m = 105
 ·subst h3; rfl
 have e1 : (m == 100) = false := beq_eq_false_iff_ne.2 h1
 have e2 : (m == 99) = false := beq_eq_false_iff_ne.2 h2
 have e3 : (m == 105) = false := beq_eq_false_iff_ne.2 h3
 rw [e1, e2, e3]
 by_cases h4 : m = 118
 ·subst h4; rfl
 have e4 : (m == 118) = false := beq_eq_false_iff_ne.2 h4
 have e5 : (m != 118) = true := by rw [bne, e4]; rfl
 rw [e4, e5]
 rfl
theorem pd_cons (m : Int) (r : List Int) : pdGo (m :: r) = (if isP m = true then 1 else 0) + pdGo r := by
 rw [pdGo]; cases isP m <;> rfl
end Go.Px
end
noncomputable section
namespace Go.Px
open Go Go.Ab Go.Proofs
theorem mk1_99 {dr : Int} {seen : Bool} {c : Int} (h : mk1 dr seen c = 99) : hasZ [90, 42] c = true ∨ (dr ≠ 0 ∧ c = dr ∧ seen = true) := by
 unfold mk1 at h
 cases h1 : hasZ [57, 89, 84, 73, 82] c with
 | true => rw [h1, cond_true] at h; exact absurd h (by decide)
 | false =>
  rw [h1, cond_false] at h
  cases h2 : hasZ [90, 42] c || (dr != 0 && (c == dr && seen)) with
  | true =>
   rcases Bool.or_eq_true_iff.1 h2 with q | q
   ·exact .inl q
   ·simp only [Bool.and_eq_true, bne_iff_ne, beq_iff_eq] at q
    exact .inr q
  | false =>
   rw [h2, cond_false] at h
   cases h3 : c == 86 <;> cases h4 : c == 36 <;> cases h5 : hasZ [83, 43, 45] c <;> rw [h3] at h <;> simp [h4, h5] at h
theorem mk_99_mem {dr : Int} : ∀ {l : List Int} {seen : Bool}, 99 ∈ mkGo dr seen l → (∃ c ∈ l, hasZ [90, 42] c = true) ∨ (dr ≠ 0 ∧ dr ∈ l)
 | c :: r, seen, h => by
  rw [mkGo] at h
  rcases List.mem_cons.1 h with h | h
  ·rcases mk1_99 h.symm with q | ⟨q1, q2, _⟩
   ·exact .inl ⟨c, List.mem_cons_self, q⟩
   ·exact .inr ⟨q1, by rw [← q2]; exact List.mem_cons_self⟩
  ·rcases mk_99_mem h with ⟨x, hx, q⟩ | ⟨q1, q2⟩
   ·exact .inl ⟨x, List.mem_cons_of_mem _ hx, q⟩
   ·exact .inr ⟨q1, List.mem_cons_of_mem _ q2⟩
theorem NumP.noZ {s : List Int} (h : NumP s) (h0 : drZ (bodyZ s) ≠ 0) : ∀ c ∈ bodyZ s, hasZ [90, 42] c = false := by
 have hld := h.ld
 unfold leadsZ at hld
 intro c hc
 cases e : hasZ [90, 42] c with
 | false => rfl
 | true =>
  exfalso
  have hm : hasZ (bodyZ s) 90 = true ∨ hasZ (bodyZ s) 42 = true := by
   have := hasZ_iff.1 e
   rcases List.mem_cons.1 this with rfl | this
   ·exact .inl (hasZ_iff.2 hc)
   ·rcases List.mem_cons.1 this with rfl | this
    ·exact .inr (hasZ_iff.2 hc)
    ·cases this
  have : (hasZ (bodyZ s) 90 || hasZ (bodyZ s) 42) = true := by rcases hm with q | q <;> rw [q] <;> simp
  rw [this, bne_iff_ne.2 h0] at hld
  cases h9 : hasZ (bodyZ s) 90 && hasZ (bodyZ s) 42 with
  | true => rw [h9] at hld; cases hld
  | false => rw [h9] at hld; cases hld
end Go.Px
end
noncomputable section
namespace Go.Px
open Go Go.Ab Go.Proofs
end Go.Px
end
noncomputable section
set_option maxHeartbeats 3200000
namespace Go.Px
open Go Go.Ab Go.Proofs Go.Shelf
def L19 : Env := (((((((Env.nil.add 20 (sp3 s20)).add 22 (sp2 s22)).add 24 (sp2 s24)).add 31 (sp1 s31)).add 33 (sp1 s33)).add 35 (sp1 s35)).add 44 (sp1 s44))
theorem ok_L19 : EnvOK Tryz.prog L19 := env_add (env_add (env_add (env_add (env_add (env_add (env_add (env_nil) ok20) ok22) ok24) ok31) ok33) ok35) ok44
def s19 : Bool × Value := (true, .bool true)
theorem fn19 : Fn1 Tryz.prog 19 Tryz.f19 := ⟨Tryz.func19, by kernel_rfl, by kernel_rfl, by kernel_rfl⟩
theorem v19  (R : Value → Prop) : bodyQ Tryz.prog L19 noL Tryz.f19 [] (fun _ => none) 0 (fun v _ _ => R v) = ( R (.bool (Prod.snd (rdV (bz (ByteArray.mk #[83, 57, 57])) (bz (ByteArray.mk #[45, 48, 48]))) == 31 && (pN (bz (ByteArray.mk #[90, 86, 57])) && (!pN (bz (ByteArray.mk #[65, 88])) && (hoZ (bz (ByteArray.mk #[65, 57])) (bz (ByteArray.mk #[120, 32])) && pE (bz (ByteArray.mk #[57, 90])) == 30)))))) := by kernel_rfl
theorem ok19 : PureOK Tryz.prog 19 (sp0 s19) := by
 refine qure0 ok_L19 hmix fn19 lokf_none fun hc => ?_
 rw [DoesQ, v19]
 try dsimp only [s19]
 have e : ∀ b : Bool, b = true → Value.bool b = Value.bool true := fun b h => by rw [h]
 exact e _ (by kernel_rfl)
def L3 : Env := (((Env.nil.add 19 (sp0 s19)).add 20 (sp3 s20)).add 21 (sp3 s21))
def s3 (s : ByteArray) (n : Int) (q : Int) : Bool × Value := (decide (s.size ≤ 9223372036854775807 ∧ -9223372036854775808 ≤ n ∧ n ≤ 9223372036854775807), .bool true)
theorem v3 (s : ByteArray) (n : Int) (q : Int) (R : Value → Prop) : bodyQ Tryz.prog L3 noL Tryz.f3 [Enc.enc s, Enc.enc n, Enc.enc q] (fun _ => none) 0 (fun v _ _ => R v) = ( bif decide (ByteArray.size s ≤ 9223372036854775807 ∧ -9223372036854775808 ≤ n ∧ n ≤ 9223372036854775807) then bif decide (ByteArray.size s ≤ 9223372036854775807 ∧ -9223372036854775808 ≤ n ∧ n ≤ 9223372036854775807) then bif bif ByteArray.toList (sz (edS (bz s) n q)) == ByteArray.toList (sz (edS (bz s) n q)) then edF (bz s) n q == edF (bz s) n q || true else true then R (.bool (ByteArray.toList (sz (edS (bz s) n q)) == ByteArray.toList (sz (edS (bz s) n q)) && (edF (bz s) n q == edF (bz s) n q && edE (bz s) q == edE (bz s) q))) else False else False else False) := by kernel_rfl
def L4 : Env := (((((Env.nil.add 19 (sp0 s19)).add 22 (sp2 s22)).add 23 (sp2 s23)).add 24 (sp2 s24)).add 25 (sp2 s25))
def s4 (s : ByteArray) (t : ByteArray) : Bool × Value := (decide (s.size ≤ 9223372036854775807 ∧ t.size ≤ 9223372036854775807), .bool true)
end Go.Px
end
noncomputable section
set_option maxHeartbeats 3200000
namespace Go.Px
open Go Go.Ab Go.Proofs Go.Shelf
def L32 : Env := ((((Env.nil.add 60 (sp1 s60)).add 52 (sp1 s52)).add 96 (sp1 s96)).add 85 (sp2 s85))
theorem ok_L32 : EnvOK Tryz.prog L32 := env_add (env_add (env_add (env_add (env_nil) ok60) ok52) ok96) ok85
def wiZ (l : List Int) (n : Int) : Int := if n.tmod (raH l + 1) < raL l then 0 - n.tmod (raH l + 1) else n.tmod (raH l + 1)
theorem raH_rng (l : List Int) : 0 ≤ raH l ∧ raH l < 1000000000 := by
 unfold raH
 split
 ·rename_i h
  have hp := pD_rng h
  have h1 := tenZ_pos (pD l).toNat
  have h2 : tenZ (pD l).toNat ≤ 1000000000 := tenZ_le9 (by omega)
  omega
 ·omega
theorem tmod_rng (n : Int) {m : Int} (h : 0 < m) : -m < n.tmod m ∧ n.tmod m < m := by
 have h1 := Int.natAbs_tmod n m
 have h2 : n.natAbs % m.natAbs < m.natAbs := Nat.mod_lt _ (by omega)
 omega
def s32 (s : ByteArray) (n : Int) : Bool × Value := (decide (s.size ≤ 9223372036854775807), .int .i64 (wiZ (bz s) n))
theorem fn32 : Fn1 Tryz.prog 32 Tryz.f32 := ⟨Tryz.func32, by kernel_rfl, by kernel_rfl, by kernel_rfl⟩
theorem v32 (s : ByteArray) (n : Int) (R : Value → Prop) : bodyQ Tryz.prog L32 noL Tryz.f32 [Enc.enc s, Enc.enc n] (fun _ => none) 0 (fun v _ _ => R v) = ( bif decide (ByteArray.size s ≤ 9223372036854775807) then bif decide (IntKind.wrap .i64 (raH (bz s) + 1) ≠ 0) then bif decide (Int.tmod n (IntKind.wrap .i64 (raH (bz s) + 1)) < raL (bz s)) then R (.int .i64 (IntKind.wrap .i64 (0 - Int.tmod n (IntKind.wrap .i64 (raH (bz s) + 1))))) else R (.int .i64 (Int.tmod n (IntKind.wrap .i64 (raH (bz s) + 1)))) else False else False) := by kernel_rfl
theorem ok32 : PureOK Tryz.prog 32 (sp2 s32) := by
 refine qure2 ok_L32 hmix fn32 lokf_none (Nat.le_of_ble_eq_true (by kernel_rfl)) fun s n hc => ?_
 rw [DoesQ, v32]
 have hc : (s.size ≤ 9223372036854775807) := of_decide_eq_true hc
 try dsimp only [s32]
 have hr := raH_rng (bz s)
 have e1 : IntKind.wrap IntKind.i64 (raH (bz s) + 1) = raH (bz s) + 1 := w64 (by omega)
 have ht := tmod_rng n (m := raH (bz s) + 1) (by omega)
 rw [e1, wiZ, w64 (n := 0 - n.tmod (raH (bz s) + 1)) (by omega)]
 refine c_t (decide_eq_true hc) (c_t (decide_eq_true (by omega)) (cond_intro (fun h => ?_) (fun h => ?_)))
 ·rw [if_pos (of_decide_eq_true h)]
 ·rw [if_neg (of_decide_eq_false h)]
def loZ (c : Int) : Int := if 65 ≤ c ∧ c ≤ 90 then c + 32 else c
def s79 (c : U8) : Bool × Value := (true, .int .u8 (loZ c.n))
theorem fn79 : Fn1 Tryz.prog 79 Tryz.f79 := ⟨Tryz.func79, by kernel_rfl, by kernel_rfl, by kernel_rfl⟩
theorem v79 (c : U8) (R : Value → Prop) : bodyQ Tryz.prog L32 noL Tryz.f79 [Enc.enc c] (fun _ => none) 0 (fun v _ _ => R v) = ( bif decide (U8.n c ≥ 65) || true then bif decide (U8.n c ≥ 65) && decide (U8.n c ≤ 90) then R (.int .u8 (IntKind.wrap .u8 (IntKind.wrap .u8 (U8.n c - 65) + 97))) else R (.int .u8 (U8.n c)) else False) := by kernel_rfl
theorem ok79 : PureOK Tryz.prog 79 (sp1 s79) := by
 refine qure1 ok_L32 hmix fn79 lokf_none (Nat.le_of_ble_eq_true (by kernel_rfl)) fun c hc => ?_
 rw [DoesQ, v79]
 try dsimp only [s79]
 obtain ⟨c⟩ := c
 dsimp only
 refine c_t (by simp) (cond_intro (fun h => ?_) (fun h => ?_))
 ·have h : 65 ≤ c ∧ c ≤ 90 := by simpa using h
  rw [loZ, if_pos h, w8 (n := c - 65) (by omega), w8 (by omega)]
  congr 1
  omega
 ·have h : ¬ (65 ≤ c ∧ c ≤ 90) := fun q => by
   have : (decide (c ≥ 65) && decide (c ≤ 90)) = true := by simpa using q
   rw [this] at h; cases h
  rw [loZ, if_neg h]
end Go.Px
end
noncomputable section
namespace Go.Px
open Go Go.Ab Go.Proofs
theorem pe_pn (l : List Int) : (pE l != 0 || !pN l) = !pN l := by
 rw [pE_ne]
 cases h : pN l with
 | true => rw [pN_vOK h]; rfl
 | false => simp
theorem wi_rng {l : List Int} (h : pN l = true) (n : Int) : ((wiZ l n).natAbs : Int) < tenZ (pD l).toNat ∧ (wiZ l n < 0 → pG l = true) := by
 have hr : raH l = tenZ (pD l).toNat - 1 := by rw [raH, if_pos h]
 have hp := tenZ_pos (pD l).toNat
 have ht := tmod_rng n (m := raH l + 1) (by omega)
 have hL : raL l = if pG l = true then 0 - (tenZ (pD l).toNat - 1) else 0 := rfl
 unfold wiZ
 cases hg : pG l with
 | true =>
  rw [hg, if_pos rfl] at hL
  rw [if_neg (by omega)]
  exact ⟨by omega, fun _ => rfl⟩
 | false =>
  rw [hg, if_neg (by decide)] at hL
  split
  ·exact ⟨by omega, fun q => by omega⟩
  ·exact ⟨by omega, fun q => by omega⟩
theorem wi_64 (l : List Int) (n : Int) : -9223372036854775808 ≤ wiZ l n ∧ wiZ l n ≤ 9223372036854775807 := by
 have hr := raH_rng l
 have ht := tmod_rng n (m := raH l + 1) (by omega)
 unfold wiZ
 split <;> omega
theorem cuM_same (n q : Int) : cuM n q q = n.natAbs := by
 rw [cuM, if_pos (by omega), Int.sub_self]
 exact Int.ediv_one _
theorem cu_in {l : List Int} {n : Int} (hn : (n.natAbs : Int) < tenZ (pD l).toNat) (hg : n < 0 → pG l = true) : cuN n (pQ l) (pQ l) (pD l) (pG l) = n ∧ cuF n (pQ l) (pQ l) (pD l) (pG l) = true := by
 have e : cuV n (pQ l) (pQ l) (pD l) = n.natAbs := by rw [cuV, cuM_same, Int.emod_eq_of_lt (by omega) hn]
 constructor
 ·rw [cuN, e]
  by_cases h0 : n < 0
  ·rw [if_pos ⟨h0, hg h0⟩]; omega
  ·rw [if_neg (fun q => h0 q.1)]; omega
 ·rw [cuF, cuM_same, decide_eq_true hn, Bool.true_and]
  by_cases h0 : n < 0
  ·rw [hg h0]; simp
  ·rw [decide_eq_true (show n ≥ 0 by omega)]; rfl
theorem ed_in {l : List Int} (h : pN l = true) {n : Int} (hn : (n.natAbs : Int) < tenZ (pD l).toNat) (hg : n < 0 → pG l = true) : edS l n (pQ l) = fdN l n ∧ edF l n (pQ l) = true ∧ edE l (pQ l) = 0 := by
 have hp := pD_rng h
 have hq : 0 ≤ pQ l ∧ pQ l ≤ 9 := by omega
 obtain ⟨e1, e2⟩ := cu_in hn hg
 rw [edS, edF, edE, if_pos ⟨h, hq⟩, if_pos ⟨h, hq⟩, if_pos h, if_pos hq, e1, e2]
 exact ⟨rfl, rfl, rfl⟩
theorem fdN_isB {s : ByteArray} (n : Int) : IsB (fdN (bz s) n) := field_isB (pS_len s).1 _ _ _
theorem bz_fdN (s : ByteArray) (n : Int) : bz (sz (fdN (bz s) n)) = fdN (bz s) n := bz_sz (fdN_isB n)
end Go.Px
end
noncomputable section
namespace Go.Px
open Go Go.Ab Go.Proofs
end Go.Px
end
noncomputable section
set_option maxHeartbeats 3200000
namespace Go.Px
open Go Go.Ab Go.Proofs Go.Shelf
end Go.Px
end
noncomputable section
namespace Go.Px
open Go Go.Ab Go.Proofs
end Go.Px
end
noncomputable section
set_option maxHeartbeats 3200000
namespace Go.Px
open Go Go.Ab Go.Proofs Go.Shelf
end Go.Px
end
noncomputable section
namespace Go.Px
open Go Go.Ab Go.Proofs
end Go.Px
end
noncomputable section
set_option maxHeartbeats 3200000
namespace Go.Px
open Go Go.Ab Go.Proofs Go.Shelf
end Go.Px
end
noncomputable section
namespace Go.Px
open Go Go.Ab Go.Proofs
end Go.Px
end
noncomputable section
set_option maxHeartbeats 3200000
namespace Go.Px
open Go Go.Ab Go.Proofs Go.Shelf
end Go.Px
end
noncomputable section
namespace Go.Px
open Go Go.Ab Go.Proofs
end Go.Px
end
noncomputable section
set_option maxHeartbeats 3200000
namespace Go.Px
open Go Go.Ab Go.Proofs Go.Shelf
def caseV (s t : ByteArray) (n q : Int) (h : Value) : Value := .agg ⟨[.string s, .string t, .int .i64 n, .int .i64 q, h]⟩
end Go.Px
end
noncomputable section
set_option maxHeartbeats 3200000
namespace Go.Px
open Go Go.Ab Go.Proofs Go.Shelf
inductive Sw where
 | nil
 | own (d : List Value) (m cap : Nat)
def Sw.v (q : Nat) : Sw → Value
 | .nil => .slice none 0 0
 | .own _ m cap => .slice (some ⟨q, 0, some 1⟩) m cap
def Sw.b : Sw → Option Blk
 | .nil => none
 | .own d _ _ => some ⟨d, 5, false⟩
def Sw.z : Sw → List Int
 | .nil => []
 | .own d m _ => zc d m
def Sw.ok : Sw → Bool
 | .nil => true
 | .own d m _ => vwOK d m && Nat.ble m 9223372036854775807
def L41 : Env := Env.nil
theorem ok_L41 : EnvOK Tryz.prog L41 := env_nil
def ltGo : List Int → List Int → List Int
 | [], o => o
 | b :: r, o => bif decide ((o.length : Int) < 15) then ltGo r (o ++ [[65, 88, 57].getD (b % 3).toNat 0]) else o
def S41_0 : LSpecA (Sw × ByteArray × Int) where
 live := [0, 3, 4]
 mid := [200]
 n := 210
 ap := [(.tmp 0, 200)]
 dec vs bs := match vs, bs with
  | [.slice none 0 0, .string o, .int .i64 i], [none] => some (.nil, o, i)
  | [.slice (some ⟨200, 0, some 1⟩) m cap, .string o, .int .i64 i], [some ⟨d, 5, false⟩] => some (.own d m cap, o, i)
  | _, _ => none
 pre := fun (p, o, i) => p.ok && decide (0 ≤ i ∧ i ≤ p.z.length ∧ o.size ≤ 15)
 fin := fun (p, o, i) Z => ∀ i', Z (.exit 0) [p.v 200, S (sz (ltGo (p.z.drop i.toNat) (bz o))), I i'] [p.b]
def pnC (b : Int) : Int := [57, 57, 57, 57, 44, 46, 47, 66, 86, 57].getD (b % 10).toNat 0
def pnGo : List Int → List Int → Int → Bool → List Int
 | [], o, _, _ => o
 | b :: r, o, g, p => bif decide ((o.length : Int) < 32) then (bif (pnC b == 57 && g == 9) || (pnC b == 86 && p) then pnGo r o g p
   else pnGo r (o ++ [pnC b]) (bif pnC b == 57 then g + 1 else g) (p || pnC b == 86)) else o
theorem pnC_cases (b : Int) : pnC b = 57 ∨ pnC b = 44 ∨ pnC b = 46 ∨ pnC b = 47 ∨ pnC b = 66 ∨ pnC b = 86 := by
 have h : b % 10 = 0 ∨ b % 10 = 1 ∨ b % 10 = 2 ∨ b % 10 = 3 ∨ b % 10 = 4 ∨ b % 10 = 5 ∨ b % 10 = 6 ∨ b % 10 = 7 ∨ b % 10 = 8 ∨ b % 10 = 9 := by omega
 unfold pnC
 rcases h with q | q | q | q | q | q | q | q | q | q <;> rw [q] <;> decide
def V34_0 : Sw × ByteArray × Int × Bool × Int → List Value := fun (p, o, g, f, i) => [p.v 200, S o, I g, B f, I i]
def B34_0 : Sw × ByteArray × Int × Bool × Int → List (Option Blk) := fun (p, o, g, f, i) => [p.b]
def S34_0 : LSpecA (Sw × ByteArray × Int × Bool × Int) where
 live := [0, 3, 4, 5, 6]
 mid := [200]
 n := 210
 ap := [(.tmp 0, 200)]
 dec vs bs := match vs, bs with
  | [.slice none 0 0, .string o, .int .i64 g, .bool f, .int .i64 i], [none] => some (.nil, o, g, f, i)
  | [.slice (some ⟨200, 0, some 1⟩) m cap, .string o, .int .i64 g, .bool f, .int .i64 i], [some ⟨d, 5, false⟩] => some (.own d m cap, o, g, f, i)
  | _, _ => none
 pre := fun (p, o, g, f, i) => p.ok && decide (0 ≤ i ∧ i ≤ p.z.length ∧ o.size ≤ 32 ∧ 0 ≤ g ∧ g ≤ 9)
 fin := fun (p, o, g, f, i) Z => ∀ g' f' i', Z (.exit 0) [p.v 200, S (sz (pnGo (p.z.drop i.toNat) (bz o) g f)), I g', B f', I i'] [p.b]
theorem r34_0n (o : ByteArray) (g : Int) (f : Bool) (i : Int) (jk : Tmps) (R : Exit → List Value → List (Option Blk) → Prop) : (codeQ Tryz.prog L41 noL Tryz.f34.ntmps (loopOf Tryz.f34 0) (tl S34_0.live (V34_0 (.nil, o, g, f, i)) jk) (ml S34_0.mid (B34_0 (.nil, o, g, f, i))) S34_0.n fun e t' m' _ => S34_0.out R e t' m') = ( bif decide (i < natO 0) || true then bif decide (i < natO 0) && decide ((↑(ByteArray.size o) : Int) < 32) then False else R (Exit.exit 0) [.slice none 0 0, .string o, .int .i64 g, .bool f, .int .i64 i] [none] else False) := by kernel_rfl
theorem r34_0o (d : List Value) (m : Nat) (cap : Nat) (o : ByteArray) (g : Int) (f : Bool) (i : Int) (jk : Tmps) (R : Exit → List Value → List (Option Blk) → Prop) : (codeQ Tryz.prog L41 noL Tryz.f34.ntmps (loopOf Tryz.f34 0) (tl S34_0.live (V34_0 (.own d m cap, o, g, f, i)) jk) (ml S34_0.mid (B34_0 (.own d m cap, o, g, f, i))) S34_0.n fun e t' m' _ => S34_0.out R e t' m') = ( bif decide (i < natO m) || true then bif decide (i < natO m) && decide ((↑(ByteArray.size o) : Int) < 32) then bif decide (0 ≤ i ∧ i < (↑m : Int)) then bif isIntAt IntKind.u8 d (0 + Int.toNat i * 1) then bif decide (0 ≤ Int.tmod (intAt d (0 + Int.toNat i * 1)) 10 ∧ Int.tmod (intAt d (0 + Int.toNat i * 1)) 10 < 10) then bif bif byteAt (ByteArray.mk #[57, 57, 57, 57, 44, 46, 47, 66, 86, 57]) (Int.toNat (Int.tmod (intAt d (0 + Int.toNat i * 1)) 10)) == 57 then g == 9 || (byteAt (ByteArray.mk #[57, 57, 57, 57, 44, 46, 47, 66, 86, 57]) (Int.toNat (Int.tmod (intAt d (0 + Int.toNat i * 1)) 10)) == 86 || true) else byteAt (ByteArray.mk #[57, 57, 57, 57, 44, 46, 47, 66, 86, 57]) (Int.toNat (Int.tmod (intAt d (0 + Int.toNat i * 1)) 10)) == 86 || true then bif bif byteAt (ByteArray.mk #[57, 57, 57, 57, 44, 46, 47, 66, 86, 57]) (Int.toNat (Int.tmod (intAt d (0 + Int.toNat i * 1)) 10)) == 57 then g == 9 || byteAt (ByteArray.mk #[57, 57, 57, 57, 44, 46, 47, 66, 86, 57]) (Int.toNat (Int.tmod (intAt d (0 + Int.toNat i * 1)) 10)) == 86 && f else byteAt (ByteArray.mk #[57, 57, 57, 57, 44, 46, 47, 66, 86, 57]) (Int.toNat (Int.tmod (intAt d (0 + Int.toNat i * 1)) 10)) == 86 && f then bif goodL [(200, 200)] d && true && true then R Exit.normal [.slice (some (.mk 200 0 (some 1))) m cap, .string o, .int .i64 g, .bool f, .int .i64 (IntKind.wrap .i64 (i + 1))] [some (.mk (rlbL [(200, 200)] d) 5 false)] else False else bif byteAt (ByteArray.mk #[57, 57, 57, 57, 44, 46, 47, 66, 86, 57]) (Int.toNat (Int.tmod (intAt d (0 + Int.toNat i * 1)) 10)) == 57 then bif f || true then bif strFit (ByteArray.size o + ByteArray.size (bytesOf [.int .u8 (byteAt (ByteArray.mk #[57, 57, 57, 57, 44, 46, 47, 66, 86, 57]) (Int.toNat (Int.tmod (intAt d (0 + Int.toNat i * 1)) 10)))] 0 1)) then bif goodL [(200, 200)] d && true && true then R Exit.normal [.slice (some (.mk 200 0 (some 1))) m cap, .string (o ++ bytesOf [.int .u8 (byteAt (ByteArray.mk #[57, 57, 57, 57, 44, 46, 47, 66, 86, 57]) (Int.toNat (Int.tmod (intAt d (0 + Int.toNat i * 1)) 10)))] 0 1), .int .i64 (IntKind.wrap .i64 (g + 1)), .bool (f || byteAt (ByteArray.mk #[57, 57, 57, 57, 44, 46, 47, 66, 86, 57]) (Int.toNat (Int.tmod (intAt d (0 + Int.toNat i * 1)) 10)) == 86), .int .i64 (IntKind.wrap .i64 (i + 1))] [some (.mk (rlbL [(200, 200)] d) 5 false)] else False else False else False else bif f || true then bif strFit (ByteArray.size o + ByteArray.size (bytesOf [.int .u8 (byteAt (ByteArray.mk #[57, 57, 57, 57, 44, 46, 47, 66, 86, 57]) (Int.toNat (Int.tmod (intAt d (0 + Int.toNat i * 1)) 10)))] 0 1)) then bif goodL [(200, 200)] d && true && true then R Exit.normal [.slice (some (.mk 200 0 (some 1))) m cap, .string (o ++ bytesOf [.int .u8 (byteAt (ByteArray.mk #[57, 57, 57, 57, 44, 46, 47, 66, 86, 57]) (Int.toNat (Int.tmod (intAt d (0 + Int.toNat i * 1)) 10)))] 0 1), .int .i64 g, .bool (f || byteAt (ByteArray.mk #[57, 57, 57, 57, 44, 46, 47, 66, 86, 57]) (Int.toNat (Int.tmod (intAt d (0 + Int.toNat i * 1)) 10)) == 86), .int .i64 (IntKind.wrap .i64 (i + 1))] [some (.mk (rlbL [(200, 200)] d) 5 false)] else False else False else False else False else False else False else False else bif goodL [(200, 200)] d && true && true then R (Exit.exit 0) [.slice (some (.mk 200 0 (some 1))) m cap, .string o, .int .i64 g, .bool f, .int .i64 i] [some (.mk (rlbL [(200, 200)] d) 5 false)] else False else False) := by kernel_rfl
theorem l34_0 : LOKf Tryz.prog (oneL 0 S34_0.hA) Tryz.f34 := by
 refine lokf_one (h := S34_0.hA) (by kernel_rfl) (loop_specA ok_L41 hmix (by kernel_rfl) (lok_none _) S34_0 V34_0 B34_0 (fun (p, o, g, f, i) => (p.z.length - i).toNat) ?_ ?_ ?_)
 ·intro vs bs s h
  simp only [S34_0] at h
  split at h
  all_goals first | (cases h; exact ⟨rfl, rfl⟩) | cases h | (split at h <;> first | (rename_i hq; cases h; have hq := Nat.eq_of_beq_eq_true hq; subst hq; exact ⟨rfl, rfl⟩) | cases h)
 ·exact fun ⟨p, o, g, f, i⟩ hp => by
   simp only [S34_0, Bool.and_eq_true] at hp
   cases p with
   | nil => simp [V34_0, B34_0, S34_0, idsLt, idsLtB, idsL, ids, Sw.v, Sw.b]
   | own d m cap => simp [V34_0, B34_0, S34_0, idsLt, idsLtB, idsL, ids, Sw.v, Sw.b, ids_plainL (vwOK_iff.1 (Bool.and_eq_true_iff.1 hp.1).1).plain]
 ·intro ⟨p, o, g, f, i⟩ jk Z hp hf
  simp only [S34_0] at hp hf
  cases p with
  | nil =>
   rw [r34_0n]
   have hf : ∀ g' f' i', Z (.exit 0) [.slice none 0 0, S (sz (bz o)), I g', B f', I i'] [none] := fun g' f' i' => by have := hf g' f' i'; simpa [Sw.z, pnGo, Sw.v, Sw.b] using this
   simp only [Bool.and_eq_true, decide_eq_true_eq] at hp
   rw [natO_eq, decide_eq_false (show ¬ i < ((0 : Nat) : Int) by omega)]
   refine c_t rfl (c_f rfl ?_)
   have := hf g f i
   rw [sz_bz] at this
   exact this
  | own d m cap =>
   rw [r34_0o]
   simp only [Bool.and_eq_true, decide_eq_true_eq, Sw.ok, Nat.ble_eq] at hp
   obtain ⟨⟨hV, hm⟩, hp⟩ := hp
   have hv := vwOK_iff.1 hV
   have hzl := hv.zlen
   simp only [Sw.z, hzl] at hp
   have e0 : 0 + i.toNat * 1 = i.toNat := by omega
   have hg : ∀ ps, (goodL ps d && true && true) = true := fun ps => by rw [goodL_plain hv.plain]; rfl
   rw [e0]
   simp only [hv.rlb, natO_eq, hg]
   refine c_t (by simp) (cond_intro (fun h => ?_) (fun h => ?_))
   ·simp only [Bool.and_eq_true, decide_eq_true_eq] at h
    obtain ⟨a1, a2, a3⟩ := hv.at hp.1 h.1
    have hf : ∀ g' f' i', Z (.exit 0) [.slice (some ⟨200, 0, some 1⟩) m cap, S (sz (pnGo ((zc d m).drop i.toNat) (bz o) g f)), I g', B f', I i'] [some ⟨d, 5, false⟩] := hf
    rw [a3, pnGo, decide_eq_true (show ((bz o).length : Int) < 32 by rw [bz_length]; omega), cond_true] at hf
    generalize intAt d i.toNat = b at *
    have et : Int.tmod b 10 = b % 10 := Int.tmod_eq_emod_of_nonneg a2.1
    have ec : byteAt (ByteArray.mk #[57, 57, 57, 57, 44, 46, 47, 66, 86, 57]) (b % 10).toNat = pnC b := by rw [byteAt_eq]; rfl
    have hc6 := pnC_cases b
    have hb3 : 0 ≤ pnC b ∧ pnC b < 256 := by omega
    rw [et, ec, w64 (n := i + 1) (by omega), w64 (n := g + 1) (by omega), a1]
    generalize pnC b = c at *
    have eb : bytesOf [Value.int IntKind.u8 c] 0 1 = sz [c] := rfl
    have es : (sz [c]).size = 1 := rfl
    have ex : (bif c == 57 then g == 9 || c == 86 && f else c == 86 && f) = ((c == 57 && g == 9) || (c == 86 && f)) := by cases c == 57 <;> rfl
    have fin : ∀ (o2 : ByteArray) (g2 : Int) (f2 : Bool), o2.size ≤ 32 → 0 ≤ g2 ∧ g2 ≤ 9 → (∀ g' f' i', Z (.exit 0) [.slice (some ⟨200, 0, some 1⟩) m cap, S (sz (pnGo ((zc d m).drop (i + 1).toNat) (bz o2) g2 f2)), I g', B f', I i'] [some ⟨d, 5, false⟩]) →
      S34_0.step V34_0 B34_0 (fun (p, o, g, f, i) => (p.z.length - i).toNat) (.own d m cap, o, g, f, i) Z Exit.normal [.slice (some ⟨200, 0, some 1⟩) m cap, S o2, I g2, B f2, I (i + 1)] [some ⟨d, 5, false⟩] := fun o2 g2 f2 q1 q2 q3 =>
     ⟨(.own d m cap, o2, g2, f2, i + 1), rfl, rfl, by simp only [S34_0, Bool.and_eq_true, decide_eq_true_eq, Sw.ok, Nat.ble_eq, Sw.z, hzl]; exact ⟨⟨hV, hm⟩, by omega, by omega, q1, q2⟩, by simp only [Sw.z, hzl]; omega, q3⟩
    rw [eb, es, ex]
    have hsf : strFit (o.size + 1) = true := by simp only [strFit, Nat.ble_eq]; omega
    refine c_t (decide_eq_true (by omega)) (c_t rfl (c_t (decide_eq_true (by omega)) (c_t (by cases c == 57 <;> simp) (cond_intro (fun q => c_t rfl ?_) (fun q => ?_)))))
    ·rw [q] at hf
     exact fin o g f hp.2.2.1 hp.2.2.2 hf
    ·rw [q, cond_false] at hf
     have hz : (o ++ sz [c]).size ≤ 32 := by rw [ByteArray.size_append, es]; omega
     have hbo : bz o ++ [c] = bz (o ++ sz [c]) := by rw [bz_append, bz_sz (cons_isB hb3 IsB.nil)]
     rw [hbo] at hf
     cases h57 : c == 57 with
     | true =>
      rw [h57] at hf q
      have g9 : g ≠ 9 := fun z => by rw [z] at q; cases q
      refine c_t rfl (c_t (by simp) (c_t hsf (c_t rfl ?_)))
      exact fin _ _ _ hz (show 0 ≤ g + 1 ∧ g + 1 ≤ 9 by omega) hf
     | false =>
      rw [h57] at hf
      refine c_f rfl (c_t (by simp) (c_t hsf (c_t rfl ?_)))
      exact fin _ _ _ hz hp.2.2.2 hf
   ·have hf : ∀ g' f' i', Z (.exit 0) [.slice (some ⟨200, 0, some 1⟩) m cap, S (sz (pnGo ((zc d m).drop i.toNat) (bz o) g f)), I g', B f', I i'] [some ⟨d, 5, false⟩] := hf
    have e : pnGo ((zc d m).drop i.toNat) (bz o) g f = bz o := by
     by_cases hi : i < m
     ·obtain ⟨_, _, a3⟩ := hv.at hp.1 hi
      have ho : ¬ (o.size : Int) < 32 := fun q => by
       rw [decide_eq_true hi, decide_eq_true q] at h; cases h
      rw [a3, pnGo, decide_eq_false (show ¬ ((bz o).length : Int) < 32 by rw [bz_length]; exact ho), cond_false]
     ·rw [hv.end (by omega), pnGo]
    rw [e, sz_bz] at hf
    exact c_t rfl (hf g f i)
theorem viewL_none : viewL [none] = fun _ => none := by
 funext k
 cases k with
 | zero => rfl
 | succ k => rfl
theorem viewL_vw {d : List Value} {own : Bool} (h : plainL d = true) : viewL [some ⟨d, 5, own⟩] = vw d 5 := vw_viewL h [] (fun _ h => by cases h)
def s41 : Ab.Spec := fun args bs => match args, bs with
 | [.slice none 0 0], [none] => some (true, .string (sz (ltGo [] [] ++ [88])))
 | [.slice (some ⟨_, 0, some 1⟩) l c], [some ⟨d, 5, _⟩] => some (Sw.ok (.own d l c), .string (sz (ltGo (zc d l) [] ++ [88])))
 | _, _ => none
def s34 : Ab.Spec := fun args bs => match args, bs with
 | [.slice none 0 0], [none] => some (true, .string (sz (pnGo [] [57] 1 false)))
 | [.slice (some ⟨_, 0, some 1⟩) l c], [some ⟨d, 5, _⟩] => some (Sw.ok (.own d l c), .string (sz (pnGo (zc d l) [57] 1 false)))
 | _, _ => none
theorem v34n (u : Bool) (R : Value → Prop) : (bodyQ Tryz.prog L41 (oneL 0 S34_0.hA) Tryz.f34 [.slice none 0 0] (fun _ => none) 1 (fun v _ _ => R v)) = ( ∀ (g' : Int) (f' : Bool) (i' : Int) (x : Tmps), R (.string (sz (pnGo [] (bz (ByteArray.mk #[57])) 1 false)))) := by kernel_rfl
theorem v34o (d : List Value) (l : Nat) (c : Nat) (R : Value → Prop) : (bodyQ Tryz.prog L41 (oneL 0 S34_0.hA) Tryz.f34 [.slice (some ⟨0, 0, some 1⟩) l c] (vw d 5) 1 (fun v _ _ => R v)) = ( bif goodL [(0, 200)] d && true && true && (idsLt 210 (rlbL [(0, 200)] d) && true) then bif LSpec.pre (LSpecA.toLSpec S34_0) (Sw.own (rlbL [(0, 200)] d) l c, ByteArray.mk #[57], 1, false, 0) then ∀ (g' : Int) (f' : Bool) (i' : Int), bif idsLt 210 (rlbL [(0, 200)] d) && true then ∀ (x : Tmps), R (.string (sz (pnGo (List.drop (Int.toNat 0) (zc (rlbL [(0, 200)] d) l)) (bz (ByteArray.mk #[57])) 1 false))) else False else False else False) := by kernel_rfl
theorem fn34 : Fn1 Tryz.prog 34 Tryz.f34 := ⟨Tryz.func34, by kernel_rfl, by kernel_rfl, by kernel_rfl⟩
theorem w34n : DoesT Tryz.prog L41 (oneL 0 S34_0.hA) Tryz.f34 [.slice none 0 0] (fun _ => none) 1 (.string (sz (pnGo [] [57] 1 false))) := by
 rw [DoesT, v34n true]
 exact fun _ _ _ _ => rfl
theorem w34o {d : List Value} {l c : Nat} (h : Sw.ok (.own d l c) = true) : DoesT Tryz.prog L41 (oneL 0 S34_0.hA) Tryz.f34 [.slice (some ⟨0, 0, some 1⟩) l c] (vw d 5) 1 (.string (sz (pnGo (zc d l) [57] 1 false))) := by
 rw [DoesT, v34o]
 obtain ⟨hV, hm⟩ := Bool.and_eq_true_iff.1 h
 have hv := vwOK_iff.1 hV
 have hg : (goodL [(0, 200)] d && true && true && (idsLt 210 d && true)) = true := by rw [goodL_plain hv.plain]; simp [idsLt, idsL, ids_plainL hv.plain]
 have hi : (idsLt 210 d && true) = true := by simp [idsLt, idsL, ids_plainL hv.plain]
 have z0 : Int.toNat 0 = 0 := rfl
 simp only [hv.rlb, z0, List.drop_zero]
 have e : bz (ByteArray.mk #[57]) = [57] := rfl
 rw [e]
 refine c_t hg (c_t ?_ fun _ _ _ => c_t hi fun _ => rfl)
 show (Sw.ok (.own d l c) && decide ((0 : Int) ≤ 0 ∧ (0 : Int) ≤ (zc d l).length ∧ (ByteArray.mk #[57]).size ≤ 32 ∧ (0 : Int) ≤ 1 ∧ (1 : Int) ≤ 9)) = true
 rw [h, Bool.true_and, decide_eq_true_eq]
 exact ⟨by omega, by omega, by decide, by omega, by omega⟩
theorem doesT_VQ {G : Env} {L : Nat → Option LoopH} {fn : Func} {args : List Value} {bs : List (Option Blk)} {m : Lk} {n : Nat} {v : Value} (hm : viewL bs = m) (h : DoesT Tryz.prog G L fn args m n v) : DoesVQ Tryz.prog G L fn args bs n v := by
 rw [DoesVQ, hm]
 rw [DoesT] at h
 exact h
theorem ok34 : PureOK Tryz.prog 34 s34 := by
 refine pure_viewQ ok_L41 hmix fn34 l34_0 fun args bs v hs => ?_
 simp only [s34] at hs
 split at hs
 ·simp only [Option.some.injEq, Prod.mk.injEq, true_and] at hs
  subst hs
  exact ⟨_, 1, rfl, rfl, Nat.le_of_ble_eq_true (by kernel_rfl), doesT_VQ viewL_none w34n⟩
 ·simp only [Option.some.injEq, Prod.mk.injEq] at hs
  obtain ⟨hc, rfl⟩ := hs
  exact ⟨_, 1, rfl, rfl, Nat.le_of_ble_eq_true (by kernel_rfl), doesT_VQ (viewL_vw (vwOK_iff.1 (Bool.and_eq_true_iff.1 hc).1).plain) (w34o hc)⟩
 ·cases hs
end Go.Px
end
noncomputable section
namespace Go.Px
open Go Go.Ab Go.Proofs
theorem up_kL {c : Int} (h : hasZ kL c = true) : upZ c = c ∧ c ≠ 40 ∧ c ≠ 41 := by
 have hk : c ∈ kL := hasZ_iff.1 h
 simp only [kL, List.mem_cons, List.not_mem_nil, or_false] at hk
 rcases hk with rfl | rfl | rfl | rfl | rfl | rfl | rfl | rfl | rfl | rfl | rfl | rfl | rfl | rfl | rfl | rfl | rfl | rfl | rfl | rfl <;> decide
theorem xp_id : ∀ (l out : List Int), allK l = true → out.length + l.length ≤ 32 → xpGo l 0 0 out = (out ++ l, true)
 | [], out, _, _ => by rw [xpGo, List.append_nil]; rfl
 | c :: r, out, h, hl => by
  have h : hasZ kL c = true ∧ allK r = true := by
   simp only [allK, List.all_cons, Bool.and_eq_true] at h
   exact h
  obtain ⟨u1, u2, u3⟩ := up_kL h.1
  rw [List.length_cons] at hl
  rw [xpGo, if_neg (by decide), if_neg (fun q => q.elim u3 (fun q => absurd q.1 (by decide))), if_neg u2, u1, if_pos ⟨h.1, by rw [if_neg (by decide)]; omega⟩, if_neg (by decide)]
  have e : rep1 c (1 : Int).toNat = [c] := rfl
  rw [e, xp_id r (out ++ [c]) h.2 (by rw [List.length_append]; simp; omega), List.append_assoc]
  rfl
theorem ex_id {l : List Int} (h : allK l = true) (h0 : l ≠ []) (h32 : l.length ≤ 32) : exOK l = true ∧ exZ l = l := by
 have e := xp_id l [] h (by simpa using h32)
 have e1 : exOK l = true := by
  rw [exOK, e]
  cases l with
  | nil => exact absurd rfl h0
  | cons c r => rfl
 exact ⟨e1, by rw [exZ, if_pos e1, e]; rfl⟩
structure PlP (P : List Int) : Prop where
 ch : ∀ c ∈ P, c = 57 ∨ c = 44 ∨ c = 46 ∨ c = 47 ∨ c = 66 ∨ c = 86
 n9 : 1 ≤ cntZ P 57 ∧ cntZ P 57 ≤ 9
 n1 : cntZ P 86 ≤ 1
 l32 : P.length ≤ 32
theorem cnt_snoc (o : List Int) (x c : Int) : cntZ (o ++ [x]) c = cntZ o c + (if x = c then 1 else 0) := by
 rw [cnt_app]
 congr 1
 by_cases h : x = c
 ·rw [if_pos h]; simp [cntZ, h]
 ·rw [if_neg h]; simp [cntZ, h]
theorem pn_inv : ∀ (l o : List Int) (g : Int) (p : Bool), PlP o → (cntZ o 57 : Int) = g → (p = false → cntZ o 86 = 0) → PlP (pnGo l o g p)
 | [], o, g, p, h, _, _ => h
 | b :: r, o, g, p, h, hg, hp => by
  rw [pnGo]
  by_cases hl : (o.length : Int) < 32
  ·rw [decide_eq_true hl, cond_true]
   cases hs : (pnC b == 57 && g == 9) || (pnC b == 86 && p) with
   | true => exact pn_inv r o g p h hg hp
   | false =>
    rw [cond_false]
    simp only [Bool.or_eq_false_iff, Bool.and_eq_false_imp, beq_iff_eq, beq_eq_false_iff_ne] at hs
    obtain ⟨s1, s2⟩ := hs
    have hc := pnC_cases b
    have c57 := cnt_snoc o (pnC b) 57
    have c86 := cnt_snoc o (pnC b) 86
    refine pn_inv r _ _ _ ⟨?_, ?_, ?_, ?_⟩ ?_ ?_
    ·intro c hcm
     rcases List.mem_append.1 hcm with q | q
     ·exact h.ch c q
     ·rw [List.mem_singleton.1 q]; omega
    ·have := h.n9
     rw [c57]
     by_cases q : pnC b = 57
     ·have := s1 q
      rw [if_pos q]; omega
     ·rw [if_neg q]; omega
    ·have := h.n1
     rw [c86]
     by_cases q : pnC b = 86
     ·have := hp (s2 q)
      rw [if_pos q]; omega
     ·rw [if_neg q]; omega
    ·rw [List.length_append]; simp; omega
    ·rw [c57]
     by_cases q : pnC b = 57
     ·rw [if_pos q, beq_iff_eq.2 q, cond_true]; omega
     ·rw [if_neg q, beq_eq_false_iff_ne.2 q, cond_false]; omega
    ·intro q
     simp only [Bool.or_eq_false_iff, beq_eq_false_iff_ne] at q
     rw [c86, if_neg q.2, hp q.1]
  ·rw [decide_eq_false hl]; exact h
theorem pl_start : PlP [57] := ⟨by simp, by decide, by decide, by decide⟩
theorem PlP.kL {P : List Int} (h : PlP P) : allK P = true := by
 simp only [allK, List.all_eq_true]
 intro c hc
 rcases h.ch c hc with rfl | rfl | rfl | rfl | rfl | rfl <;> decide
theorem PlP.no {P : List Int} (h : PlP P) {c : Int} (hc : c ≠ 57 ∧ c ≠ 44 ∧ c ≠ 46 ∧ c ≠ 47 ∧ c ≠ 66 ∧ c ≠ 86) : c ∉ P := fun q => by
 have := h.ch c q
 omega
theorem PlP.noZ {P : List Int} (h : PlP P) {c : Int} (hc : c ≠ 57 ∧ c ≠ 44 ∧ c ≠ 46 ∧ c ≠ 47 ∧ c ≠ 66 ∧ c ≠ 86) : hasZ P c = false := by
 cases e : hasZ P c with
 | false => rfl
 | true => exact absurd (hasZ_iff.1 e) (h.no hc)
theorem PlP.sub {P : List Int} (h : ∀ c ∈ P, c = 57 ∨ c = 44 ∨ c = 46 ∨ c = 47 ∨ c = 66 ∨ c = 86) (seen : Bool) : ∀ c ∈ P, mk1 0 seen c = bif c == 57 then 100 else bif c == 86 then 118 else 105 := fun c hc => by
 rcases h c hc with rfl | rfl | rfl | rfl | rfl | rfl <;> cases seen <;> decide
theorem pl_ldGo : ∀ (P : List Int) (seen fm pt : Bool) (dg : Int), (∀ c ∈ P, c = 57 ∨ c = 44 ∨ c = 46 ∨ c = 47 ∨ c = 66 ∨ c = 86) →
  (ldGo (mkGo 0 seen P) fm false pt dg).1 = true ∧ (ldGo (mkGo 0 seen P) fm false pt dg).2.2.1 = false ∧ (ldGo (mkGo 0 seen P) fm false pt dg).2.2.2 = dg + cntZ P 57
 | [], _, _, _, dg, _ => ⟨rfl, rfl, by simp [mkGo, ldGo, cntZ]⟩
 | c :: r, seen, fm, pt, dg, h => by
  have hr : ∀ x ∈ r, x = 57 ∨ x = 44 ∨ x = 46 ∨ x = 47 ∨ x = 66 ∨ x = 86 := fun x hx => h x (List.mem_cons_of_mem _ hx)
  have e := PlP.sub h seen c List.mem_cons_self
  have cc := cnt_cons c 57 r
  rw [mkGo, e, ldGo]
  have ih := fun seen fm pt dg => pl_ldGo r seen fm pt dg hr
  by_cases h57 : c = 57
  ·subst h57
   rw [if_pos rfl] at cc
   obtain ⟨i1, i2, i3⟩ := ih (seen || ((0 : Int) != 0 && (57 : Int) == 0)) true pt (dg + 1)
   refine ⟨i1, i2, ?_⟩
   rw [cc]
   exact i3.trans (by omega)
  ·rw [if_neg h57] at cc
   rw [beq_eq_false_iff_ne.2 h57, cond_false]
   by_cases h86 : c = 86
   ·subst h86
    obtain ⟨i1, i2, i3⟩ := ih (seen || ((0 : Int) != 0 && (86 : Int) == 0)) fm true dg
    exact ⟨i1, i2, by rw [cc, Int.zero_add]; exact i3⟩
   ·rw [beq_eq_false_iff_ne.2 h86]
    obtain ⟨i1, i2, i3⟩ := ih (seen || ((0 : Int) != 0 && c == 0)) fm pt dg
    exact ⟨i1, i2, by rw [cc, Int.zero_add]; exact i3⟩
theorem crZ_no {P : List Int} (h : PlP P) : crZ P = false := by
 cases e : crZ P with
 | false => rfl
 | true =>
  exfalso
  simp only [crZ, Bool.and_eq_true, Bool.or_eq_true, decide_eq_true_eq] at e
  rcases e.2 with q | q
  ·have : (67 : Int) ∈ P := List.mem_of_mem_drop (by rw [q]; exact List.mem_cons_self)
   exact h.no (by omega) this
  ·have : (68 : Int) ∈ P := List.mem_of_mem_drop (by rw [q]; exact List.mem_cons_self)
   exact h.no (by omega) this
theorem stGo_none (dr : Int) (body ms : List Int) : ∀ (l : List Int) (i : Int), (∀ c ∈ l, hasZ [36, 83, 43, 45] c = false) → stGo dr body ms l i = true
 | [], _, _ => rfl
 | c :: r, i, h => by
  rw [stGo, h c List.mem_cons_self, stGo_none dr body ms r _ fun x hx => h x (List.mem_cons_of_mem _ hx)]
  rfl
structure PlF (P : List Int) : Prop where
 num : numV P = true
 sg : signsZ P = 0
 ms : marksZ P = mkGo 0 false P
 n99 : hasZ (marksZ P) 99 = false
theorem pl_num {P : List Int} (h : PlP P) : PlF P := by
 have hcr := crZ_no h
 have hb : bodyZ P = P := by rw [bodyZ, hcr, if_neg (by decide)]
 have hs4 : ∀ c ∈ P, hasZ [36, 83, 43, 45] c = false := fun c hc => by
  rcases h.ch c hc with rfl | rfl | rfl | rfl | rfl | rfl <;> decide
 have hdr : drZ P = 0 := drGo_none P P hs4
 have hms : marksZ P = mkGo 0 false P := by rw [marksZ, hb, hdr, hcr, if_neg (by decide), List.append_nil]
 have h9 := h.n9
 obtain ⟨l1, l2, l3⟩ := pl_ldGo P false false false 0 h.ch
 have hch : charZ P = false := by
  rw [charZ, h.noZ (c := 65) (by omega), h.noZ (c := 88) (by omega)]
  simp
 have hany : P.any (hasZ [65, 88, 67, 68]) = false := by
  rw [List.any_eq_false]
  intro c hc
  rcases h.ch c hc with rfl | rfl | rfl | rfl | rfl | rfl <;> decide
 have hsg : signsZ P = 0 := by
  rw [signsZ, hb, hcr, h.noZ (c := 83) (by omega), h.noZ (c := 43) (by omega), h.noZ (c := 45) (by omega), cnt_none (h.no (c := 84) (by omega)), cnt_none (h.no (c := 73) (by omega)), cnt_none (h.no (c := 82) (by omega))]
  rfl
 have hld : leadsZ P (marksZ P) = true := by
  rw [leadsZ, h.noZ (c := 90) (by omega), h.noZ (c := 42) (by omega), hms, l1, l2, l3]
  simp
  omega
 have hst : statsZ P (marksZ P) = true := stGo_none _ _ _ _ _ hs4
 refine ⟨?_, hsg, hms, ?_⟩
 ·rw [numV, hch, hb, hany, hsg, hld, hst, driftsZ, hdr]
  have := h.n1
  simp
  omega
 ·cases e : hasZ (marksZ P) 99 with
  | false => rfl
  | true =>
   exfalso
   have := hasZ_iff.1 e
   rw [hms] at this
   rcases mk_99_mem this with ⟨x, hx, q⟩ | ⟨q, _⟩
   ·rcases h.ch x hx with rfl | rfl | rfl | rfl | rfl | rfl <;> revert q <;> decide
   ·exact q rfl
theorem pl_pN {P : List Int} (h : PlP P) : pN P = true ∧ pS P = P ∧ pG P = false := by
 have h9 := h.n9
 have h0 : P ≠ [] := fun q => by rw [q] at h9; simp [cntZ] at h9
 obtain ⟨e1, e2⟩ := ex_id h.kL h0 h.l32
 have F := pl_num h
 have hN : pN P = true := by rw [pN, e1, e2, F.num]; rfl
 refine ⟨hN, by rw [pS, if_pos (pN_vOK hN), e2], ?_⟩
 rw [pG, e2, F.sg]
 simp
def tpGo : List Int → List Int → List Int
 | [], _ => []
 | c :: r, ds => bif c == 86 then tpGo r ds else bif c == 57 then ds.headD 0 :: tpGo r ds.tail else (bif c == 66 then 32 else c) :: tpGo r ds
theorem pl_fd {fl : Int} {neg : Bool} : ∀ (P ds : List Int) (seen : Bool) (o : Int), 0 ≤ o → (∀ c ∈ P, c = 57 ∨ c = 44 ∨ c = 46 ∨ c = 47 ∨ c = 66 ∨ c = 86) →
  fdGo 0 fl 0 neg (mkGo 0 seen P) P ds o = tpGo P ds
 | [], _, _, _, _, _ => rfl
 | c :: r, ds, seen, o, ho, h => by
  have hr : ∀ x ∈ r, x = 57 ∨ x = 44 ∨ x = 46 ∨ x = 47 ∨ x = 66 ∨ x = 86 := fun x hx => h x (List.mem_cons_of_mem _ hx)
  have e := PlP.sub h seen c List.mem_cons_self
  rw [mkGo, e, fd_cons, tpGo, List.tail_cons, List.headD_cons]
  have ih := fun ds seen o ho => pl_fd (fl := fl) (neg := neg) r ds seen o ho hr
  by_cases h57 : c = 57
  ·subst h57
   show fmZ 57 (ds.headD 0) neg :: fdGo 0 fl 0 neg _ r ds.tail (o + 1) = ds.headD 0 :: tpGo r ds.tail
   rw [ih _ _ _ (by omega)]
   rfl
  ·rw [beq_eq_false_iff_ne.2 h57, cond_false]
   by_cases h86 : c = 86
   ·subst h86
    show fdGo 0 fl 0 neg _ r ds o = tpGo r ds
    exact ih _ _ _ ho
   ·rw [beq_eq_false_iff_ne.2 h86, cond_false, cond_false, cond_false]
    show (bif c == 66 then 32 else bif decide (o < 0) then fl else c) :: fdGo 0 fl 0 neg _ r ds (o + 1) = _
    rw [ih _ _ _ (by omega), decide_eq_false (show ¬ o < 0 by omega)]
    rfl
theorem pl_field {P : List Int} (h : PlP P) (n : Int) : fdN P n = tpGo P (digZ n.natAbs (pD P).toNat) := by
 obtain ⟨h1, h2, _⟩ := pl_pN h
 have F := pl_num h
 have hle : fdLe (pS P) (pW P) (pD P).toNat n = 0 := by rw [fdLe, endZ, h2, F.n99]; rfl
 have hbl : fdBl (pS P) (pW P) (pD P).toNat n = false := by rw [fdBl, hle]; rfl
 have hdr : fdDr (pS P) = 0 := by rw [fdDr, h2, F.n99]; simp
 rw [fdN, fieldZ, hbl, hdr]
 show fdOut (pS P) (pW P) (pD P).toNat n = _
 rw [fdOut, hle, hdr, h2, F.ms]
 exact pl_fd P _ false 0 (by omega) h.ch
theorem pl_pd : ∀ (P : List Int) (seen : Bool), (∀ c ∈ P, c = 57 ∨ c = 44 ∨ c = 46 ∨ c = 47 ∨ c = 66 ∨ c = 86) → pdGo (mkGo 0 seen P) = cntZ P 57
 | [], _, _ => rfl
 | c :: r, seen, h => by
  have hr : ∀ x ∈ r, x = 57 ∨ x = 44 ∨ x = 46 ∨ x = 47 ∨ x = 66 ∨ x = 86 := fun x hx => h x (List.mem_cons_of_mem _ hx)
  have e := PlP.sub h seen c List.mem_cons_self
  rw [mkGo, e, pd_cons, pl_pd r _ hr, cnt_cons]
  rcases h c List.mem_cons_self with rfl | rfl | rfl | rfl | rfl | rfl <;> simp [isP]
def lexZ : List Int → List Int → Bool
 | _, [] => false
 | [], _ :: _ => true
 | a :: r, b :: s => decide (a < b) || (a == b && lexZ r s)
theorem lex_tp : ∀ (P ds es : List Int), cntZ P 57 = ds.length → es.length = ds.length → lexZ (tpGo P ds) (tpGo P es) = lexZ ds es ∧ (tpGo P ds = tpGo P es ↔ ds = es)
 | [], ds, es, h1, h2 => by
  have e1 : ds = [] := List.eq_nil_of_length_eq_zero (by rw [← h1]; rfl)
  have e2 : es = [] := List.eq_nil_of_length_eq_zero (by rw [h2, e1]; rfl)
  rw [e1, e2]
  exact ⟨rfl, by simp⟩
 | c :: r, ds, es, h1, h2 => by
  have cc := cnt_cons c 57 r
  rw [tpGo, tpGo]
  by_cases h86 : c = 86
  ·subst h86
   rw [if_neg (by decide)] at cc
   exact lex_tp r ds es (by omega) h2
  ·rw [beq_eq_false_iff_ne.2 h86, cond_false, cond_false]
   by_cases h57 : c = 57
   ·subst h57
    rw [if_pos rfl] at cc
    cases ds with
    | nil => simp at h1; omega
    | cons d ds =>
     cases es with
     | nil => simp at h2
     | cons e es =>
      rw [List.length_cons] at h1 h2
      rw [List.length_cons] at h2
      obtain ⟨i1, i2⟩ := lex_tp r ds es (by omega) (by omega)
      rw [beq_self_eq_true, cond_true, cond_true, List.headD_cons, List.headD_cons, List.tail_cons, List.tail_cons, lexZ, lexZ, i1]
      exact ⟨rfl, by rw [List.cons.injEq, List.cons.injEq, i2]⟩
   ·rw [if_neg h57] at cc
    rw [beq_eq_false_iff_ne.2 h57, cond_false, cond_false]
    obtain ⟨i1, i2⟩ := lex_tp r ds es (by omega) h2
    rw [lexZ, i1]
    exact ⟨by simp, by rw [List.cons.injEq, i2]; simp⟩
theorem lex_dval : ∀ (ds es : List Int), dgL ds = true → dgL es = true → es.length = ds.length → lexZ ds es = decide (dval ds < dval es)
 | [], [], _, _, _ => by simp [lexZ]
 | [], _ :: _, _, _, h => by simp at h
 | _ :: _, [], _, _, h => by simp at h
 | a :: r, b :: s, h1, h2, h3 => by
  obtain ⟨a1, a2⟩ := dgL_cons.1 h1
  obtain ⟨b1, b2⟩ := dgL_cons.1 h2
  have hl : s.length = r.length := by simpa using h3
  have ea : dval (a :: r) = (a - 48) * tenZ r.length + dval r := by
   have := dval_app [a] r
   rw [List.singleton_append] at this
   rw [this]
   congr 1
   simp [dval, numZ]
  have eb : dval (b :: s) = (b - 48) * tenZ r.length + dval s := by
   have := dval_app [b] s
   rw [List.singleton_append, hl] at this
   rw [this]
   congr 1
   simp [dval, numZ]
  have ra := dval_rng r a2
  have rb := dval_rng s b2
  rw [hl] at rb
  rw [lexZ, lex_dval r s a2 b2 hl, ea, eb]
  generalize dval r = x at *
  generalize dval s = y at *
  generalize tenZ r.length = T at *
  rw [Bool.eq_iff_iff]
  simp only [Bool.or_eq_true, Bool.and_eq_true, decide_eq_true_eq, beq_iff_eq]
  rcases Int.lt_trichotomy a b with q | q | q
  ·refine ⟨fun _ => ?_, fun _ => .inl q⟩
   have : (a - 48 + 1) * T ≤ (b - 48) * T := Int.mul_le_mul_of_nonneg_right (by omega) (by omega)
   rw [Int.add_mul, Int.one_mul] at this
   omega
  ·subst q
   refine ⟨fun z => ?_, fun z => .inr ⟨rfl, by omega⟩⟩
   rcases z with z | z
   ·omega
   ·omega
  ·refine ⟨fun z => by omega, fun z => ?_⟩
   exfalso
   have : (b - 48 + 1) * T ≤ (a - 48) * T := Int.mul_le_mul_of_nonneg_right (by omega) (by omega)
   rw [Int.add_mul, Int.one_mul] at this
   omega
theorem bl_lex : ∀ a b : List UInt8, Op.bytesLess a b = lexZ (zl a) (zl b)
 | [], [] => rfl
 | _ :: _, [] => rfl
 | [], _ :: _ => rfl
 | a :: r, b :: s => by
  show Op.bytesLess (a :: r) (b :: s) = (decide ((a.toNat : Int) < b.toNat) || ((a.toNat : Int) == b.toNat && lexZ (zl r) (zl s)))
  rw [Op.bytesLess, bl_lex r s]
  have e1 : decide (a < b) = decide ((a.toNat : Int) < b.toNat) := by
   rw [Bool.eq_iff_iff, decide_eq_true_eq, decide_eq_true_eq, UInt8.lt_iff_toNat_lt]
   omega
  have e2 : (a == b) = ((a.toNat : Int) == b.toNat) := by
   rw [Bool.eq_iff_iff, beq_iff_eq, beq_iff_eq, u8_eq]
  rw [← e1, ← e2]
theorem less_lex (a b : ByteArray) : Op.bytesLess a.toList b.toList = lexZ (bz a) (bz b) := by
 rw [ByteArray.toList_eq, ByteArray.toList_eq, bl_lex]
 rfl
end Go.Px
end
noncomputable section
namespace Go.Px
open Go Go.Ab Go.Proofs
structure LtP (L : List Int) : Prop where
 ch : ∀ c ∈ L, c = 65 ∨ c = 88 ∨ c = 57
 x : 88 ∈ L
 l32 : L.length ≤ 32
theorem LtP.app {a b : List Int} (ha : LtP a) (hb : LtP b) (h : a.length + b.length ≤ 32) : LtP (a ++ b) :=
 ⟨fun c hc => (List.mem_append.1 hc).elim (ha.ch c) (hb.ch c), List.mem_append_left _ ha.x, by rw [List.length_append]; exact h⟩
end Go.Px
end
noncomputable section
set_option maxHeartbeats 3200000
namespace Go.Px
open Go Go.Ab Go.Proofs Go.Shelf
def L43 : Env := Env.nil.add 79 (sp1 s79)
theorem ok_L43 : EnvOK Tryz.prog L43 := env_add env_nil ok79
def rlen : List Int → Nat
 | [] => 0
 | [_] => 0
 | c :: d :: r => if c = d then rlen (d :: r) + 1 else 0
def bt (k h : Int) : Bool := IntKind.wrap IntKind.u8 (((BitVec.ofInt 8 h &&& BitVec.ofInt 8 k).toNat : Nat) : Int) != 0
def rk (h : Int) (l : List Int) : Int := bif bt 2 h then (rlen l : Int) else 0
def V43_2 : ByteArray × Sw × ByteArray × Int × Int × Int × Int → List Value := fun (s, p, o, i, h, c, n) => [S s, p.v 260, S o, I i, C8 h, C8 c, I n]
def B43_2 : ByteArray × Sw × ByteArray × Int × Int × Int × Int → List (Option Blk) := fun (s, p, o, i, h, c, n) => [p.b]
def S43_2 : LSpecA (ByteArray × Sw × ByteArray × Int × Int × Int × Int) where
 live := [0, 1, 5, 6, 7, 8, 9]
 mid := [260]
 n := 270
 ap := [(.tmp 1, 260)]
 dec vs bs := match vs, bs with
  | [.string s, .slice none 0 0, .string o, .int .i64 i, .int .u8 h, .int .u8 c, .int .i64 n], [none] => some (s, .nil, o, i, h, c, n)
  | [.string s, .slice (some ⟨260, 0, some 1⟩) m cap, .string o, .int .i64 i, .int .u8 h, .int .u8 c, .int .i64 n], [some ⟨d, 5, false⟩] => some (s, .own d m cap, o, i, h, c, n)
  | _, _ => none
 pre := fun (s, p, o, i, h, c, n) => p.ok && decide (0 ≤ i ∧ i < s.size ∧ s.size ≤ 1000 ∧ 0 ≤ n ∧ n ≤ i + 1)
 fin := fun (s, p, o, i, h, c, n) Z => Z (.exit 2) [S s, p.v 260, S o, I (i + rk h ((bz s).drop i.toNat)), C8 h, C8 c, I (n + rk h ((bz s).drop i.toNat))] [p.b]
theorem r43_2n (s : ByteArray) (o : ByteArray) (i : Int) (h : Int) (c : Int) (n : Int) (jk : Tmps) (R : Exit → List Value → List (Option Blk) → Prop) : (codeQ Tryz.prog L43 noL Tryz.f43.ntmps (loopOf Tryz.f43 2) (tl S43_2.live (V43_2 (s, .nil, o, i, h, c, n)) jk) (ml S43_2.mid (B43_2 (s, .nil, o, i, h, c, n))) S43_2.n fun e t' m' _ => S43_2.out R e t' m') = ( bif bif IntKind.wrap .u8 (↑(BitVec.toNat (BitVec.ofInt 8 h &&& BitVec.ofInt 8 2)) : Int) != 0 then bif decide (IntKind.wrap .i64 (i + 1) < (↑(ByteArray.size s) : Int)) then decide (0 ≤ IntKind.wrap .i64 (i + 1) ∧ IntKind.wrap .i64 (i + 1) < (↑(ByteArray.size s) : Int)) && (decide (0 ≤ i ∧ i < (↑(ByteArray.size s) : Int)) && true) else true else true then bif IntKind.wrap .u8 (↑(BitVec.toNat (BitVec.ofInt 8 h &&& BitVec.ofInt 8 2)) : Int) != 0 && (decide (IntKind.wrap .i64 (i + 1) < (↑(ByteArray.size s) : Int)) && byteAt s (Int.toNat (IntKind.wrap .i64 (i + 1))) == byteAt s (Int.toNat i)) then R Exit.normal [.string s, .slice none 0 0, .string o, .int .i64 (IntKind.wrap .i64 (i + 1)), .int .u8 h, .int .u8 c, .int .i64 (IntKind.wrap .i64 (n + 1))] [none] else R (Exit.exit 2) [.string s, .slice none 0 0, .string o, .int .i64 i, .int .u8 h, .int .u8 c, .int .i64 n] [none] else False) := by kernel_rfl
theorem r43_2o (s : ByteArray) (d : List Value) (m : Nat) (cap : Nat) (o : ByteArray) (i : Int) (h : Int) (c : Int) (n : Int) (jk : Tmps) (R : Exit → List Value → List (Option Blk) → Prop) : (codeQ Tryz.prog L43 noL Tryz.f43.ntmps (loopOf Tryz.f43 2) (tl S43_2.live (V43_2 (s, .own d m cap, o, i, h, c, n)) jk) (ml S43_2.mid (B43_2 (s, .own d m cap, o, i, h, c, n))) S43_2.n fun e t' m' _ => S43_2.out R e t' m') = ( bif bif IntKind.wrap .u8 (↑(BitVec.toNat (BitVec.ofInt 8 h &&& BitVec.ofInt 8 2)) : Int) != 0 then bif decide (IntKind.wrap .i64 (i + 1) < (↑(ByteArray.size s) : Int)) then decide (0 ≤ IntKind.wrap .i64 (i + 1) ∧ IntKind.wrap .i64 (i + 1) < (↑(ByteArray.size s) : Int)) && (decide (0 ≤ i ∧ i < (↑(ByteArray.size s) : Int)) && true) else true else true then bif IntKind.wrap .u8 (↑(BitVec.toNat (BitVec.ofInt 8 h &&& BitVec.ofInt 8 2)) : Int) != 0 && (decide (IntKind.wrap .i64 (i + 1) < (↑(ByteArray.size s) : Int)) && byteAt s (Int.toNat (IntKind.wrap .i64 (i + 1))) == byteAt s (Int.toNat i)) then bif goodL [(260, 260)] d && true && true then R Exit.normal [.string s, .slice (some (.mk 260 0 (some 1))) m cap, .string o, .int .i64 (IntKind.wrap .i64 (i + 1)), .int .u8 h, .int .u8 c, .int .i64 (IntKind.wrap .i64 (n + 1))] [some (.mk (rlbL [(260, 260)] d) 5 false)] else False else bif goodL [(260, 260)] d && true && true then R (Exit.exit 2) [.string s, .slice (some (.mk 260 0 (some 1))) m cap, .string o, .int .i64 i, .int .u8 h, .int .u8 c, .int .i64 n] [some (.mk (rlbL [(260, 260)] d) 5 false)] else False else False) := by kernel_rfl
theorem l43_2 : ∀ t m n K, S43_2.hA t m n K → Ab.Sem Tryz.prog Tryz.f43.ntmps (.loop (loopOf Tryz.f43 2)) t m n K := by
 refine loop_specA ok_L43 hmix (by kernel_rfl) (lok_none _) S43_2 V43_2 B43_2 (fun (s, p, o, i, h, c, n) => (s.size - i).toNat) ?_ ?_ ?_
 ·intro vs bs s h
  simp only [S43_2] at h
  split at h
  all_goals first | (cases h; exact ⟨rfl, rfl⟩) | cases h | (split at h <;> first | (rename_i hq; cases h; have hq := Nat.eq_of_beq_eq_true hq; subst hq; exact ⟨rfl, rfl⟩) | cases h)
 ·exact fun ⟨s, p, o, i, h, c, n⟩ hp => by
   simp only [S43_2, Bool.and_eq_true] at hp
   cases p with
   | nil => simp [V43_2, B43_2, S43_2, idsLt, idsLtB, idsL, ids, Sw.v, Sw.b]
   | own d m cap => simp [V43_2, B43_2, S43_2, idsLt, idsLtB, idsL, ids, Sw.v, Sw.b, ids_plainL (vwOK_iff.1 (Bool.and_eq_true_iff.1 hp.1).1).plain]
 ·intro ⟨s, p, o, i, h, c, n⟩ jk Z hp hf
  simp only [S43_2] at hp hf
  simp only [Bool.and_eq_true, decide_eq_true_eq] at hp
  obtain ⟨hP, h1, h2, h3, h4, h5⟩ := hp
  have key : ∀ b : Bool, (bt 2 h && (decide (i + 1 < (s.size : Int)) && byteAt s (i + 1).toNat == byteAt s i.toNat)) = b → rk h ((bz s).drop i.toNat) = bif b then rk h ((bz s).drop (i + 1).toNat) + 1 else 0 := by
   intro b e
   unfold rk
   cases hb : bt 2 h with
   | false => rw [hb] at e; subst e; rfl
   | true =>
    rw [hb, Bool.true_and] at e
    rw [cond_true, cond_true, bz_at h1 h2]
    by_cases q : i + 1 < s.size
    ·rw [decide_eq_true q, Bool.true_and] at e
     rw [bz_at (i := i + 1) (by omega) q, rlen]
     by_cases z : byteAt s (i + 1).toNat = byteAt s i.toNat
     ·rw [beq_iff_eq.2 z] at e
      rw [if_pos z.symm, ← e]
      simp
     ·rw [beq_eq_false_iff_ne.2 z] at e
      rw [if_neg (Ne.symm z), ← e]
      rfl
    ·rw [decide_eq_false q, Bool.false_and] at e
     rw [bz_end (i := i + 1) (by omega), ← e]
     rfl
  have nx : ∀ (q : (bt 2 h && (decide (i + 1 < (s.size : Int)) && byteAt s (i + 1).toNat == byteAt s i.toNat)) = true), S43_2.step V43_2 B43_2 (fun (s, p, o, i, h, c, n) => (s.size - i).toNat) (s, p, o, i, h, c, n) Z Exit.normal [S s, p.v 260, S o, I (i + 1), C8 h, C8 c, I (n + 1)] [p.b] := by
   intro q
   have k := key _ q
   rw [cond_true] at k
   have hi : i + 1 < s.size := by
    simp only [Bool.and_eq_true, decide_eq_true_eq] at q
    exact q.2.1
   rw [k] at hf
   refine ⟨(s, p, o, i + 1, h, c, n + 1), rfl, rfl, by simp only [S43_2, Bool.and_eq_true, decide_eq_true_eq]; exact ⟨hP, by omega, hi, h3, by omega, by omega⟩, by simp only; omega, ?_⟩
   show Z (.exit 2) [S s, p.v 260, S o, I (i + 1 + rk h ((bz s).drop (i + 1).toNat)), C8 h, C8 c, I (n + 1 + rk h ((bz s).drop (i + 1).toNat))] [p.b]
   rw [show i + 1 + rk h ((bz s).drop (i + 1).toNat) = i + (rk h ((bz s).drop (i + 1).toNat) + 1) by omega, show n + 1 + rk h ((bz s).drop (i + 1).toNat) = n + (rk h ((bz s).drop (i + 1).toNat) + 1) by omega]
   exact hf
  have st : ∀ (q : (bt 2 h && (decide (i + 1 < (s.size : Int)) && byteAt s (i + 1).toNat == byteAt s i.toNat)) = false), Z (.exit 2) [S s, p.v 260, S o, I i, C8 h, C8 c, I n] [p.b] := by
   intro q
   have k := key _ q
   rw [cond_false] at k
   rw [k, Int.add_zero, Int.add_zero] at hf
   exact hf
  have g0 : ∀ x : Bool, (bif bt 2 h then bif decide (i + 1 < (s.size : Int)) then decide (0 ≤ i + 1 ∧ i + 1 < (s.size : Int)) && (decide (0 ≤ i ∧ i < (s.size : Int)) && true) else true else true) = true := by
   intro _
   rw [decide_eq_true (show 0 ≤ i ∧ i < (s.size : Int) from ⟨h1, h2⟩)]
   cases bt 2 h with
   | false => rfl
   | true =>
    by_cases q : i + 1 < (s.size : Int)
    ·rw [decide_eq_true q, decide_eq_true (show 0 ≤ i + 1 ∧ i + 1 < (s.size : Int) by omega)]; rfl
    ·rw [decide_eq_false q]; rfl
  have w1 : IntKind.wrap .i64 (i + 1) = i + 1 := w64 (by omega)
  have w2 : IntKind.wrap .i64 (n + 1) = n + 1 := w64 (by omega)
  cases p with
  | nil =>
   rw [r43_2n, w1, w2]
   exact c_t (g0 true) (cond_intro (fun q => nx q) (fun q => st q))
  | own d m cap =>
   have hv := vwOK_iff.1 (Bool.and_eq_true_iff.1 hP).1
   have hg : ∀ ps, (goodL ps d && true && true) = true := fun ps => by rw [goodL_plain hv.plain]; rfl
   rw [r43_2o, w1, w2]
   simp only [hv.rlb, hg]
   exact c_t (g0 true) (cond_intro (fun q => c_t rfl (nx q)) (fun q => c_t rfl (st q)))
def wtP (c h n : Int) : List Int := (bif decide (n > 9) then [40, 48 + n / 10, 48 + n % 10, 41] else bif decide (n > 1) || bt 4 h then [40, 48 + n, 41] else []) ++ [bif bt 1 h then loZ c else c]
def wtGo : Nat → List Int → List Int → List Int → List Int
 | 0, _, _, o => o
 | _ + 1, [], _, o => o
 | f + 1, c :: r, hw, o => wtGo f (r.drop (rk (hw.headD 0) (c :: r)).toNat) (hw.drop ((rk (hw.headD 0) (c :: r)).toNat + 1)) (o ++ wtP c (hw.headD 0) (1 + rk (hw.headD 0) (c :: r)))
theorem wt_fuel : ∀ (f g : Nat) (l hw o : List Int), l.length ≤ f → l.length ≤ g → wtGo f l hw o = wtGo g l hw o
 | 0, 0, _, _, _, _, _ => rfl
 | 0, _ + 1, [], _, _, _, _ => rfl
 | _ + 1, 0, [], _, _, _, _ => rfl
 | 0, _, _ :: _, _, _, h, _ => by simp at h
 | _, 0, _ :: _, _, _, _, h => by simp at h
 | f + 1, g + 1, [], _, _, _, _ => rfl
 | f + 1, g + 1, c :: r, hw, o, h1, h2 => by
  rw [wtGo, wtGo]
  rw [List.length_cons] at h1 h2
  exact wt_fuel f g _ _ _ (by rw [List.length_drop]; omega) (by rw [List.length_drop]; omega)
theorem rlen_lt : ∀ (c : Int) (r : List Int), rlen (c :: r) ≤ r.length
 | _, [] => by simp [rlen]
 | c, d :: r => by
  rw [rlen]
  split
  ·have := rlen_lt d r
   rw [List.length_cons]; omega
  ·omega
theorem rk_rng (h c : Int) (r : List Int) : 0 ≤ rk h (c :: r) ∧ rk h (c :: r) ≤ r.length := by
 unfold rk
 have := rlen_lt c r
 cases bt 2 h with
 | true => rw [cond_true]; omega
 | false => rw [cond_false]; omega
theorem wtP_len (c h n : Int) : (wtP c h n).length ≤ 5 := by
 unfold wtP
 rw [List.length_append]
 cases decide (n > 9) with
 | true => simp
 | false => cases decide (n > 1) || bt 4 h <;> simp
theorem bs1 (c : Int) : bytesOf [Value.int IntKind.u8 c] 0 1 = sz [c] := rfl
theorem bs2 (a b : Int) : bytesOf [Value.int IntKind.u8 a, Value.int IntKind.u8 b] 0 2 = sz [a, b] := rfl
theorem bs40 : ByteArray.mk #[40] = sz [40] := rfl
theorem bs41 : ByteArray.mk #[41] = sz [41] := rfl
theorem bz_app_sz (o : ByteArray) {l : List Int} (h : IsB l) : bz (o ++ sz l) = bz o ++ l := by rw [bz_append, bz_sz h]
theorem loZ_rng {c : Int} (h : 0 ≤ c ∧ c < 256) : 0 ≤ loZ c ∧ loZ c < 256 := by
 unfold loZ
 split <;> omega
def V43_0 : ByteArray × Sw × ByteArray × Int → List Value := fun (s, p, o, i) => [S s, p.v 200, S o, I i]
def B43_0 : ByteArray × Sw × ByteArray × Int → List (Option Blk) := fun (s, p, o, i) => [p.b]
def S43_0 : LSpecA (ByteArray × Sw × ByteArray × Int) where
 live := [0, 1, 5, 6]
 mid := [200]
 n := 210
 ap := [(.tmp 1, 200)]
 dec vs bs := match vs, bs with
  | [.string s, .slice none 0 0, .string o, .int .i64 i], [none] => some (s, .nil, o, i)
  | [.string s, .slice (some ⟨200, 0, some 1⟩) m cap, .string o, .int .i64 i], [some ⟨d, 5, false⟩] => some (s, .own d m cap, o, i)
  | _, _ => none
 pre := fun (s, p, o, i) => p.ok && decide (0 ≤ i ∧ i ≤ s.size ∧ s.size ≤ 1000 ∧ o.size ≤ 5 * i)
 fin := fun (s, p, o, i) Z => Z (.exit 0) [S s, p.v 200, S (sz (wtGo (s.size - i).toNat ((bz s).drop i.toNat) (p.z.drop i.toNat) (bz o))), I s.size] [p.b]
theorem r43_0n (s : ByteArray) (o : ByteArray) (i : Int) (jk : Tmps) (R : Exit → List Value → List (Option Blk) → Prop) : (codeQ Tryz.prog L43 (oneL 2 S43_2.hA) Tryz.f43.ntmps (loopOf Tryz.f43 0) (tl S43_0.live (V43_0 (s, .nil, o, i)) jk) (ml S43_0.mid (B43_0 (s, .nil, o, i))) S43_0.n fun e t' m' _ => S43_0.out R e t' m') = ( bif decide (i < (↑(ByteArray.size s) : Int)) then bif decide (i < natO 0) then False else bif decide (0 ≤ i ∧ i < (↑(ByteArray.size s) : Int)) then bif LSpec.pre (LSpecA.toLSpec S43_2) (s, Sw.nil, o, i, 0, byteAt s (Int.toNat i), 1) then ∀ (x : Tmps), bif strFit (ByteArray.size o + ByteArray.size (bytesOf [.int .u8 (byteAt s (Int.toNat i))] 0 1)) then R Exit.normal [.string s, .slice none 0 0, .string (o ++ bytesOf [.int .u8 (byteAt s (Int.toNat i))] 0 1), .int .i64 (IntKind.wrap .i64 (i + rk 0 (List.drop (Int.toNat i) (bz s)) + 1))] [none] else False else False else False else R (Exit.exit 0) [.string s, .slice none 0 0, .string o, .int .i64 i] [none]) := by kernel_rfl
theorem r43_0o (s : ByteArray) (d : List Value) (m : Nat) (cap : Nat) (o : ByteArray) (i : Int) (jk : Tmps) (R : Exit → List Value → List (Option Blk) → Prop) : (codeQ Tryz.prog L43 (oneL 2 S43_2.hA) Tryz.f43.ntmps (loopOf Tryz.f43 0) (tl S43_0.live (V43_0 (s, .own d m cap, o, i)) jk) (ml S43_0.mid (B43_0 (s, .own d m cap, o, i))) S43_0.n fun e t' m' _ => S43_0.out R e t' m') = ( bif decide (i < (↑(ByteArray.size s) : Int)) then bif decide (i < natO m) then bif decide (0 ≤ i ∧ i < (↑m : Int)) then bif isIntAt IntKind.u8 d (0 + Int.toNat i * 1) then bif decide (0 ≤ i ∧ i < (↑(ByteArray.size s) : Int)) then bif IntKind.wrap .u8 (↑(BitVec.toNat (BitVec.ofInt 8 (intAt d (0 + Int.toNat i * 1)) &&& BitVec.ofInt 8 1)) : Int) != 0 then bif goodL [(200, 260)] d && true && true && (idsLt 270 (rlbL [(200, 260)] d) && true) then bif LSpec.pre (LSpecA.toLSpec S43_2) (s, Sw.own (rlbL [(200, 260)] d) m cap, o, i, intAt d (0 + Int.toNat i * 1), loZ (byteAt s (Int.toNat i)), 1) then bif idsLt 270 (rlbL [(200, 260)] d) && true then ∀ (x : Tmps), bif decide (1 + rk (intAt d (0 + Int.toNat i * 1)) (List.drop (Int.toNat i) (bz s)) > 9) then bif strFit (ByteArray.size o + ByteArray.size (ByteArray.mk #[40] ++ bytesOf [.int .u8 (IntKind.wrap .u8 (IntKind.wrap .i64 (48 + IntKind.wrap .i64 (Int.tdiv (1 + rk (intAt d (0 + Int.toNat i * 1)) (List.drop (Int.toNat i) (bz s))) 10)))), .int .u8 (IntKind.wrap .u8 (IntKind.wrap .i64 (48 + Int.tmod (1 + rk (intAt d (0 + Int.toNat i * 1)) (List.drop (Int.toNat i) (bz s))) 10)))] 0 2 ++ ByteArray.mk #[41])) then bif strFit (ByteArray.size (o ++ (ByteArray.mk #[40] ++ bytesOf [.int .u8 (IntKind.wrap .u8 (IntKind.wrap .i64 (48 + IntKind.wrap .i64 (Int.tdiv (1 + rk (intAt d (0 + Int.toNat i * 1)) (List.drop (Int.toNat i) (bz s))) 10)))), .int .u8 (IntKind.wrap .u8 (IntKind.wrap .i64 (48 + Int.tmod (1 + rk (intAt d (0 + Int.toNat i * 1)) (List.drop (Int.toNat i) (bz s))) 10)))] 0 2 ++ ByteArray.mk #[41])) + ByteArray.size (bytesOf [.int .u8 (loZ (byteAt s (Int.toNat i)))] 0 1)) then bif goodL [(260, 200)] (rlbL [(200, 260)] d) && true && true then R Exit.normal [.string s, .slice (some (.mk 200 0 (some 1))) m cap, .string (o ++ (ByteArray.mk #[40] ++ bytesOf [.int .u8 (IntKind.wrap .u8 (IntKind.wrap .i64 (48 + IntKind.wrap .i64 (Int.tdiv (1 + rk (intAt d (0 + Int.toNat i * 1)) (List.drop (Int.toNat i) (bz s))) 10)))), .int .u8 (IntKind.wrap .u8 (IntKind.wrap .i64 (48 + Int.tmod (1 + rk (intAt d (0 + Int.toNat i * 1)) (List.drop (Int.toNat i) (bz s))) 10)))] 0 2 ++ ByteArray.mk #[41]) ++ bytesOf [.int .u8 (loZ (byteAt s (Int.toNat i)))] 0 1), .int .i64 (IntKind.wrap .i64 (i + rk (intAt d (0 + Int.toNat i * 1)) (List.drop (Int.toNat i) (bz s)) + 1))] [some (.mk (rlbL [(260, 200)] (rlbL [(200, 260)] d)) 5 false)] else False else False else False else bif decide (1 + rk (intAt d (0 + Int.toNat i * 1)) (List.drop (Int.toNat i) (bz s)) > 1) || true then bif decide (1 + rk (intAt d (0 + Int.toNat i * 1)) (List.drop (Int.toNat i) (bz s)) > 1) || IntKind.wrap .u8 (↑(BitVec.toNat (BitVec.ofInt 8 (intAt d (0 + Int.toNat i * 1)) &&& BitVec.ofInt 8 4)) : Int) != 0 then bif strFit (ByteArray.size o + ByteArray.size (ByteArray.mk #[40] ++ bytesOf [.int .u8 (IntKind.wrap .u8 (IntKind.wrap .i64 (48 + (1 + rk (intAt d (0 + Int.toNat i * 1)) (List.drop (Int.toNat i) (bz s))))))] 0 1 ++ ByteArray.mk #[41])) then bif strFit (ByteArray.size (o ++ (ByteArray.mk #[40] ++ bytesOf [.int .u8 (IntKind.wrap .u8 (IntKind.wrap .i64 (48 + (1 + rk (intAt d (0 + Int.toNat i * 1)) (List.drop (Int.toNat i) (bz s))))))] 0 1 ++ ByteArray.mk #[41])) + ByteArray.size (bytesOf [.int .u8 (loZ (byteAt s (Int.toNat i)))] 0 1)) then bif goodL [(260, 200)] (rlbL [(200, 260)] d) && true && true then R Exit.normal [.string s, .slice (some (.mk 200 0 (some 1))) m cap, .string (o ++ (ByteArray.mk #[40] ++ bytesOf [.int .u8 (IntKind.wrap .u8 (IntKind.wrap .i64 (48 + (1 + rk (intAt d (0 + Int.toNat i * 1)) (List.drop (Int.toNat i) (bz s))))))] 0 1 ++ ByteArray.mk #[41]) ++ bytesOf [.int .u8 (loZ (byteAt s (Int.toNat i)))] 0 1), .int .i64 (IntKind.wrap .i64 (i + rk (intAt d (0 + Int.toNat i * 1)) (List.drop (Int.toNat i) (bz s)) + 1))] [some (.mk (rlbL [(260, 200)] (rlbL [(200, 260)] d)) 5 false)] else False else False else False else bif strFit (ByteArray.size o + ByteArray.size (bytesOf [.int .u8 (loZ (byteAt s (Int.toNat i)))] 0 1)) then bif goodL [(260, 200)] (rlbL [(200, 260)] d) && true && true then R Exit.normal [.string s, .slice (some (.mk 200 0 (some 1))) m cap, .string (o ++ bytesOf [.int .u8 (loZ (byteAt s (Int.toNat i)))] 0 1), .int .i64 (IntKind.wrap .i64 (i + rk (intAt d (0 + Int.toNat i * 1)) (List.drop (Int.toNat i) (bz s)) + 1))] [some (.mk (rlbL [(260, 200)] (rlbL [(200, 260)] d)) 5 false)] else False else False else False else False else False else False else bif goodL [(200, 260)] d && true && true && (idsLt 270 (rlbL [(200, 260)] d) && true) then bif LSpec.pre (LSpecA.toLSpec S43_2) (s, Sw.own (rlbL [(200, 260)] d) m cap, o, i, intAt d (0 + Int.toNat i * 1), byteAt s (Int.toNat i), 1) then bif idsLt 270 (rlbL [(200, 260)] d) && true then ∀ (x : Tmps), bif decide (1 + rk (intAt d (0 + Int.toNat i * 1)) (List.drop (Int.toNat i) (bz s)) > 9) then bif strFit (ByteArray.size o + ByteArray.size (ByteArray.mk #[40] ++ bytesOf [.int .u8 (IntKind.wrap .u8 (IntKind.wrap .i64 (48 + IntKind.wrap .i64 (Int.tdiv (1 + rk (intAt d (0 + Int.toNat i * 1)) (List.drop (Int.toNat i) (bz s))) 10)))), .int .u8 (IntKind.wrap .u8 (IntKind.wrap .i64 (48 + Int.tmod (1 + rk (intAt d (0 + Int.toNat i * 1)) (List.drop (Int.toNat i) (bz s))) 10)))] 0 2 ++ ByteArray.mk #[41])) then bif strFit (ByteArray.size (o ++ (ByteArray.mk #[40] ++ bytesOf [.int .u8 (IntKind.wrap .u8 (IntKind.wrap .i64 (48 + IntKind.wrap .i64 (Int.tdiv (1 + rk (intAt d (0 + Int.toNat i * 1)) (List.drop (Int.toNat i) (bz s))) 10)))), .int .u8 (IntKind.wrap .u8 (IntKind.wrap .i64 (48 + Int.tmod (1 + rk (intAt d (0 + Int.toNat i * 1)) (List.drop (Int.toNat i) (bz s))) 10)))] 0 2 ++ ByteArray.mk #[41])) + ByteArray.size (bytesOf [.int .u8 (byteAt s (Int.toNat i))] 0 1)) then bif goodL [(260, 200)] (rlbL [(200, 260)] d) && true && true then R Exit.normal [.string s, .slice (some (.mk 200 0 (some 1))) m cap, .string (o ++ (ByteArray.mk #[40] ++ bytesOf [.int .u8 (IntKind.wrap .u8 (IntKind.wrap .i64 (48 + IntKind.wrap .i64 (Int.tdiv (1 + rk (intAt d (0 + Int.toNat i * 1)) (List.drop (Int.toNat i) (bz s))) 10)))), .int .u8 (IntKind.wrap .u8 (IntKind.wrap .i64 (48 + Int.tmod (1 + rk (intAt d (0 + Int.toNat i * 1)) (List.drop (Int.toNat i) (bz s))) 10)))] 0 2 ++ ByteArray.mk #[41]) ++ bytesOf [.int .u8 (byteAt s (Int.toNat i))] 0 1), .int .i64 (IntKind.wrap .i64 (i + rk (intAt d (0 + Int.toNat i * 1)) (List.drop (Int.toNat i) (bz s)) + 1))] [some (.mk (rlbL [(260, 200)] (rlbL [(200, 260)] d)) 5 false)] else False else False else False else bif decide (1 + rk (intAt d (0 + Int.toNat i * 1)) (List.drop (Int.toNat i) (bz s)) > 1) || true then bif decide (1 + rk (intAt d (0 + Int.toNat i * 1)) (List.drop (Int.toNat i) (bz s)) > 1) || IntKind.wrap .u8 (↑(BitVec.toNat (BitVec.ofInt 8 (intAt d (0 + Int.toNat i * 1)) &&& BitVec.ofInt 8 4)) : Int) != 0 then bif strFit (ByteArray.size o + ByteArray.size (ByteArray.mk #[40] ++ bytesOf [.int .u8 (IntKind.wrap .u8 (IntKind.wrap .i64 (48 + (1 + rk (intAt d (0 + Int.toNat i * 1)) (List.drop (Int.toNat i) (bz s))))))] 0 1 ++ ByteArray.mk #[41])) then bif strFit (ByteArray.size (o ++ (ByteArray.mk #[40] ++ bytesOf [.int .u8 (IntKind.wrap .u8 (IntKind.wrap .i64 (48 + (1 + rk (intAt d (0 + Int.toNat i * 1)) (List.drop (Int.toNat i) (bz s))))))] 0 1 ++ ByteArray.mk #[41])) + ByteArray.size (bytesOf [.int .u8 (byteAt s (Int.toNat i))] 0 1)) then bif goodL [(260, 200)] (rlbL [(200, 260)] d) && true && true then R Exit.normal [.string s, .slice (some (.mk 200 0 (some 1))) m cap, .string (o ++ (ByteArray.mk #[40] ++ bytesOf [.int .u8 (IntKind.wrap .u8 (IntKind.wrap .i64 (48 + (1 + rk (intAt d (0 + Int.toNat i * 1)) (List.drop (Int.toNat i) (bz s))))))] 0 1 ++ ByteArray.mk #[41]) ++ bytesOf [.int .u8 (byteAt s (Int.toNat i))] 0 1), .int .i64 (IntKind.wrap .i64 (i + rk (intAt d (0 + Int.toNat i * 1)) (List.drop (Int.toNat i) (bz s)) + 1))] [some (.mk (rlbL [(260, 200)] (rlbL [(200, 260)] d)) 5 false)] else False else False else False else bif strFit (ByteArray.size o + ByteArray.size (bytesOf [.int .u8 (byteAt s (Int.toNat i))] 0 1)) then bif goodL [(260, 200)] (rlbL [(200, 260)] d) && true && true then R Exit.normal [.string s, .slice (some (.mk 200 0 (some 1))) m cap, .string (o ++ bytesOf [.int .u8 (byteAt s (Int.toNat i))] 0 1), .int .i64 (IntKind.wrap .i64 (i + rk (intAt d (0 + Int.toNat i * 1)) (List.drop (Int.toNat i) (bz s)) + 1))] [some (.mk (rlbL [(260, 200)] (rlbL [(200, 260)] d)) 5 false)] else False else False else False else False else False else False else False else False else False else bif decide (0 ≤ i ∧ i < (↑(ByteArray.size s) : Int)) then bif goodL [(200, 260)] d && true && true && (idsLt 270 (rlbL [(200, 260)] d) && true) then bif LSpec.pre (LSpecA.toLSpec S43_2) (s, Sw.own (rlbL [(200, 260)] d) m cap, o, i, 0, byteAt s (Int.toNat i), 1) then bif idsLt 270 (rlbL [(200, 260)] d) && true then ∀ (x : Tmps), bif strFit (ByteArray.size o + ByteArray.size (bytesOf [.int .u8 (byteAt s (Int.toNat i))] 0 1)) then bif goodL [(260, 200)] (rlbL [(200, 260)] d) && true && true then R Exit.normal [.string s, .slice (some (.mk 200 0 (some 1))) m cap, .string (o ++ bytesOf [.int .u8 (byteAt s (Int.toNat i))] 0 1), .int .i64 (IntKind.wrap .i64 (i + rk 0 (List.drop (Int.toNat i) (bz s)) + 1))] [some (.mk (rlbL [(260, 200)] (rlbL [(200, 260)] d)) 5 false)] else False else False else False else False else False else False else bif goodL [(200, 200)] d && true && true then R (Exit.exit 0) [.string s, .slice (some (.mk 200 0 (some 1))) m cap, .string o, .int .i64 i] [some (.mk (rlbL [(200, 200)] d) 5 false)] else False) := by kernel_rfl
theorem l43_0 : LOKf Tryz.prog (oneL 0 S43_0.hA) Tryz.f43 := by
 refine lokf_one (h := S43_0.hA) (by kernel_rfl) (loop_specA ok_L43 hmix (by kernel_rfl) (lok_one (id := 2) (by kernel_rfl) l43_2) S43_0 V43_0 B43_0 (fun (s, p, o, i) => (s.size - i).toNat) ?_ ?_ ?_)
 ·intro vs bs s h
  simp only [S43_0] at h
  split at h
  all_goals first | (cases h; exact ⟨rfl, rfl⟩) | cases h | (split at h <;> first | (rename_i hq; cases h; have hq := Nat.eq_of_beq_eq_true hq; subst hq; exact ⟨rfl, rfl⟩) | cases h)
 ·exact fun ⟨s, p, o, i⟩ hp => by
   simp only [S43_0, Bool.and_eq_true] at hp
   cases p with
   | nil => simp [V43_0, B43_0, S43_0, idsLt, idsLtB, idsL, ids, Sw.v, Sw.b]
   | own d m cap => simp [V43_0, B43_0, S43_0, idsLt, idsLtB, idsL, ids, Sw.v, Sw.b, ids_plainL (vwOK_iff.1 (Bool.and_eq_true_iff.1 hp.1).1).plain]
 ·intro ⟨s, p, o, i⟩ jk Z hp hf
  simp only [S43_0] at hp hf
  simp only [Bool.and_eq_true, decide_eq_true_eq] at hp
  obtain ⟨hP, h1, h2, h3, h4⟩ := hp
  by_cases hi : i < (s.size : Int)
  case neg =>
   have e : i = s.size := by omega
   have e0 : (bz s).drop i.toNat = [] := bz_end (by omega)
   have ef : (s.size - i).toNat = 0 := by omega
   rw [e0, ef, wtGo, sz_bz] at hf
   subst e
   cases p with
   | nil => rw [r43_0n]; exact c_f (decide_eq_false (by omega)) hf
   | own d m cap =>
    have hv := vwOK_iff.1 (Bool.and_eq_true_iff.1 hP).1
    have hg : ∀ ps, (goodL ps d && true && true) = true := fun ps => by rw [goodL_plain hv.plain]; rfl
    rw [r43_0o]
    simp only [hv.rlb, hg]
    exact c_f (decide_eq_false (by omega)) (c_t rfl hf)
  have hcr := byte_rng s i.toNat
  have hdr := bz_at h1 hi
  have e1 : ∀ h : Int, (p.z.drop i.toNat).headD 0 = h → ∀ k : Int, rk h ((bz s).drop i.toNat) = k → 0 ≤ k ∧ i + k < s.size ∧ ∀ o2 : ByteArray, bz o2 = bz o ++ wtP (byteAt s i.toNat) h (1 + k) →
    S43_0.step V43_0 B43_0 (fun (s, p, o, i) => (s.size - i).toNat) (s, p, o, i) Z Exit.normal [S s, p.v 200, S o2, I (i + k + 1)] [p.b] := by
   intro h hh k hk
   rw [hdr] at hk
   have hr := rk_rng h (byteAt s i.toNat) ((bz s).drop (i + 1).toNat)
   have hl : (((bz s).drop (i + 1).toNat).length : Int) = s.size - i - 1 := by rw [List.length_drop, bz_length]; omega
   rw [hk] at hr
   refine ⟨hr.1, by omega, fun o2 ho => ?_⟩
   have hzo : o2.size ≤ o.size + 5 := by
    have := wtP_len (byteAt s i.toNat) h (1 + k)
    have q := congrArg List.length ho
    rw [List.length_append, bz_length, bz_length] at q
    omega
   refine ⟨(s, p, o2, i + k + 1), rfl, rfl, by simp only [S43_0, Bool.and_eq_true, decide_eq_true_eq]; exact ⟨hP, by omega, by omega, h3, by omega⟩, by simp only; omega, ?_⟩
   show Z (.exit 0) [S s, p.v 200, S (sz (wtGo (s.size - (i + k + 1)).toNat ((bz s).drop (i + k + 1).toNat) (p.z.drop (i + k + 1).toNat) (bz o2))), I s.size] [p.b]
   have ef : (s.size - i).toNat = (s.size - i - 1).toNat + 1 := by omega
   rw [ef, hdr, wtGo, hh, hk, List.drop_drop, List.drop_drop, show (i + 1).toNat + k.toNat = (i + k + 1).toNat by omega, show i.toNat + (k.toNat + 1) = (i + k + 1).toNat by omega, ← ho] at hf
   rw [wt_fuel (s.size - (i + k + 1)).toNat (s.size - i - 1).toNat _ _ _ (by rw [List.length_drop, bz_length]; omega) (by rw [List.length_drop, bz_length]; omega)]
   exact hf
  have g1 : decide (0 ≤ i ∧ i < (s.size : Int)) = true := decide_eq_true ⟨h1, hi⟩
  have r0 : rk 0 ((bz s).drop i.toNat) = 0 := rfl
  have hB0 : IsB [byteAt s i.toNat] := cons_isB hcr IsB.nil
  have s1 : ∀ c : Int, (sz [c]).size = 1 := fun _ => rfl
  have z0 : ∀ c : Int, bz (o ++ sz [c]) = bz o ++ [c] → True := fun _ _ => trivial
  have w0 : wtP (byteAt s i.toNat) 0 (1 + 0) = [byteAt s i.toNat] := rfl
  have wi0 : IntKind.wrap .i64 (i + 0 + 1) = i + 0 + 1 := w64 (by omega)
  have hsf : strFit (o.size + 1) = true := by simp only [strFit, Nat.ble_eq]; omega
  cases p with
  | nil =>
   rw [r43_0n, natO_eq, r0, wi0, bs1, s1]
   obtain ⟨_, _, fin⟩ := e1 0 (by simp [Sw.z]) 0 rfl
   refine c_t (decide_eq_true hi) (c_f (decide_eq_false (by omega)) (c_t g1 (c_t ?_ fun _ => c_t hsf ?_)))
   ·show (true && decide (0 ≤ i ∧ i < s.size ∧ s.size ≤ 1000 ∧ (0 : Int) ≤ 1 ∧ (1 : Int) ≤ i + 1)) = true
    rw [Bool.true_and, decide_eq_true_eq]
    omega
   ·exact fin (o ++ sz [byteAt s i.toNat]) (by rw [bz_app_sz _ hB0, w0])
  | own d m cap =>
   have hV := (Bool.and_eq_true_iff.1 hP).1
   have hv := vwOK_iff.1 hV
   have hzl := hv.zlen
   have hg : ∀ ps, (goodL ps d && true && true) = true := fun ps => by rw [goodL_plain hv.plain]; rfl
   have hgA : (goodL [(200, 260)] d && true && true && (idsLt 270 d && true)) = true := by rw [goodL_plain hv.plain]; simp [idsLt, idsL, ids_plainL hv.plain]
   have hiA : (idsLt 270 d && true) = true := by simp [idsLt, idsL, ids_plainL hv.plain]
   have hg2 : ∀ ps, (goodL ps d && true && true) = true := hg
   have ea : 0 + i.toNat * 1 = i.toNat := by omega
   rw [r43_0o, ea]
   simp only [hv.rlb, natO_eq]
   have hpre' : ∀ h c : Int, LSpec.pre (LSpecA.toLSpec S43_2) (s, Sw.own d m cap, o, i, h, c, 1) = true := fun h c => by
    show (Sw.ok (.own d m cap) && decide (0 ≤ i ∧ i < s.size ∧ s.size ≤ 1000 ∧ (0 : Int) ≤ 1 ∧ (1 : Int) ≤ i + 1)) = true
    rw [hP, Bool.true_and, decide_eq_true_eq]
    omega
   refine c_t (decide_eq_true hi) (cond_intro (fun hm => ?_) (fun hm => ?_))
   ·have hm := of_decide_eq_true hm
    obtain ⟨a1, a2, a3⟩ := hv.at h1 hm
    rw [a1]
    generalize hh : intAt d i.toNat = h at *
    have hz : ((Sw.own d m cap).z.drop i.toNat).headD 0 = h := by
     show ((zc d m).drop i.toNat).headD 0 = h
     rw [a3]; rfl
    obtain ⟨k0, k1, fin⟩ := e1 h hz _ rfl
    have hpre := hpre' h
    have wi : ∀ k : Int, 0 ≤ k ∧ i + k < s.size → IntKind.wrap .i64 (i + k + 1) = i + k + 1 := fun k q => w64 (by omega)
    generalize rk h ((bz s).drop i.toNat) = k at *
    have wi := wi k ⟨k0, k1⟩
    have td : Int.tdiv (1 + k) 10 = (1 + k) / 10 := Int.tdiv_eq_ediv_of_nonneg (by omega)
    have tm : Int.tmod (1 + k) 10 = (1 + k) % 10 := Int.tmod_eq_emod_of_nonneg (by omega)
    generalize byteAt s i.toNat = c at *
    refine c_t (decide_eq_true ⟨h1, hm⟩) (c_t rfl (c_t g1 (cond_intro (fun b1 => ?_) (fun b1 => ?_))))
    ·have b1 : bt 1 h = true := b1
     have hCB : IsB [loZ c] := cons_isB (loZ_rng hcr) IsB.nil
     have hpre := hpre (loZ c)
     refine c_t hgA (c_t hpre (c_t hiA fun _ => cond_intro (fun n9 => ?_) (fun n9 => c_t (by simp) (cond_intro (fun n1 => ?_) (fun n1 => ?_)))))
     ·have n9 := of_decide_eq_true n9
      rw [w64 (n := Int.tdiv (1 + k) 10) (by omega), w64 (n := 48 + Int.tdiv (1 + k) 10) (by omega), w64 (n := 48 + Int.tmod (1 + k) 10) (by omega), w8 (n := 48 + Int.tdiv (1 + k) 10) (by omega), w8 (n := 48 + Int.tmod (1 + k) 10) (by omega), td, tm, bs1, bs2, bs40, bs41, ← sz_append, ← sz_append, wi]
      have hB : IsB ([40] ++ [48 + (1 + k) / 10, 48 + (1 + k) % 10] ++ [41]) := by
       intro x hx
       simp only [List.cons_append, List.nil_append, List.mem_cons, List.not_mem_nil, or_false] at hx
       omega
      have e2 : bz (o ++ sz ([40] ++ [48 + (1 + k) / 10, 48 + (1 + k) % 10] ++ [41]) ++ sz [loZ c]) = bz o ++ wtP c h (1 + k) := by
       rw [bz_app_sz _ hCB, bz_app_sz _ hB, wtP, b1, decide_eq_true (show 1 + k > 9 by omega), List.append_assoc]
       rfl
      refine c_t (by rw [sz_size]; simp only [strFit, Nat.ble_eq, List.length_append, List.length_cons, List.length_nil]; omega) (c_t (by rw [ByteArray.size_append, sz_size, sz_size]; simp only [strFit, Nat.ble_eq, List.length_append, List.length_cons, List.length_nil]; omega) (c_t (hg2 _) ?_))
      exact fin _ e2
     ·rw [w64 (n := 48 + (1 + k)) (by have := of_decide_eq_false n9; omega), w8 (n := 48 + (1 + k)) (by have := of_decide_eq_false n9; omega), bs1, bs1, bs40, bs41, ← sz_append, ← sz_append, wi]
      have hB : IsB ([40] ++ [48 + (1 + k)] ++ [41]) := by
       intro x hx
       have := of_decide_eq_false n9
       simp only [List.cons_append, List.nil_append, List.mem_cons, List.not_mem_nil, or_false] at hx
       omega
      have n1 : (decide (1 + k > 1) || bt 4 h) = true := n1
      have e2 : bz (o ++ sz ([40] ++ [48 + (1 + k)] ++ [41]) ++ sz [loZ c]) = bz o ++ wtP c h (1 + k) := by
       rw [bz_app_sz _ hCB, bz_app_sz _ hB, wtP, b1, n9, n1, List.append_assoc]
       rfl
      refine c_t (by rw [sz_size]; simp only [strFit, Nat.ble_eq, List.length_append, List.length_cons, List.length_nil]; omega) (c_t (by rw [ByteArray.size_append, sz_size, sz_size]; simp only [strFit, Nat.ble_eq, List.length_append, List.length_cons, List.length_nil]; omega) (c_t (hg2 _) ?_))
      exact fin _ e2
     ·rw [bs1, wi]
      have n1 : (decide (1 + k > 1) || bt 4 h) = false := n1
      have e2 : bz (o ++ sz [loZ c]) = bz o ++ wtP c h (1 + k) := by
       rw [bz_app_sz _ hCB, wtP, b1, n9, n1]
       rfl
      refine c_t (by rw [sz_size]; simp only [strFit, Nat.ble_eq, List.length_cons, List.length_nil]; omega) (c_t (hg2 _) ?_)
      exact fin _ e2
    ·have b1 : bt 1 h = false := b1
     have hCB : IsB [c] := cons_isB hcr IsB.nil
     have hpre := hpre c
     refine c_t hgA (c_t hpre (c_t hiA fun _ => cond_intro (fun n9 => ?_) (fun n9 => c_t (by simp) (cond_intro (fun n1 => ?_) (fun n1 => ?_)))))
     ·have n9 := of_decide_eq_true n9
      rw [w64 (n := Int.tdiv (1 + k) 10) (by omega), w64 (n := 48 + Int.tdiv (1 + k) 10) (by omega), w64 (n := 48 + Int.tmod (1 + k) 10) (by omega), w8 (n := 48 + Int.tdiv (1 + k) 10) (by omega), w8 (n := 48 + Int.tmod (1 + k) 10) (by omega), td, tm, bs1, bs2, bs40, bs41, ← sz_append, ← sz_append, wi]
      have hB : IsB ([40] ++ [48 + (1 + k) / 10, 48 + (1 + k) % 10] ++ [41]) := by
       intro x hx
       simp only [List.cons_append, List.nil_append, List.mem_cons, List.not_mem_nil, or_false] at hx
       omega
      have e2 : bz (o ++ sz ([40] ++ [48 + (1 + k) / 10, 48 + (1 + k) % 10] ++ [41]) ++ sz [c]) = bz o ++ wtP c h (1 + k) := by
       rw [bz_app_sz _ hCB, bz_app_sz _ hB, wtP, b1, decide_eq_true (show 1 + k > 9 by omega), List.append_assoc]
       rfl
      refine c_t (by rw [sz_size]; simp only [strFit, Nat.ble_eq, List.length_append, List.length_cons, List.length_nil]; omega) (c_t (by rw [ByteArray.size_append, sz_size, sz_size]; simp only [strFit, Nat.ble_eq, List.length_append, List.length_cons, List.length_nil]; omega) (c_t (hg2 _) ?_))
      exact fin _ e2
     ·rw [w64 (n := 48 + (1 + k)) (by have := of_decide_eq_false n9; omega), w8 (n := 48 + (1 + k)) (by have := of_decide_eq_false n9; omega), bs1, bs1, bs40, bs41, ← sz_append, ← sz_append, wi]
      have hB : IsB ([40] ++ [48 + (1 + k)] ++ [41]) := by
       intro x hx
       have := of_decide_eq_false n9
       simp only [List.cons_append, List.nil_append, List.mem_cons, List.not_mem_nil, or_false] at hx
       omega
      have n1 : (decide (1 + k > 1) || bt 4 h) = true := n1
      have e2 : bz (o ++ sz ([40] ++ [48 + (1 + k)] ++ [41]) ++ sz [c]) = bz o ++ wtP c h (1 + k) := by
       rw [bz_app_sz _ hCB, bz_app_sz _ hB, wtP, b1, n9, n1, List.append_assoc]
       rfl
      refine c_t (by rw [sz_size]; simp only [strFit, Nat.ble_eq, List.length_append, List.length_cons, List.length_nil]; omega) (c_t (by rw [ByteArray.size_append, sz_size, sz_size]; simp only [strFit, Nat.ble_eq, List.length_append, List.length_cons, List.length_nil]; omega) (c_t (hg2 _) ?_))
      exact fin _ e2
     ·rw [bs1, wi]
      have n1 : (decide (1 + k > 1) || bt 4 h) = false := n1
      have e2 : bz (o ++ sz [c]) = bz o ++ wtP c h (1 + k) := by
       rw [bz_app_sz _ hCB, wtP, b1, n9, n1]
       rfl
      refine c_t (by rw [sz_size]; simp only [strFit, Nat.ble_eq, List.length_cons, List.length_nil]; omega) (c_t (hg2 _) ?_)
      exact fin _ e2
   ·have hm := of_decide_eq_false hm
    have hz : ((Sw.own d m cap).z.drop i.toNat).headD 0 = 0 := by
     show ((zc d m).drop i.toNat).headD 0 = 0
     rw [hv.end (by omega)]; rfl
    obtain ⟨_, _, fin⟩ := e1 0 hz 0 rfl
    rw [r0, wi0, bs1, s1]
    exact c_t g1 (c_t hgA (c_t (hpre' _ _) (c_t hiA fun _ => c_t hsf (c_t (hg2 _) (fin (o ++ sz [byteAt s i.toNat]) (by rw [bz_app_sz _ hB0, w0]))))))
end Go.Px
end
noncomputable section
set_option maxHeartbeats 3200000
namespace Go.Px
open Go Go.Ab Go.Proofs Go.Shelf
def vwS (d : List Value) : Lk := fun k => match Nat.beq k 1 with | true => some ⟨d, 5, false⟩ | false => none
theorem viewL_none2 (b : Option Blk) : viewL [b, none] = viewL [b] := by
 funext k
 match k with
 | 0 => rfl
 | 1 => rfl
 | k + 2 => rfl
theorem viewL_vwS {d : List Value} {own : Bool} (h : plainL d = true) : viewL [none, some ⟨d, 5, own⟩] = vwS d := by
 funext k
 match k with
 | 0 => rfl
 | 1 => simp [viewL, view1, h, vwS]
 | k + 2 => rfl
def s43 : Ab.Spec := fun args bs => match args, bs with
 | [.string s, .slice none 0 0], [none, none] => some (decide (s.size ≤ 1000), .string (sz (wtGo s.size (bz s) [] [])))
 | [.string s, .slice (some ⟨_, 0, some 1⟩) l c], [none, some ⟨d, 5, _⟩] => some (Sw.ok (.own d l c) && decide (s.size ≤ 1000), .string (sz (wtGo s.size (bz s) (zc d l) [])))
 | _, _ => none
theorem v43n (s : ByteArray) (R : Value → Prop) : (bodyQ Tryz.prog L43 (oneL 0 S43_0.hA) Tryz.f43 [.string s, .slice none 0 0] (fun _ => none) 2 (fun v _ _ => R v)) = ( bif LSpec.pre (LSpecA.toLSpec S43_0) (s, Sw.nil, ByteArray.mk #[], 0) then ∀ (x : Tmps), R (.string (sz (wtGo (Int.toNat ((↑(ByteArray.size s) : Int) - 0)) (List.drop (Int.toNat 0) (bz s)) [] (bz (ByteArray.mk #[]))))) else False) := by kernel_rfl
theorem v43o (s : ByteArray) (d : List Value) (l : Nat) (c : Nat) (R : Value → Prop) : (bodyQ Tryz.prog L43 (oneL 0 S43_0.hA) Tryz.f43 [.string s, .slice (some ⟨1, 0, some 1⟩) l c] (vwS d) 2 (fun v _ _ => R v)) = ( bif goodL [(1, 200)] d && true && true && (idsLt 210 (rlbL [(1, 200)] d) && true) then bif LSpec.pre (LSpecA.toLSpec S43_0) (s, Sw.own (rlbL [(1, 200)] d) l c, ByteArray.mk #[], 0) then bif idsLt 210 (rlbL [(1, 200)] d) && true then ∀ (x : Tmps), R (.string (sz (wtGo (Int.toNat ((↑(ByteArray.size s) : Int) - 0)) (List.drop (Int.toNat 0) (bz s)) (List.drop (Int.toNat 0) (zc (rlbL [(1, 200)] d) l)) (bz (ByteArray.mk #[]))))) else False else False else False) := by kernel_rfl
theorem fn43 : Fn1 Tryz.prog 43 Tryz.f43 := ⟨Tryz.func43, by kernel_rfl, by kernel_rfl, by kernel_rfl⟩
theorem w43n {s : ByteArray} (h : s.size ≤ 1000) : DoesT Tryz.prog L43 (oneL 0 S43_0.hA) Tryz.f43 [.string s, .slice none 0 0] (fun _ => none) 2 (.string (sz (wtGo s.size (bz s) [] []))) := by
 rw [DoesT, v43n]
 have z0 : Int.toNat 0 = 0 := rfl
 have e : bz (ByteArray.mk #[]) = [] := rfl
 have e2 : ((s.size : Int) - 0).toNat = s.size := by omega
 rw [e, e2, z0, List.drop_zero]
 refine c_t ?_ fun _ => rfl
 show (true && decide ((0 : Int) ≤ 0 ∧ (0 : Int) ≤ s.size ∧ s.size ≤ 1000 ∧ ((ByteArray.mk #[]).size : Int) ≤ 5 * 0)) = true
 rw [Bool.true_and, decide_eq_true_eq]
 exact ⟨by omega, by omega, h, by decide⟩
theorem w43o {s : ByteArray} {d : List Value} {l c : Nat} (h : (Sw.ok (.own d l c) && decide (s.size ≤ 1000)) = true) : DoesT Tryz.prog L43 (oneL 0 S43_0.hA) Tryz.f43 [.string s, .slice (some ⟨1, 0, some 1⟩) l c] (vwS d) 2 (.string (sz (wtGo s.size (bz s) (zc d l) []))) := by
 rw [DoesT, v43o]
 obtain ⟨h, hs⟩ := Bool.and_eq_true_iff.1 h
 have hs := of_decide_eq_true hs
 obtain ⟨hV, hm⟩ := Bool.and_eq_true_iff.1 h
 have hv := vwOK_iff.1 hV
 have hg : (goodL [(1, 200)] d && true && true && (idsLt 210 d && true)) = true := by rw [goodL_plain hv.plain]; simp [idsLt, idsL, ids_plainL hv.plain]
 have hi : (idsLt 210 d && true) = true := by simp [idsLt, idsL, ids_plainL hv.plain]
 have z0 : Int.toNat 0 = 0 := rfl
 have e : bz (ByteArray.mk #[]) = [] := rfl
 have e2 : ((s.size : Int) - 0).toNat = s.size := by omega
 simp only [hv.rlb, z0, List.drop_zero, e2]
 rw [e]
 refine c_t hg (c_t ?_ (c_t hi fun _ => rfl))
 show (Sw.ok (.own d l c) && decide ((0 : Int) ≤ 0 ∧ (0 : Int) ≤ s.size ∧ s.size ≤ 1000 ∧ ((ByteArray.mk #[]).size : Int) ≤ 5 * 0)) = true
 rw [h, Bool.true_and, decide_eq_true_eq]
 exact ⟨by omega, by omega, hs, by decide⟩
theorem ok43 : PureOK Tryz.prog 43 s43 := by
 refine pure_viewQ ok_L43 hmix fn43 l43_0 fun args bs v hs => ?_
 simp only [s43] at hs
 split at hs
 ·simp only [Option.some.injEq, Prod.mk.injEq] at hs
  obtain ⟨hc, rfl⟩ := hs
  exact ⟨_, 2, rfl, rfl, Nat.le_of_ble_eq_true (by kernel_rfl), doesT_VQ ((viewL_none2 none).trans viewL_none) (w43n (of_decide_eq_true hc))⟩
 ·simp only [Option.some.injEq, Prod.mk.injEq] at hs
  obtain ⟨hc, rfl⟩ := hs
  exact ⟨_, 2, rfl, rfl, Nat.le_of_ble_eq_true (by kernel_rfl), doesT_VQ (viewL_vwS (vwOK_iff.1 (Bool.and_eq_true_iff.1 (Bool.and_eq_true_iff.1 hc).1).1).plain) (w43o hc)⟩
 ·cases hs
end Go.Px
end
noncomputable section
namespace Go.Px
open Go Go.Ab Go.Proofs
theorem wt_len : ∀ (f : Nat) (l hw o : List Int), (wtGo f l hw o).length ≤ o.length + 5 * f
 | 0, _, _, o => by simp [wtGo]
 | _ + 1, [], _, o => by simp [wtGo]
 | f + 1, c :: r, hw, o => by
  rw [wtGo]
  have h1 := wt_len f (r.drop (rk (hw.headD 0) (c :: r)).toNat) (hw.drop ((rk (hw.headD 0) (c :: r)).toNat + 1)) (o ++ wtP c (hw.headD 0) (1 + rk (hw.headD 0) (c :: r)))
  have h2 := wtP_len c (hw.headD 0) (1 + rk (hw.headD 0) (c :: r))
  rw [List.length_append] at h1
  omega
theorem wtP_isB {c h n : Int} (hc : 0 ≤ c ∧ c < 256) (hn : 1 ≤ n ∧ n ≤ 32) : IsB (wtP c h n) := by
 have hl := loZ_rng hc
 unfold wtP
 refine IsB.append ?_ ?_
 ·cases decide (n > 9) with
  | true =>
   intro x hx
   simp only [cond_true, List.mem_cons, List.not_mem_nil, or_false] at hx
   omega
  | false =>
   cases decide (n > 1) || bt 4 h with
   | true =>
    intro x hx
    simp only [cond_false, cond_true, List.mem_cons, List.not_mem_nil, or_false] at hx
    omega
   | false => exact IsB.nil
 ·cases bt 1 h with
  | true => exact cons_isB hl IsB.nil
  | false => exact cons_isB hc IsB.nil
theorem wt_isB : ∀ (f : Nat) (l hw o : List Int), IsB l → IsB o → l.length ≤ 32 → IsB (wtGo f l hw o)
 | 0, _, _, o, _, h, _ => h
 | _ + 1, [], _, o, _, h, _ => h
 | f + 1, c :: r, hw, o, h1, h2, h3 => by
  rw [wtGo]
  have hk := rk_rng (hw.headD 0) c r
  rw [List.length_cons] at h3
  refine wt_isB f _ _ _ (IsB.drop (a := r) (fun x hx => h1 x (List.mem_cons_of_mem _ hx)) _) (h2.append (wtP_isB (h1 c List.mem_cons_self) (by omega))) ?_
  rw [List.length_drop]; omega
theorem rlen_rep : ∀ (c : Int) (r : List Int), r = rep1 c (rlen (c :: r)) ++ r.drop (rlen (c :: r))
 | _, [] => by simp [rlen, rep1]
 | c, d :: r => by
  rw [rlen]
  by_cases h : c = d
  ·subst h
   rw [if_pos rfl, List.drop_succ_cons]
   have := rlen_rep c r
   show c :: r = rep1 c (rlen (c :: r) + 1) ++ _
   have e : rep1 c (rlen (c :: r) + 1) = c :: rep1 c (rlen (c :: r)) := rfl
   rw [e, List.cons_append, ← this]
  ·rw [if_neg h]
   rfl
theorem rk_rep (h c : Int) (r : List Int) : c :: r = rep1 c (1 + rk h (c :: r)).toNat ++ r.drop (rk h (c :: r)).toNat := by
 unfold rk
 cases bt 2 h with
 | false => rfl
 | true =>
  rw [cond_true, Int.toNat_natCast, show (1 + (rlen (c :: r) : Int)).toNat = rlen (c :: r) + 1 by omega]
  have e : rep1 c (rlen (c :: r) + 1) = c :: rep1 c (rlen (c :: r)) := rfl
  rw [e, List.cons_append, ← rlen_rep]
theorem up_lo {c : Int} (h : hasZ kL c = true) : upZ (loZ c) = c ∧ loZ c ≠ 40 ∧ loZ c ≠ 41 := by
 have hk : c ∈ kL := hasZ_iff.1 h
 simp only [kL, List.mem_cons, List.not_mem_nil, or_false] at hk
 rcases hk with rfl | rfl | rfl | rfl | rfl | rfl | rfl | rfl | rfl | rfl | rfl | rfl | rfl | rfl | rfl | rfl | rfl | rfl | rfl | rfl <;> decide
theorem xp_char {x c st n m : Int} {rest out : List Int} (h : hasZ kL c = true) (hx : upZ x = c ∧ x ≠ 40 ∧ x ≠ 41) (hs : st = 0 ∧ m = 1 ∨ st = 2 ∧ m = n) (hm : 1 ≤ m) (hl : (out.length : Int) + m ≤ 32) :
  xpGo (x :: rest) st n out = xpGo rest 0 0 (out ++ rep1 c m.toNat) := by
 obtain ⟨u1, u2, u3⟩ := hx
 have hi : (if st = 2 then n else 1) = m := by
  rcases hs with ⟨s1, s2⟩ | ⟨s1, s2⟩
  ·rw [if_neg (by omega), s2]
  ·rw [if_pos s1, s2]
 rw [xpGo, if_neg (by omega), if_neg (fun q => q.elim u3 (fun q => u2 q.2)), if_neg u2, u1, hi, if_pos ⟨h, hl⟩]
theorem xp_open (rest out : List Int) : xpGo (40 :: rest) 0 0 out = xpGo rest 1 0 out := by
 rw [xpGo, if_neg (by decide), if_neg (fun q => q.elim (fun q => absurd q (by decide)) (fun q => absurd q.1 (by decide))), if_pos rfl]
theorem xp_dig {d n : Int} (rest out : List Int) (hd : 48 ≤ d ∧ d ≤ 57) (h0 : ¬ (n = 0 ∧ d = 48)) (h32 : 10 * n + (d - 48) ≤ 32) : xpGo (d :: rest) 1 n out = xpGo rest 1 (10 * n + (d - 48)) out := by
 rw [xpGo, if_pos rfl, if_neg (by omega), if_pos ⟨decide_eq_true hd, h0, h32⟩]
theorem xp_close {n : Int} (rest out : List Int) (h : 0 < n) : xpGo (41 :: rest) 1 n out = xpGo rest 2 n out := by
 rw [xpGo, if_pos rfl, if_pos rfl, if_pos h]
theorem xp_piece {c h n : Int} {rest out : List Int} (hk : hasZ kL c = true) (hn : 1 ≤ n) (hl : (out.length : Int) + n ≤ 32) :
  xpGo (wtP c h n ++ rest) 0 0 out = xpGo rest 0 0 (out ++ rep1 c n.toNat) := by
 have hx : upZ (bif bt 1 h then loZ c else c) = c ∧ (bif bt 1 h then loZ c else c) ≠ 40 ∧ (bif bt 1 h then loZ c else c) ≠ 41 := by
  cases bt 1 h with
  | true => exact up_lo hk
  | false => exact up_kL hk
 unfold wtP
 generalize (bif bt 1 h then loZ c else c) = x at *
 by_cases h9 : n > 9
 ·rw [decide_eq_true h9, cond_true, List.append_assoc]
  show xpGo (40 :: (48 + n / 10) :: (48 + n % 10) :: 41 :: x :: rest) 0 0 out = _
  rw [xp_open, xp_dig _ _ (by omega) (by omega) (by omega), xp_dig _ _ (by omega) (by omega) (by omega), xp_close _ _ (by omega),
   show 10 * (10 * 0 + (48 + n / 10 - 48)) + (48 + n % 10 - 48) = n by omega]
  exact xp_char hk hx (.inr ⟨rfl, rfl⟩) hn hl
 ·rw [decide_eq_false h9, cond_false]
  cases h1 : decide (n > 1) || bt 4 h with
  | true =>
   rw [cond_true, List.append_assoc]
   show xpGo (40 :: (48 + n) :: 41 :: x :: rest) 0 0 out = _
   rw [xp_open, xp_dig _ _ (by omega) (by omega) (by omega), xp_close _ _ (by omega), show 10 * 0 + (48 + n - 48) = n by omega]
   exact xp_char hk hx (.inr ⟨rfl, rfl⟩) hn hl
  | false =>
   rw [Bool.or_eq_false_iff, decide_eq_false_iff_not] at h1
   have e : n = 1 := by omega
   subst e
   exact xp_char hk hx (.inl ⟨rfl, rfl⟩) (by omega) hl
theorem wt_xp : ∀ (f : Nat) (l hw o out : List Int), (∀ rest, xpGo (o ++ rest) 0 0 [] = xpGo rest 0 0 out) → allK l = true → out.length + l.length ≤ 32 → l.length ≤ f →
  xpGo (wtGo f l hw o) 0 0 [] = (out ++ l, true)
 | 0, [], _, o, out, h, _, _, _ => by
  have := h []
  rw [List.append_nil] at this
  rw [wtGo, this, xpGo, List.append_nil]
  rfl
 | 0, _ :: _, _, _, _, _, _, _, hf => by simp at hf
 | f + 1, [], _, o, out, h, _, _, _ => by
  have := h []
  rw [List.append_nil] at this
  rw [wtGo, this, xpGo, List.append_nil]
  rfl
 | f + 1, c :: r, hw, o, out, h, hk, hl, hf => by
  have hk : hasZ kL c = true ∧ allK r = true := by
   simp only [allK, List.all_cons, Bool.and_eq_true] at hk
   exact hk
  rw [List.length_cons] at hl hf
  have hr := rk_rng (hw.headD 0) c r
  have hrep := rk_rep (hw.headD 0) c r
  rw [wtGo]
  generalize rk (hw.headD 0) (c :: r) = k at *
  have hlr : (rep1 c (1 + k).toNat).length = (1 + k).toNat := by simp [rep1]
  have hd : allK (r.drop k.toNat) = true := by
   have := hk.2
   simp only [allK, List.all_eq_true] at this ⊢
   exact fun x hx => this x (List.mem_of_mem_drop hx)
  rw [wt_xp f _ _ _ (out ++ rep1 c (1 + k).toNat) (fun rest => by rw [List.append_assoc, h, xp_piece hk.1 (by omega) (by omega)]) hd (by rw [List.length_append, hlr, List.length_drop]; omega) (by rw [List.length_drop]; omega)]
  conv => rhs; rw [hrep]
  rw [List.append_assoc]
structure SameP (a b : List Int) : Prop where
 ok : exOK a = exOK b
 z : exZ a = exZ b
section
variable {a b : List Int}
theorem SameP.v (h : SameP a b) : vOK a = vOK b := by rw [vOK, vOK, h.ok, h.z]
theorem SameP.n (h : SameP a b) : pN a = pN b := by rw [pN, pN, h.ok, h.z]
theorem SameP.s (h : SameP a b) : pS a = pS b := by rw [pS, pS, h.v, h.z]
theorem SameP.w (h : SameP a b) : pW a = pW b := by rw [pW, pW, h.v, h.z]
theorem SameP.d (h : SameP a b) : pD a = pD b := by rw [pD, pD, h.n, h.z]
theorem SameP.q (h : SameP a b) : pQ a = pQ b := by rw [pQ, pQ, h.n, h.z]
theorem SameP.g (h : SameP a b) : pG a = pG b := by rw [pG, pG, h.n, h.z]
theorem SameP.e (h : SameP a b) : pE a = pE b := by rw [pE, pE, h.v]
theorem SameP.edS (h : SameP a b) (n q : Int) : edS a n q = edS b n q := by rw [Go.Px.edS, Go.Px.edS, h.n, h.s, h.w, h.d, h.q, h.g]
theorem SameP.edF (h : SameP a b) (n q : Int) : edF a n q = edF b n q := by rw [Go.Px.edF, Go.Px.edF, h.n, h.d, h.q, h.g]
theorem SameP.edE (h : SameP a b) (q : Int) : edE a q = edE b q := by rw [Go.Px.edE, Go.Px.edE, h.n]
theorem SameP.fd (h : SameP a b) (n : Int) : fdN a n = fdN b n := by rw [fdN, fdN, h.s, h.w, h.d]
theorem SameP.rA (h : SameP a b) (t : List Int) : rdA a t = rdA b t := by rw [rdA, rdA, h.s]
theorem SameP.rd (h : SameP a b) (t : List Int) : rdV a t = rdV b t := by simp only [rdV, h.n, h.w, h.g, h.fd, h.rA]
theorem SameP.ho (h : SameP a b) (t : List Int) : hoZ a t = hoZ b t := by rw [hoZ, hoZ, h.v, h.n, h.w, h.s, h.rd]
theorem SameP.fl (h : SameP a b) (t : List Int) : flZ a t = flZ b t := by rw [flZ, flZ, h.w]
theorem SameP.fiS (h : SameP a b) (t : List Int) : fiS a t = fiS b t := by rw [Go.Px.fiS, Go.Px.fiS, h.v, h.n, h.fl]
theorem SameP.fiF (h : SameP a b) (t : List Int) : fiF a t = fiF b t := by rw [Go.Px.fiF, Go.Px.fiF, h.v, h.n, h.fl, h.ho]
theorem SameP.fiE (h : SameP a b) : fiE a = fiE b := by rw [Go.Px.fiE, Go.Px.fiE, h.v, h.n]
end
theorem wt_same {s : ByteArray} (h : vOK (bz s) = true) (hw : List Int) : SameP (wtGo (pS (bz s)).length (pS (bz s)) hw []) (pS (bz s)) ∧ vOK (pS (bz s)) = true := by
 have hl := pS_len s
 have hS : pS (bz s) = exZ (bz s) := by rw [pS, if_pos h]
 have hK : allK (pS (bz s)) = true := by rw [hS]; exact ex_kL _
 have hx : exOK (bz s) = true := by
  simp only [vOK, Bool.and_eq_true] at h
  exact h.1
 have h0 : pS (bz s) ≠ [] := by
  rw [hS, exZ, if_pos hx]
  simp only [exOK, Bool.and_eq_true, Bool.not_eq_true'] at hx
  intro q
  rw [q] at hx
  cases hx.2
 obtain ⟨i1, i2⟩ := ex_id hK h0 hl.2
 have e := wt_xp (pS (bz s)).length (pS (bz s)) hw [] [] (fun _ => rfl) hK (by simpa using hl.2) (Nat.le_refl _)
 have e1 : exOK (wtGo (pS (bz s)).length (pS (bz s)) hw []) = true := by
  rw [exOK, e, List.nil_append]
  cases hq : pS (bz s) with
  | nil => exact absurd hq h0
  | cons c r => rfl
 refine ⟨⟨by rw [e1, i1], by rw [exZ, if_pos e1, e, i2]; rfl⟩, ?_⟩
 simp only [vOK, Bool.and_eq_true] at h
 rw [vOK, i1, i2, hS]
 rw [h.2]
 rfl
end Go.Px
end
noncomputable section
set_option maxHeartbeats 3200000
namespace Go.Px
open Go Go.Ab Go.Proofs Go.Shelf
def L8 : Env := (((((Env.nil.add 19 (sp0 s19)).add 35 (sp1 s35)).add 32 (sp2 s32)).add 20 (sp3 s20))).addG 34 (hideS s34)
theorem ok_L8 : EnvOK Tryz.prog L8 := env_addG (env_add (env_add (env_add (env_add (env_nil) ok19) ok35) ok32) ok20) (gen_hide ok34)
def L12 : Env := (((((((((Env.nil.add 19 (sp0 s19)).add 30 (sp1 s30)).add 33 (sp1 s33)).add 35 (sp1 s35)).add 20 (sp3 s20)).add 22 (sp2 s22)).add 42 (sp2 s42)).add 24 (sp2 s24))).addG 43 (hideS s43)
theorem ok_L12 : EnvOK Tryz.prog L12 := env_addG (env_add (env_add (env_add (env_add (env_add (env_add (env_add (env_add (env_nil) ok19) ok30) ok33) ok35) ok20) ok22) ok42) ok24) (gen_hide ok43)
def F8 (s' : ByteArray) (n k : Int) (R : Value → Prop) : Prop := bif decide (ByteArray.size s' ≤ 9223372036854775807) then bif pE (bz s') != 0 || true then bif pE (bz s') != 0 || !pN (bz s') then R (Value.bool false) else bif decide (ByteArray.size s' ≤ 9223372036854775807) then bif decide (ByteArray.size s' ≤ 9223372036854775807) then bif decide (wiZ (bz s') n < 0) || true then bif decide (wiZ (bz s') n < 0) || decide (wiZ (bz s') k < 0) then R (Value.bool false) else bif decide (ByteArray.size s' ≤ 9223372036854775807 ∧ -9223372036854775808 ≤ wiZ (bz s') n ∧ wiZ (bz s') n ≤ 9223372036854775807) then bif decide (ByteArray.size s' ≤ 9223372036854775807 ∧ -9223372036854775808 ≤ wiZ (bz s') k ∧ wiZ (bz s') k ≤ 9223372036854775807) then bif bif edF (bz s') (wiZ (bz s') n) (pQ (bz s')) then bif edF (bz s') (wiZ (bz s') k) (pQ (bz s')) then Op.bytesLess (ByteArray.toList (sz (edS (bz s') (wiZ (bz s') n) (pQ (bz s'))))) (ByteArray.toList (sz (edS (bz s') (wiZ (bz s') k) (pQ (bz s'))))) == decide (wiZ (bz s') n < wiZ (bz s') k) || true else true else true then R (Value.bool (edF (bz s') (wiZ (bz s') n) (pQ (bz s')) && (edF (bz s') (wiZ (bz s') k) (pQ (bz s')) && (Op.bytesLess (ByteArray.toList (sz (edS (bz s') (wiZ (bz s') n) (pQ (bz s'))))) (ByteArray.toList (sz (edS (bz s') (wiZ (bz s') k) (pQ (bz s'))))) == decide (wiZ (bz s') n < wiZ (bz s') k) && (ByteArray.toList (sz (edS (bz s') (wiZ (bz s') n) (pQ (bz s')))) == ByteArray.toList (sz (edS (bz s') (wiZ (bz s') k) (pQ (bz s'))))) == (wiZ (bz s') n == wiZ (bz s') k))))) else False else False else False else False else False else False else False else False
def F12 (s' s t : ByteArray) (n q : Int) (R : Value → Prop) : Prop := bif decide (ByteArray.size s' ≤ 9223372036854775807) then bif decide (ByteArray.size (sz (pS (bz s))) ≤ 9223372036854775807) then bif pE (bz s') != 0 || (pE (bz (sz (pS (bz s)))) != 0 || true) then bif pE (bz s') != 0 || (pE (bz (sz (pS (bz s)))) != 0 || !(ByteArray.toList (sz (pS (bz s'))) == ByteArray.toList (sz (pS (bz (sz (pS (bz s)))))) && (pN (bz s') == pN (bz (sz (pS (bz s)))) && (pW (bz s') == pW (bz (sz (pS (bz s)))) && (pD (bz s') == pD (bz (sz (pS (bz s)))) && (pQ (bz s') == pQ (bz (sz (pS (bz s)))) && (pG (bz s') == pG (bz (sz (pS (bz s)))) && true))))))) then R (Value.bool false) else bif decide (ByteArray.size s' ≤ 9223372036854775807 ∧ -9223372036854775808 ≤ n ∧ n ≤ 9223372036854775807) then bif decide (ByteArray.size (sz (pS (bz s))) ≤ 9223372036854775807 ∧ -9223372036854775808 ≤ n ∧ n ≤ 9223372036854775807) then bif decide (ByteArray.size s' ≤ 9223372036854775807 ∧ ByteArray.size t ≤ 9223372036854775807) then bif decide (ByteArray.size (sz (pS (bz s))) ≤ 9223372036854775807 ∧ ByteArray.size t ≤ 9223372036854775807) then bif decide (ByteArray.size s' ≤ 9223372036854775807 ∧ ByteArray.size t ≤ 9223372036854775807) then bif decide (ByteArray.size (sz (pS (bz s))) ≤ 9223372036854775807 ∧ ByteArray.size t ≤ 9223372036854775807) then bif bif ByteArray.toList (sz (edS (bz s') n q)) == ByteArray.toList (sz (edS (bz (sz (pS (bz s)))) n q)) then bif edF (bz s') n q == edF (bz (sz (pS (bz s)))) n q then bif edE (bz s') q == edE (bz (sz (pS (bz s)))) q then bif Prod.fst (rdV (bz s') (bz t)) == Prod.fst (rdV (bz (sz (pS (bz s)))) (bz t)) then bif Prod.snd (rdV (bz s') (bz t)) == Prod.snd (rdV (bz (sz (pS (bz s)))) (bz t)) then bif ByteArray.toList (sz (fiS (bz s') (bz t))) == ByteArray.toList (sz (fiS (bz (sz (pS (bz s)))) (bz t))) then bif fiF (bz s') (bz t) == fiF (bz (sz (pS (bz s)))) (bz t) then bif fiE (bz s') == fiE (bz (sz (pS (bz s)))) then decide (ByteArray.size s' ≤ 9223372036854775807 ∧ ByteArray.size t ≤ 9223372036854775807) && (decide (ByteArray.size (sz (pS (bz s))) ≤ 9223372036854775807 ∧ ByteArray.size t ≤ 9223372036854775807) && true) else true else true else true else true else true else true else true else true then R (Value.bool (ByteArray.toList (sz (edS (bz s') n q)) == ByteArray.toList (sz (edS (bz (sz (pS (bz s)))) n q)) && (edF (bz s') n q == edF (bz (sz (pS (bz s)))) n q && (edE (bz s') q == edE (bz (sz (pS (bz s)))) q && (Prod.fst (rdV (bz s') (bz t)) == Prod.fst (rdV (bz (sz (pS (bz s)))) (bz t)) && (Prod.snd (rdV (bz s') (bz t)) == Prod.snd (rdV (bz (sz (pS (bz s)))) (bz t)) && (ByteArray.toList (sz (fiS (bz s') (bz t))) == ByteArray.toList (sz (fiS (bz (sz (pS (bz s)))) (bz t))) && (fiF (bz s') (bz t) == fiF (bz (sz (pS (bz s)))) (bz t) && (fiE (bz s') == fiE (bz (sz (pS (bz s)))) && hoZ (bz s') (bz t) == hoZ (bz (sz (pS (bz s)))) (bz t)))))))))) else False else False else False else False else False else False else False else False else False else False
theorem v8n (n : Int) (k : Int) (R : Value → Prop) : (bodyQ Tryz.prog L8 noL Tryz.f8 [.slice none 0 0, .int .i64 n, .int .i64 k] (fun _ => none) 2 (fun v _ _ => R v)) = ( ∀ (s' : ByteArray), sz (pnGo [] [57] 1 false) = s' → F8 s' n k R) := by kernel_rfl
theorem v8o (d : List Value) (l : Nat) (c : Nat) (n : Int) (k : Int) (R : Value → Prop) : (bodyQ Tryz.prog L8 noL Tryz.f8 [.slice (some ⟨0, 0, some 1⟩) l c, .int .i64 n, .int .i64 k] (vw d 5) 2 (fun v _ _ => R v)) = ( bif vwOK d l && Nat.ble l 9223372036854775807 then ∀ (s' : ByteArray), sz (pnGo (zc d l) [57] 1 false) = s' → F8 s' n k R else False) := by kernel_rfl
theorem v12n (s : ByteArray) (t : ByteArray) (n : Int) (q : Int) (R : Value → Prop) : (bodyQ Tryz.prog L12 noL Tryz.f12 [caseV s t n q (.slice none 0 0)] (fun _ => none) 2 (fun v _ _ => R v)) = ( bif decide (ByteArray.size s ≤ 9223372036854775807) then bif pE (bz s) != 0 then bif decide (ByteArray.size s ≤ 9223372036854775807) then R (.bool (pE (bz s) == pE (bz s))) else False else bif decide (ByteArray.size (sz (pS (bz s))) ≤ 1000) then ∀ (s' : ByteArray), sz (wtGo (ByteArray.size (sz (pS (bz s)))) (bz (sz (pS (bz s)))) [] []) = s' → F12 s' s t n q R else False else False) := by kernel_rfl
theorem v12o (s : ByteArray) (t : ByteArray) (n : Int) (q : Int) (d : List Value) (l : Nat) (c : Nat) (R : Value → Prop) : (bodyQ Tryz.prog L12 noL Tryz.f12 [caseV s t n q (.slice (some ⟨0, 0, some 1⟩) l c)] (vw d 5) 2 (fun v _ _ => R v)) = ( bif decide (ByteArray.size s ≤ 9223372036854775807) then bif pE (bz s) != 0 then bif decide (ByteArray.size s ≤ 9223372036854775807) then R (.bool (pE (bz s) == pE (bz s))) else False else bif Sw.ok (Sw.own d l c) && decide (ByteArray.size (sz (pS (bz s))) ≤ 1000) then ∀ (s' : ByteArray), sz (wtGo (ByteArray.size (sz (pS (bz s)))) (bz (sz (pS (bz s)))) (zc d l) []) = s' → F12 s' s t n q R else False else False) := by kernel_rfl
end Go.Px
end
noncomputable section
set_option maxHeartbeats 3200000
namespace Go.Px
open Go Go.Ab Go.Proofs Go.Shelf
theorem f8_law {s' : ByteArray} (h : PlP (bz s')) (n k : Int) : F8 s' n k (fun v => v = .bool true) := by
 unfold F8
 obtain ⟨h1, h2, h3⟩ := pl_pN h
 rw [pe_pn, h1]
 have hz : s'.size ≤ 32 := by rw [← bz_length]; exact h.l32
 have hl := pS_len s'
 obtain ⟨w1, w2⟩ := wi_rng h1 n
 obtain ⟨u1, u2⟩ := wi_rng h1 k
 have w3 := wi_64 (bz s') n
 have u3 := wi_64 (bz s') k
 generalize wiZ (bz s') n = a at *
 generalize wiZ (bz s') k = b at *
 have ha : ¬ a < 0 := fun q => by have := w2 q; rw [h3] at this; cases this
 have hb : ¬ b < 0 := fun q => by have := u2 q; rw [h3] at this; cases this
 obtain ⟨e1, e2, _⟩ := ed_in h1 w1 w2
 obtain ⟨f1, f2, _⟩ := ed_in h1 u1 u2
 have hD : cntZ (bz s') 57 = (pD (bz s')).toNat := by
  obtain ⟨_, _, p3, _⟩ := pN_ok hl h1 0
  have := pl_pd (bz s') false h.ch
  rw [h2, (pl_num h).ms, this] at p3
  omega
 have hl1 := digZ_len (pD (bz s')).toNat a.natAbs
 have hl2 := digZ_len (pD (bz s')).toNat b.natAbs
 obtain ⟨t1, t2⟩ := lex_tp (bz s') (digZ a.natAbs (pD (bz s')).toNat) (digZ b.natAbs (pD (bz s')).toNat) (by rw [hl1, hD]) (by rw [hl1, hl2])
 have d1 := dval_dig (pD (bz s')).toNat a.natAbs (by omega)
 have d2 := dval_dig (pD (bz s')).toNat b.natAbs (by omega)
 rw [Int.emod_eq_of_lt (by omega) w1] at d1
 rw [Int.emod_eq_of_lt (by omega) u1] at d2
 have hless : Op.bytesLess (ByteArray.toList (sz (fdN (bz s') a))) (ByteArray.toList (sz (fdN (bz s') b))) = decide (a < b) := by
  rw [less_lex, bz_fdN, bz_fdN, pl_field h, pl_field h, t1, lex_dval _ _ (digZ_dg _ _) (digZ_dg _ _) (by rw [hl1, hl2]), d1, d2]
  congr 1
  rw [eq_iff_iff]
  omega
 have heq : (ByteArray.toList (sz (fdN (bz s') a)) == ByteArray.toList (sz (fdN (bz s') b))) = (a == b) := by
  rw [toList_beq, bz_fdN, bz_fdN, pl_field h, pl_field h, Bool.eq_iff_iff, decide_eq_true_eq, t2, beq_iff_eq]
  constructor
  ·intro q
   rw [q, d2] at d1
   omega
  ·intro q
   rw [q]
 rw [e1, e2, f1, f2, hless, heq]
 have hs : decide (s'.size ≤ 9223372036854775807) = true := decide_eq_true (by omega)
 refine c_t hs (c_t (by simp) (c_f rfl (c_t hs (c_t hs (c_t (by simp) (c_f (by simp [ha, hb]) (c_t (decide_eq_true ⟨by omega, w3⟩) (c_t (decide_eq_true ⟨by omega, u3⟩) (c_t (by simp) ?_)))))))))
 simp
theorem fn8 : Fn1 Tryz.prog 8 Tryz.f8 := ⟨Tryz.func8, by kernel_rfl, by kernel_rfl, by kernel_rfl⟩
theorem pl_made {z : List Int} {s' : ByteArray} (h : sz (pnGo z [57] 1 false) = s') : PlP (bz s') := by
 have hP := pn_inv z [57] 1 false pl_start (by decide) (fun _ => by decide)
 rw [← h, bz_sz]
 ·exact hP
 ·exact fun c hc => by have := hP.ch c hc; omega
theorem d8n (n k : Int) : DoesT Tryz.prog L8 noL Tryz.f8 [.slice none 0 0, .int .i64 n, .int .i64 k] (fun _ => none) 2 (.bool true) := by
 rw [DoesT, v8n]
 exact fun s' h => f8_law (pl_made h) n k
theorem d8o {d : List Value} {l c : Nat} (hv : (vwOK d l && Nat.ble l 9223372036854775807) = true) (n k : Int) : DoesT Tryz.prog L8 noL Tryz.f8 [.slice (some ⟨0, 0, some 1⟩) l c, .int .i64 n, .int .i64 k] (vw d 5) 2 (.bool true) := by
 rw [DoesT, v8o]
 exact c_t hv fun s' h => f8_law (pl_made h) n k
theorem f12_law {s s' t : ByteArray} (H : SameP (bz s') (pS (bz s))) (hv : vOK (pS (bz s)) = true) (hs : s'.size ≤ 9223372036854775807) (ht : t.size ≤ 9223372036854775807) {n q : Int} (hn : -9223372036854775808 ≤ n ∧ n ≤ 9223372036854775807) : F12 s' s t n q (fun v => v = .bool true) := by
 unfold F12
 have hl := pS_len s
 have b1 : bz (sz (pS (bz s))) = pS (bz s) := bz_sz hl.1
 have z1 : (sz (pS (bz s))).size ≤ 32 := by rw [sz_size]; exact hl.2
 have e0 : pE (pS (bz s)) = 0 := by rw [pE, if_pos hv]
 rw [b1, H.e, H.s, H.n, H.w, H.d, H.q, H.g, H.edS, H.edF, H.edE, H.rd, H.fiS, H.fiF, H.fiE, H.ho, e0]
 have y1 : decide (s'.size ≤ 9223372036854775807) = true := decide_eq_true hs
 have y2 : decide ((sz (pS (bz s))).size ≤ 9223372036854775807) = true := decide_eq_true (by omega)
 have y3 : decide (s'.size ≤ 9223372036854775807 ∧ -9223372036854775808 ≤ n ∧ n ≤ 9223372036854775807) = true := decide_eq_true ⟨hs, hn⟩
 have y4 : decide ((sz (pS (bz s))).size ≤ 9223372036854775807 ∧ -9223372036854775808 ≤ n ∧ n ≤ 9223372036854775807) = true := decide_eq_true ⟨by omega, hn⟩
 have y5 : decide (s'.size ≤ 9223372036854775807 ∧ t.size ≤ 9223372036854775807) = true := decide_eq_true ⟨hs, ht⟩
 have y6 : decide ((sz (pS (bz s))).size ≤ 9223372036854775807 ∧ t.size ≤ 9223372036854775807) = true := decide_eq_true ⟨by omega, ht⟩
 simp only [y1, y2, y3, y4, y5, y6]
 simp
theorem wt_made {s s' : ByteArray} (h : vOK (bz s) = true) {hw : List Int} (e : sz (wtGo (sz (pS (bz s))).size (bz (sz (pS (bz s)))) hw []) = s') :
  SameP (bz s') (pS (bz s)) ∧ vOK (pS (bz s)) = true ∧ s'.size ≤ 9223372036854775807 := by
 have hl := pS_len s
 rw [bz_sz hl.1, sz_size] at e
 obtain ⟨a1, a2⟩ := wt_same h hw
 have hB := wt_isB (pS (bz s)).length (pS (bz s)) hw [] hl.1 IsB.nil hl.2
 have hL := wt_len (pS (bz s)).length (pS (bz s)) hw []
 refine ⟨by rw [← e, bz_sz hB]; exact a1, a2, ?_⟩
 rw [← e, sz_size]
 simp only [List.length_nil] at hL
 omega
theorem fn12 : Fn1 Tryz.prog 12 Tryz.f12 := ⟨Tryz.func12, by kernel_rfl, by kernel_rfl, by kernel_rfl⟩
theorem d12n {s t : ByteArray} {n q : Int} (hs : s.size ≤ 9223372036854775807) (ht : t.size ≤ 9223372036854775807) (hn : -9223372036854775808 ≤ n ∧ n ≤ 9223372036854775807) : DoesT Tryz.prog L12 noL Tryz.f12 [caseV s t n q (.slice none 0 0)] (fun _ => none) 2 (.bool true) := by
 rw [DoesT, v12n, pE_ne]
 have hl := pS_len s
 refine c_t (decide_eq_true hs) (cond_intro (fun h => ?_) (fun h => ?_))
 ·refine c_t (decide_eq_true hs) ?_
  simp
 ·have h : vOK (bz s) = true := by simpa using h
  refine c_t (decide_eq_true (by rw [sz_size]; omega)) fun s' e => ?_
  obtain ⟨a1, a2, a3⟩ := wt_made h e
  exact f12_law a1 a2 a3 ht hn
theorem d12o {s t : ByteArray} {n q : Int} {d : List Value} {l c : Nat} (hv : (vwOK d l && Nat.ble l 9223372036854775807) = true) (hs : s.size ≤ 9223372036854775807) (ht : t.size ≤ 9223372036854775807) (hn : -9223372036854775808 ≤ n ∧ n ≤ 9223372036854775807) : DoesT Tryz.prog L12 noL Tryz.f12 [caseV s t n q (.slice (some ⟨0, 0, some 1⟩) l c)] (vw d 5) 2 (.bool true) := by
 rw [DoesT, v12o, pE_ne]
 have hl := pS_len s
 refine c_t (decide_eq_true hs) (cond_intro (fun h => ?_) (fun h => ?_))
 ·refine c_t (decide_eq_true hs) ?_
  simp
 ·have h : vOK (bz s) = true := by simpa using h
  refine c_t (Bool.and_eq_true_iff.2 ⟨hv, decide_eq_true (by rw [sz_size]; omega)⟩) fun s' e => ?_
  obtain ⟨a1, a2, a3⟩ := wt_made h e
  exact f12_law a1 a2 a3 ht hn
end Go.Px
end
noncomputable section
set_option maxHeartbeats 3200000
namespace Go.Px
open Go Go.Ab Go.Proofs Go.Shelf
section
variable {s t : ByteArray} (hs : s.size ≤ 9223372036854775807) (ht : t.size ≤ 9223372036854775807)
include hs ht
end
end Go.Px
end
noncomputable section
namespace Go.Px
open Go Go.Ab Go.Proofs Go.Shelf Go.ChangeMaps Go.ChangeShapes Go.WideShapes Go.ChangeAt Go.RowKit Go.Joins
open Go.Proofs.YtheglfmhbfngkaaGreatDoor
theorem own : ownKnob Tryz.prog.godebug = none := by kernel_rfl
def laidL : List (String × DataW Unit) := Rows.pictureEditsRow.laid
theorem tab_is {P : Program} {W : World} {name : String} {k : IntKind} {zs : List Int} {g : Nat} {t e : TypeId} {n : Nat} (hr : Lib.VarReads P W name (Lib.tabData k zs))
  (hg : P.globalNamed name = some g) (hty : (P.globals[g]?).map (·.type) = some t) (ht : P.underlying t = some (.array n e)) (he : P.underlying e = some (.int k)) (hce : P.cellsOf e = 1) (hct : P.cellsOf t = n) :
  g < W.heap.size ∧ ∃ ty fr, W.heap[g]? = some (.cells ⟨zs.map fun z => Value.int k z⟩ ty fr) := by
 obtain ⟨g', t', cs, fuel, p, h1, h2, h3, h4⟩ := hr
 obtain rfl := Option.some.inj (hg.symm.trans h1)
 obtain rfl := Option.some.inj (hty.symm.trans h2)
 have hc := Lib.cells_of_tab ht he hce hct h4
 unfold World.var? at h3
 rw [hg, Option.bind_some] at h3
 split at h3
 case h_2 => cases h3
 rename_i cs' ty fr hh
 have h3 := Option.some.inj h3
 refine ⟨(Array.getElem?_eq_some_iff.1 hh).1, ty, fr, ?_⟩
 rw [hh, h3]
 congr 2
 rw [← hc]
set_option maxRecDepth 100000 in
theorem tabs_of_laid {W : World} (h : laidMetH Tryz.prog laidL W) : TabsIn W.heap.size W := by
 rw [MakeChecks.laidMetH_plain _ _ _ (by kernel_rfl)] at h
 intro b r hb
 have key : ∀ b : Nat, rowsT b = some r → b = 0 ∧ r = punchedZ.map (fun n => Value.int .u8 n) ∨ b = 3 ∧ r = pow10Z.map (fun n => Value.int .u64 n) := by
  intro b hb
  unfold rowsT at hb
  split at hb
  ·cases hb; exact .inl ⟨rfl, rfl⟩
  ·cases hb; exact .inr ⟨rfl, rfl⟩
  ·cases hb
 have t5 : Tryz.prog.cellsOf 5 = 1 := by kernel_rfl
 rcases key b hb with ⟨rfl, rfl⟩ | ⟨rfl, rfl⟩
 ·have hr : Lib.VarReads Tryz.prog W "pliant/picture.punched" (Lib.tabData .u8 punchedZ) := Lib.laidMet.reads h (by unfold laidL Rows.pictureEditsRow; exact .tail _ (.tail _ (.tail _ (.tail _ (.tail _ (.tail _ (.head _)))))))
  exact tab_is hr (g := 0) (t := 91) (n := 20) (e := 5) (by kernel_rfl) (by kernel_rfl) (by kernel_rfl) (by kernel_rfl) t5 (by kernel_rfl)
 ·have hr : Lib.VarReads Tryz.prog W "internal/strconv.uint64pow10" (Lib.tabData .u64 pow10Z) := Lib.laidMet.reads h (by unfold laidL Rows.pictureEditsRow; exact .tail _ (.tail _ (.head _)))
  exact tab_is hr (g := 3) (t := 168) (n := 20) (e := 94) (by kernel_rfl) (by kernel_rfl) (by kernel_rfl) (by kernel_rfl) (by kernel_rfl) (by kernel_rfl)
def OpensP (P : Program) (t : TypeId) (α : Type) [Enc α] (Q : α → Prop) : Prop :=
 ∀ {H : Type} {enc : TypeId × Value → H} {w : World} {base : Nat} {spare : Nat → Bool} {held : Bool} {r : Reach} {b0 : Nat} {v : Value} {d : DataW H} {p : List MemPlace}, Value.okWide P w r b0 t v → DataW.Trod enc P w base spare held t v d p →
  ∃ a : α, v = Enc.enc a ∧ Q a ∧ p = [] ∧ ∀ (w' : World) (b' : Nat) (sp' : Nat → Bool) (hd' : Bool), DataW.Trod enc P w' b' sp' hd' t v d []
theorem opensP_string {P : Program} {t : TypeId} (ht : P.underlying t = some .string) : OpensP P t ByteArray fun s => s.size ≤ 9223372036854775807 := by
 intro H enc w base spare held r b0 v d p hv h
 obtain ⟨n, rfl, rfl, rfl, hw⟩ := open_string ht hv h
 exact ⟨n, rfl, Nat.le_trans hw (by decide), rfl, fun w' b' sp' hd' => shut_string ht hw⟩
theorem oS : OpensP Tryz.prog 9 ByteArray fun s => s.size ≤ 9223372036854775807 := opensP_string Tryz.underlying9
theorem opensP_int {P : Program} {t : TypeId} (ht : P.underlying t = some (.int .i64)) : OpensP P t Int fun n => -9223372036854775808 ≤ n ∧ n ≤ 9223372036854775807 := by
 intro H enc w base spare held r b0 v d p hv h
 obtain ⟨n, rfl, rfl, rfl, hw⟩ := open_int ht hv h
 exact ⟨n, rfl, by simpa [Lit.wf, IntKind.min, IntKind.max, IntKind.signed, IntKind.bits] using hw, rfl, fun w' b' sp' hd' => shut_int ht hw⟩
theorem oI : OpensP Tryz.prog 3 Int fun n => -9223372036854775808 ≤ n ∧ n ≤ 9223372036854775807 := opensP_int Tryz.underlying3
theorem opensP_bool {P : Program} {t : TypeId} (ht : P.underlying t = some .bool) : OpensP P t Bool fun _ => True := by
 intro H enc w base spare held r b0 v d p hv h
 obtain ⟨n, rfl, rfl, rfl⟩ := open_bool ht hv h
 exact ⟨n, rfl, trivial, rfl, fun w' b' sp' hd' => shut_bool ht n⟩
theorem oB : OpensP Tryz.prog 4 Bool fun _ => True := opensP_bool Tryz.underlying4
theorem opensP_u8 {P : Program} {t : TypeId} (ht : P.underlying t = some (.int .u8)) : OpensP P t U8 fun c => 0 ≤ c.n ∧ c.n ≤ 255 := by
 intro H enc w base spare held r b0 v d p hv h
 obtain ⟨n, rfl, rfl, rfl, hw⟩ := open_int ht hv h
 exact ⟨⟨n⟩, rfl, by simpa [Lit.wf, IntKind.min, IntKind.max, IntKind.signed, IntKind.bits] using hw, rfl, fun w' b' sp' hd' => shut_int ht hw⟩
theorem oC : OpensP Tryz.prog 5 U8 fun c => 0 ≤ c.n ∧ c.n ≤ 255 := opensP_u8 Tryz.underlying5
theorem plain_laid : ∀ w, laidMetH Tryz.prog laidL w = laidMet Tryz.prog laidL w := fun w => MakeChecks.laidMetH_plain _ _ _ (by kernel_rfl)
theorem jf_mk {P : Program} {f : FuncId} {fn : Func} {s : ChangeSpec} {c : OpenClaim} (hA : (c.wf (OpenSpec.ofChange s) && laidOutB P && mapsRowed P && fn.params.all (P.readableRec ·) && namedTie P c.named s.vars && (c.stops == []) && (P.stops == []) && (c.knobs == []) && (P.stopKnobs == [])) = true)
  (h1 : (c.inPlace == P.inPlace f) = true) (h2 : (c.unfollowed == P.unfollowed f) = true) (h3 : (c.recurses == P.recurses f) = true) (h4 : (c.named == P.varsNamed f) = true)
  (hR : ((c.maps == (fn.params.toList ++ s.plain.varTypes P).any (P.mapsRec ·)) && (c.ifaces == (fn.params.toList ++ s.plain.varTypes P).any (P.ifacesRec ·)) && (c.mapsOut == P.mapsAmong fn.resultTypes.toList) && (c.loops == (fn.params.toList ++ s.plain.varTypes P).any (P.loopsFrom ·)) && (c.wideKeys == (fn.params.toList ++ s.plain.varTypes P ++ fn.resultTypes.toList).any (P.wideKeysFrom ·)) && s.vars.all (P.varReadable ·) && fn.resultTypes.all (fun t => P.readableRec t && decide (t < P.types.size)) && (c.ifacesOut == fn.resultTypes.toList.any (P.ifacesRec ·)) && (c.loopsOut == fn.resultTypes.toList.any (P.loopsFrom ·)) && (c.plainKeys == P.plainKeys) && c.shortTexts.isNone && P.stopsHeard && P.mayEnter && (c.lifted == P.liftsFinal) && (P.make == some c.make) && (c.kinds == (if c.domain.isEmpty then [] else fn.params.toList.map fun t => match P.underlying t with | some (.int k) => some k | _ => none)) && (c.pinned == c.pinnedBy) && (c.veiled == (fn.params.toList ++ s.plain.varTypes P ++ fn.resultTypes.toList).any (P.veiledRec ·)) && c.veiledFits P fn.params.toList (fn.params.toList ++ s.plain.varTypes P ++ fn.resultTypes.toList)) = true) : joinedFacts P f fn s c = true := by
 unfold joinedFacts
 rw [hA, h1, h2, h3, h4]
 simp only [Bool.true_and]
 exact hR
theorem main_is : Tryz.pinned.checked.prog.mainIs = some (true, ("1071b1b82e10af2d54fdefa34d8f8e5a24ee595ac523bd215b5ede5d74a6a811" : String).toList) := by kernel_rfl
theorem looks_is : true = Tryz.pinned.checked.prog.looks [] := by kernel_rfl
end Go.Px
end
noncomputable section
namespace Go.Px
open Go Go.Ab Go.Proofs Go.Shelf Go.ChangeMaps Go.ChangeShapes Go.WideShapes Go.ChangeAt Go.RowKit Go.Joins
open Go.Proofs.YtheglfmhbfngkaaGreatDoor
def SlB (w : World) (v : Value) : Prop := v = .slice none 0 0 ∨
 ∃ b off n cap c, v = .slice (some ⟨b, off, none⟩) n cap ∧ b < w.heap.size ∧ (vwOK c n && Nat.ble n 9223372036854775807) = true ∧ ∀ i x, c[i]? = some x → w.cell? ⟨b, off + i, none⟩ = some x
theorem rd42 : Tryz.prog.readableRec 42 = true ∧ 42 < Tryz.prog.types.size := ⟨by kernel_rfl, of_decide_eq_true (by kernel_rfl)⟩
theorem rd44 : Tryz.prog.readableRec 44 = true ∧ 44 < Tryz.prog.types.size := ⟨by kernel_rfl, of_decide_eq_true (by kernel_rfl)⟩
theorem rd57 : Tryz.prog.readableRec 57 = true ∧ 57 < Tryz.prog.types.size := ⟨by kernel_rfl, of_decide_eq_true (by kernel_rfl)⟩
theorem rd3 : Tryz.prog.readableRec 3 = true ∧ 3 < Tryz.prog.types.size := ⟨by kernel_rfl, of_decide_eq_true (by kernel_rfl)⟩
theorem laid_ok : laidOutB Tryz.prog = true := by kernel_rfl
theorem cel3 : Tryz.prog.cellsOf 3 = 1 := by kernel_rfl
theorem cel5 : Tryz.prog.cellsOf 5 = 1 := by kernel_rfl
theorem cel9 : Tryz.prog.cellsOf 9 = 1 := by kernel_rfl
theorem cel42 : Tryz.prog.cellsOf 42 = 1 := by kernel_rfl
theorem cel44 : Tryz.prog.cellsOf 44 = 5 := by kernel_rfl
theorem cel57 : Tryz.prog.cellsOf 57 = 4 := by kernel_rfl
theorem ct44 : Tryz.prog.cellTypes Tryz.prog.depth 44 = some [9, 9, 3, 3, 42] := by kernel_rfl
theorem ct57 : Tryz.prog.cellTypes Tryz.prog.depth 57 = some [42, 42, 9, 9] := by kernel_rfl
set_option maxRecDepth 100000 in
theorem cell_has {w : World} {base : Nat} {a : Addr} {len cap : Nat} (h : Cell.okWide Tryz.prog w .any base 42 (.slice (some a) len cap)) : a.spot = none ∧ a.block < w.heap.size := by
 simp only [Cell.okWide, Tryz.underlying42, Cell.ok] at h
 obtain ⟨_, _, _, hs, row, cells, hsh, _⟩ := h
 refine ⟨hs, ?_⟩
 unfold World.shape? at hsh
 split at hsh
 ·rename_i hq
  exact (Array.getElem?_eq_some_iff.1 hq).1
 ·cases hsh
section
variable {H : Type} {enc : TypeId × Value → H} {w : World} {base : Nat}
set_option maxRecDepth 100000 in
theorem cell_slB {v : Value} {fuel : Nat} {x : DataW H × List MemPlace} (hv : Cell.okWide Tryz.prog w .any base 42 v) (h : DataW.trod enc Tryz.prog w 0 (fun _ => true) true fuel 42 [v] = some x) : SlB w v := by
 rcases open_ints Tryz.underlying42 Tryz.underlying5 cel5 h with ⟨h1, _⟩ | ⟨a, len, cap, zs, h1, hb, hl, hm, hz, _, hc, hwf⟩
 ·exact .inl (by simpa using h1)
 ·right
  have h1 : v = .slice (some a) len cap := by simpa using h1
  subst h1
  obtain ⟨hs, hlt⟩ := cell_has hv
  obtain ⟨b, off, sp⟩ := a
  simp only at hs hlt
  subst hs
  simp only [if_true] at hz
  have hL : (zs.take len).length = len := by rw [List.length_take]; omega
  refine ⟨b, off, len, cap, cz (zs.take len), rfl, hlt, ?_, fun i y hi => ?_⟩
  ·rw [Bool.and_eq_true_iff]
   refine ⟨vwOK_iff.2 ⟨cz_isBytes _, by rw [cz_length, hL], ?_⟩, Nat.ble_eq_true_of_le (Nat.le_trans hl (Nat.le_trans hm (by decide)))⟩
   rw [show (cz (zs.take len)).map iv = zs.take len by simp [cz, Function.comp_def, iv]]
   intro c hcm
   have := hwf c (List.mem_of_mem_take hcm)
   simp [Lit.wf, IntKind.min, IntKind.max, IntKind.signed, IntKind.bits] at this
   omega
  ·have hi' : i < len := by
    have := (List.getElem?_eq_some_iff.1 hi).1
    rw [cz_length, hL] at this
    exact this
   have q := hc i (by omega)
   have add : (⟨b, off, none⟩ : Addr).add i = ⟨b, off + i, none⟩ := by unfold Addr.add; split <;> simp_all
   rw [add] at q
   rw [q]
   rw [cz, List.getElem?_map, List.getElem?_take_of_lt hi', List.getElem?_eq_getElem (by omega)] at hi
   have hi := Option.some.inj hi
   rw [List.getD_eq_getElem?_getD, List.getElem?_eq_getElem (by omega)]
   rw [← hi]
   rfl
set_option maxRecDepth 100000 in
theorem open42 {v : Value} {d : DataW H} {p : List MemPlace} (hv : Value.okWide Tryz.prog w .any base 42 v) (h : DataW.Trod enc Tryz.prog w 0 (fun _ => true) true 42 v d p) : SlB w v := by
 obtain ⟨a, len, cap, rfl⟩ := okWide_slice (e := 5) Tryz.underlying42 hv
 obtain ⟨fuel, h⟩ := h
 simp only [Value.okWide, Tryz.underlying42] at hv
 exact cell_slB hv h
set_option maxRecDepth 100000 in
theorem open44 {v : Value} {d : DataW H} {p : List MemPlace} (hv : Value.okWide Tryz.prog w .any base 44 v) (h : DataW.Trod enc Tryz.prog w 0 (fun _ => true) true 44 v d p) :
  ∃ s t n q h, v = .agg ⟨[.string s, .string t, .int .i64 n, .int .i64 q, h]⟩ ∧ s.size ≤ 9223372036854775807 ∧ t.size ≤ 9223372036854775807 ∧ (-9223372036854775808 ≤ n ∧ n ≤ 9223372036854775807) ∧ SlB w h := by
 obtain ⟨fuel, h⟩ := h
 simp only [Value.okWide, Tryz.underlying44] at hv
 obtain ⟨cs, rfl, hsz, ts, hts, _, hc⟩ := hv
 obtain ⟨l⟩ := cs
 rw [ct44] at hts
 obtain rfl := Option.some.inj hts
 simp only [cel44, List.size_toArray] at hsz
 match l, hsz with
 | [x0, x1, x2, x3, x4], _ =>
  obtain ⟨xs, n, _, _, _, hlen, hf⟩ := DataW.trod_struct Tryz.underlying44 h
  match xs, hlen with
  | [y0, y1, y2, y3, y4], _ =>
   have f0 : DataW.trod enc Tryz.prog w 0 (fun _ => true) true n 9 (([x0, x1, x2, x3, x4].drop 0).take (Tryz.prog.cellsOf 9)) = some y0 := hf 0 _ rfl
   rw [cel9] at f0
   have f1 : DataW.trod enc Tryz.prog w 0 (fun _ => true) true n 9 (([x0, x1, x2, x3, x4].drop 1).take (Tryz.prog.cellsOf 9)) = some y1 := hf 1 _ rfl
   rw [cel9] at f1
   have f2 : DataW.trod enc Tryz.prog w 0 (fun _ => true) true n 3 (([x0, x1, x2, x3, x4].drop 2).take (Tryz.prog.cellsOf 3)) = some y2 := hf 2 _ rfl
   rw [cel3] at f2
   have f3 : DataW.trod enc Tryz.prog w 0 (fun _ => true) true n 3 (([x0, x1, x2, x3, x4].drop 3).take (Tryz.prog.cellsOf 3)) = some y3 := hf 3 _ rfl
   rw [cel3] at f3
   have f4 : DataW.trod enc Tryz.prog w 0 (fun _ => true) true n 42 (([x0, x1, x2, x3, x4].drop 4).take (Tryz.prog.cellsOf 42)) = some y4 := hf 4 _ rfl
   rw [cel42] at f4
   obtain ⟨s, e0, _, hs⟩ := DataW.trod_string Tryz.underlying9 f0
   obtain ⟨t, e1, _, ht⟩ := DataW.trod_string Tryz.underlying9 f1
   obtain ⟨n, e2, _, hn⟩ := DataW.trod_int Tryz.underlying3 f2
   obtain ⟨q, e3, _, _⟩ := DataW.trod_int Tryz.underlying3 f3
   obtain ⟨u, hu, h4⟩ := hc 4 x4 rfl
   obtain rfl : 42 = u := Option.some.inj hu
   obtain rfl : x0 = .string s := by simpa using e0
   obtain rfl : x1 = .string t := by simpa using e1
   obtain rfl : x2 = .int .i64 n := by simpa using e2
   obtain rfl : x3 = .int .i64 q := by simpa using e3
   exact ⟨s, t, n, q, x4, rfl, Nat.le_trans hs (by decide), Nat.le_trans ht (by decide), by simpa [Lit.wf, IntKind.min, IntKind.max, IntKind.signed, IntKind.bits] using hn, cell_slB h4 f4⟩
set_option maxRecDepth 100000 in
theorem open57 {v : Value} {d : DataW H} {p : List MemPlace} (hv : Value.okWide Tryz.prog w .any base 57 v) (h : DataW.Trod enc Tryz.prog w 0 (fun _ => true) true 57 v d p) :
  ∃ a b s t, v = .agg ⟨[a, b, .string s, .string t]⟩ ∧ s.size ≤ 9223372036854775807 ∧ t.size ≤ 9223372036854775807 ∧ SlB w a ∧ SlB w b := by
 obtain ⟨fuel, h⟩ := h
 simp only [Value.okWide, Tryz.underlying57] at hv
 obtain ⟨cs, rfl, hsz, ts, hts, _, hc⟩ := hv
 obtain ⟨l⟩ := cs
 rw [ct57] at hts
 obtain rfl := Option.some.inj hts
 simp only [cel57, List.size_toArray] at hsz
 match l, hsz with
 | [x0, x1, x2, x3], _ =>
  obtain ⟨xs, n, _, _, _, hlen, hf⟩ := DataW.trod_struct Tryz.underlying57 h
  match xs, hlen with
  | [y0, y1, y2, y3], _ =>
   have f0 : DataW.trod enc Tryz.prog w 0 (fun _ => true) true n 42 (([x0, x1, x2, x3].drop 0).take (Tryz.prog.cellsOf 42)) = some y0 := hf 0 _ rfl
   rw [cel42] at f0
   have f1 : DataW.trod enc Tryz.prog w 0 (fun _ => true) true n 42 (([x0, x1, x2, x3].drop 1).take (Tryz.prog.cellsOf 42)) = some y1 := hf 1 _ rfl
   rw [cel42] at f1
   have f2 : DataW.trod enc Tryz.prog w 0 (fun _ => true) true n 9 (([x0, x1, x2, x3].drop 2).take (Tryz.prog.cellsOf 9)) = some y2 := hf 2 _ rfl
   rw [cel9] at f2
   have f3 : DataW.trod enc Tryz.prog w 0 (fun _ => true) true n 9 (([x0, x1, x2, x3].drop 3).take (Tryz.prog.cellsOf 9)) = some y3 := hf 3 _ rfl
   rw [cel9] at f3
   obtain ⟨s, e2, _, hs⟩ := DataW.trod_string Tryz.underlying9 f2
   obtain ⟨t, e3, _, ht⟩ := DataW.trod_string Tryz.underlying9 f3
   obtain ⟨u, hu, h0⟩ := hc 0 x0 rfl
   obtain rfl : 42 = u := Option.some.inj hu
   obtain ⟨u, hu, h1⟩ := hc 1 x1 rfl
   obtain rfl : 42 = u := Option.some.inj hu
   obtain rfl : x2 = .string s := by simpa using e2
   obtain rfl : x3 = .string t := by simpa using e3
   exact ⟨x0, x1, s, t, rfl, Nat.le_trans hs (by decide), Nat.le_trans ht (by decide), cell_slB h0 f0, cell_slB h1 f1⟩
end
theorem one_lk {w : World} {b off n : Nat} {c : List Value} (hb : b < w.heap.size) (hv : (vwOK c n && Nat.ble n 9223372036854775807) = true) (hc : ∀ i x, c[i]? = some x → w.cell? ⟨b, off + i, none⟩ = some x) :
  ∀ k bl, vw c 5 k = some bl → k < 2 ∧ bl.own = false ∧ plainL bl.c = true ∧ (((fun _ => (b, off)) : Nm) k).1 < w.heap.size ∧ ∀ i v, bl.c[i]? = some v → w.cell? ⟨(((fun _ => (b, off)) : Nm) k).1, (((fun _ => (b, off)) : Nm) k).2 + i, none⟩ = some v := by
 intro k bl hk
 obtain ⟨rfl, rfl⟩ := vw_get hk
 rw [Bool.and_eq_true_iff] at hv
 exact ⟨by decide, rfl, isBytes_plain (vwOK_iff.1 hv.1).bytes, hb, hc⟩
end Go.Px
end
noncomputable section
namespace Go.Px
open Go Go.Ab Go.Proofs
section
variable {w : World} {b off n : Nat} {c : List Value} (hb : b < w.heap.size) (hv : (vwOK c n && Nat.ble n 9223372036854775807) = true) (hc : ∀ i x, c[i]? = some x → w.cell? ⟨b, off + i, none⟩ = some x)
include hb hv hc
end
end Go.Px
end
section

end
