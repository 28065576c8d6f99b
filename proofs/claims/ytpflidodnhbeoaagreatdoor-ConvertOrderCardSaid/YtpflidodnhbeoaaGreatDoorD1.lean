/-
  The run and the laws that serve these rows (part 1)
-/
import Derived.Test.YtpflidodnhbeoaaGreatDoorDAb1
import Derived.Test.YtpflidodnhbeoaaGreatDoorDAb2
import Derived.Test.YtpflidodnhbeoaaGreatDoorDAb3
import Derived.Test.YtpflidodnhbeoaaGreatDoorDAb4
import Derived.Test.YtpflidodnhbeoaaGreatDoorDAb5
import Derived.Test.YtpflidodnhbeoaaGreatDoorDAb6
import Derived.Test.YtpflidodnhbeoaaGreatDoorDAb7
import Derived.Test.YtpflidodnhbeoaaGreatDoorDAbE
import Derived.Test.YtpflidodnhbeoaaGreatDoorDAb8
import Derived.Test.YtpflidodnhbeoaaGreatDoorDAb9
import Derived.Test.YtpflidodnhbeoaaGreatDoorDAb10
import Derived.Test.YtpflidodnhbeoaaGreatDoorDAb11
import Derived.Test.YtpflidodnhbeoaaGreatDoorDAb12
import Derived.Test.YtpflidodnhbeoaaGreatDoorDAb13
import Derived.Test.YtpflidodnhbeoaaGreatDoorDAb14
import Derived.Test.YtpflidodnhbeoaaGreatDoorDAb15
import Derived.Test.YtpflidodnhbeoaaGreatDoorDAb16
import Derived.Test.YtpflidodnhbeoaaGreatDoorDAb17
import Derived.Test.YtpflidodnhbeoaaGreatDoorDAb18
import Derived.Test.YtpflidodnhbeoaaGreatDoorDAb19
import Derived.WalkKit
import Derived.ProofKit
import Derived.Test.YtpflidodnhbeoaaGreatDoorLays
import Derived.Shelf.Strconv.Itoa3
import Derived.Shelf.Strconv.AppendUint10
import Derived.Laws.BitsLemmas
import Derived.Lib.Strings
import Derived.Test.YtpflidodnhbeoaaGreatDoorProg
import Derived.LaidEql
import Derived.Stop.Asserts
import Derived.RowKitTokens
import Derived.Shelf.Small.Strs
import Derived.Shelf.Strings.LastIndex
import Derived.JoinedOf
import Derived.SevenTiedAt
import Derived.Test.YtpflidodnhbeoaaGreatDoorRows
import Derived.Lay
import Derived.LaidHandle
import Derived.LaidSub
import Derived.Lib.LaidTab
import Derived.Lib.LaidU8
import Derived.LaidMore
set_option linter.unusedVariables false
set_option linter.unusedSimpArgs false
section
namespace Go.Px
open Go Go.Ab
def bz (s : ByteArray) : List Int := s.data.toList.map fun b => (b.toNat : Int)
def sz (l : List Int) : ByteArray := ⟨(l.map fun n => UInt8.ofNat n.toNat).toArray⟩
def IsB (l : List Int) : Prop := ∀ c ∈ l, 0 ≤ c ∧ c < 256
@[simp] theorem bz_length (s : ByteArray) : (bz s).length = s.size := by
 unfold bz
 rw [List.length_map, Array.length_toList]
 rfl
theorem byteAt_eq (s : ByteArray) (i : Nat) : byteAt s i = (bz s).getD i 0 := by
 simp only [byteAt, bz, List.getD_eq_getElem?_getD, List.getElem?_map]
theorem bz_isB (s : ByteArray) : IsB (bz s) := by
 intro c hc
 simp only [bz, List.mem_map] at hc
 obtain ⟨b, _, rfl⟩ := hc
 have := b.toNat_lt
 omega
theorem sz_bz (s : ByteArray) : sz (bz s) = s := by
 simp only [sz, bz, List.map_map]
 have : ((fun n : Int => UInt8.ofNat n.toNat) ∘ fun b : UInt8 => (b.toNat : Int)) = id := by
  funext b
  simp
 rw [this]
 simp
theorem bz_sz {l : List Int} (h : IsB l) : bz (sz l) = l := by
 simp only [sz, bz, List.map_map]
 have : ∀ n ∈ l, ((fun b : UInt8 => (b.toNat : Int)) ∘ fun n : Int => UInt8.ofNat n.toNat) n = n := by
  intro n hn
  have := h n hn
  simp only [Function.comp, UInt8.toNat_ofNat']
  omega
 rw [List.map_congr_left this]
 simp
theorem bz_inj {a b : ByteArray} (h : bz a = bz b) : a = b := by rw [← sz_bz a, ← sz_bz b, h]
theorem bz_append (a b : ByteArray) : bz (a ++ b) = bz a ++ bz b := by
 simp [bz, ByteArray.data_append]
theorem bz_extract (s : ByteArray) (i j : Nat) : bz (s.extract i j) = ((bz s).take j).drop i := by
 simp [bz, ByteArray.data_extract, List.map_drop, List.map_take, Array.toList_extract, List.extract_eq_take_drop, List.drop_take]
theorem sz_append (a b : List Int) : sz (a ++ b) = sz a ++ sz b := by
 apply ByteArray.ext
 simp [sz, ByteArray.data_append]
theorem sz_size (l : List Int) : (sz l).size = l.length := by simp [sz, ByteArray.size]
theorem toList_beq (a b : ByteArray) : (a.toList == b.toList) = decide (bz a = bz b) := by
 rw [ByteArray.toList_eq, ByteArray.toList_eq, Bool.eq_iff_iff, beq_iff_eq, decide_eq_true_eq]
 constructor
 ·intro h; simp [bz, h]
 ·intro h
  have := bz_inj h
  rw [this]
theorem IsB.append {a b : List Int} (ha : IsB a) (hb : IsB b) : IsB (a ++ b) := fun c hc => by
 rcases List.mem_append.1 hc with h | h
 ·exact ha c h
 ·exact hb c h
theorem IsB.take {a : List Int} (ha : IsB a) (n : Nat) : IsB (a.take n) := fun c hc => ha c (List.mem_of_mem_take hc)
theorem IsB.drop {a : List Int} (ha : IsB a) (n : Nat) : IsB (a.drop n) := fun c hc => ha c (List.mem_of_mem_drop hc)
theorem IsB.nil : IsB [] := fun c hc => by cases hc
theorem IsB.cons {c : Int} {a : List Int} (h : 0 ≤ c ∧ c < 256) (ha : IsB a) : IsB (c :: a) := fun d hd => by
 rcases List.mem_cons.1 hd with rfl | hd
 ·exact h
 ·exact ha d hd
def cz (l : List Int) : List Value := l.map fun n => .int .u8 n
@[simp] theorem cz_length (l : List Int) : (cz l).length = l.length := by simp [cz]
theorem cz_append (a b : List Int) : cz (a ++ b) = cz a ++ cz b := by simp [cz]
theorem cz_cell : ∀ l : List Int, (cz l).all cellOk = true
 | [] => rfl
 | c :: r => by
  have := cz_cell r
  simp only [cz] at this
  simp [cz, cellOk, this]
theorem cz_plain : ∀ l : List Int, plainL (cz l) = true
 | [] => rfl
 | c :: r => by simpa [cz, plainL, plain] using cz_plain r
theorem cz_isBytes : ∀ l : List Int, isBytes (cz l) = true
 | [] => rfl
 | c :: r => by simpa [cz, isBytes] using cz_isBytes r
theorem cz_bytesL : ∀ l : List Int, bytesL (cz l) = l.map fun n => UInt8.ofNat n.toNat
 | [] => rfl
 | c :: r => by
  have := cz_bytesL r
  simp only [cz] at this
  simp only [cz, List.map_cons, bytesL, this]
theorem bytesOf_cz (l : List Int) (tail : List Value) : bytesOf (cz l ++ tail) 0 l.length = sz l := by
 simp only [bytesOf, List.drop_zero]
 rw [List.take_append_of_le_length (by simp), List.take_of_length_le (by simp), cz_bytesL]
 rfl
theorem bytesOK_cz (l : List Int) (tail : List Value) : bytesOK (cz l ++ tail) 0 l.length = true := by
 simp only [bytesOK, List.drop_zero, Bool.and_eq_true, Nat.ble_eq, List.length_append, cz_length]
 rw [List.take_append_of_le_length (by simp), List.take_of_length_le (by simp)]
 exact ⟨cz_isBytes l, by omega⟩
theorem getD_drop (l : List Int) (i : Nat) (h : i < l.length) : l.drop i = l.getD i 0 :: l.drop (i + 1) := by
 rw [List.drop_eq_getElem_cons h]
 simp [List.getD_eq_getElem?_getD, h]
end Go.Px
end
section
namespace Go.Px
open Go Go.Ab Go.Proofs Go.Shelf
def punchedZ : List Int := [123, 65, 66, 67, 68, 69, 70, 71, 72, 73, 125, 74, 75, 76, 77, 78, 79, 80, 81, 82]
def pow10Z : List Int := [1, 10, 100, 1000, 10000, 100000, 1000000, 10000000, 100000000, 1000000000, 10000000000, 100000000000, 1000000000000, 10000000000000, 100000000000000, 1000000000000000, 10000000000000000, 100000000000000000, 1000000000000000000, 10000000000000000000]
def rowsT : Nat → Option (List Value)
 | 5 => some (punchedZ.map fun n => .int .u8 n)
 | 1 => some (pow10Z.map fun n => .int .u64 n)
 | 0 => some [.iface 229 (.agg ⟨[.pointer (some ⟨10, 105, none⟩)]⟩)]
 | _ => none
instance tabs : Tabs where
 row := rowsT
 plain := fun b r h => by
  match b, h with
  | 5, h => cases h; rfl
  | 1, h => cases h; rfl
  | 0, h => cases h; rfl
theorem hmix : Tryz.prog.follows .mixedOrders = true := by kernel_rfl
structure U8 where n : Int
structure R32 where n : Int
structure U64 where n : Int
instance : Enc U8 where
 enc a := .int .u8 a.n
 dec | .int .u8 n => some ⟨n⟩ | _ => none
 dec_some := by
  intro v a h
  split at h
  ·cases h; rfl
  ·cases h
 plain_enc _ := rfl
instance : Enc R32 where
 enc a := .int .i32 a.n
 dec | .int .i32 n => some ⟨n⟩ | _ => none
 dec_some := by
  intro v a h
  split at h
  ·cases h; rfl
  ·cases h
 plain_enc _ := rfl
instance : Enc U64 where
 enc a := .int .u64 a.n
 dec | .int .u64 n => some ⟨n⟩ | _ => none
 dec_some := by
  intro v a h
  split at h
  ·cases h; rfl
  ·cases h
 plain_enc _ := rfl
theorem pure_shelf {P : Program} {f : FuncId} {s : Ab.Spec} (hc : Callable P f)
  (h : ∀ args bs v, s args bs = some (true, v) → plainL args = true ∧ ∀ w, TabsIn w.heap.size w → Calls P f args.toArray w fun e w' => e = .returned v ∧ RowKit.Below w.heap.size w w') : PureOK P f s := by
 refine ⟨hc, fun args v N w0 lk ι w hrel hs hp => ?_⟩
 obtain ⟨h1, h2⟩ := h _ _ _ hs
 have hren : args.map (ren ι) = args := by rw [← renL_eq, renL_plain _ h1]
 rw [hren]
 exact h2 w hrel.tabs
theorem below_of_eq {w w' : World} (h : w' = w) : RowKit.Below w.heap.size w w' := h ▸ RowKit.Below.refl _ _
section
variable {α β : Type} [Enc α] [Enc β] {P : Program} {f : FuncId}
theorem shelf1 (hc : Callable P f) {g : α → Bool × Value} (h : ∀ a, (g a).1 = true → ∀ w, TabsIn w.heap.size w → Calls P f #[Enc.enc a] w fun e w' => e = .returned (g a).2 ∧ RowKit.Below w.heap.size w w') : PureOK P f (sp1 g) := by
 refine pure_shelf hc fun args bs v hs => ?_
 simp only [sp1] at hs
 split at hs
 ·split at hs
  ·rename_i ha
   simp only [Option.some.injEq] at hs
   obtain rfl := Enc.dec_some ha
   exact ⟨by simp [plainL, Enc.plain_enc], by have q := h _ (by rw [hs]); rw [hs] at q; exact q⟩
  ·cases hs
 ·cases hs
theorem shelf2 (hc : Callable P f) {g : α → β → Bool × Value} (h : ∀ a b, (g a b).1 = true → ∀ w, TabsIn w.heap.size w → Calls P f #[Enc.enc a, Enc.enc b] w fun e w' => e = .returned (g a b).2 ∧ RowKit.Below w.heap.size w w') : PureOK P f (sp2 g) := by
 refine pure_shelf hc fun args bs v hs => ?_
 simp only [sp2] at hs
 split at hs
 ·split at hs
  ·rename_i ha hb
   simp only [Option.some.injEq] at hs
   obtain rfl := Enc.dec_some ha
   obtain rfl := Enc.dec_some hb
   exact ⟨by simp [plainL, Enc.plain_enc], by have q := h _ _ (by rw [hs]); rw [hs] at q; exact q⟩
  ·cases hs
 ·cases hs
end
def idxZ : List Int → Int → Int
 | [], _ => -1
 | b :: l, c => if b = c then 0 else if idxZ l c = -1 then -1 else idxZ l c + 1
def cntZ (l : List Int) (c : Int) : Nat := (l.filter (· == c)).length
def sufZ (l p : List Int) : Bool := decide (p.length ≤ l.length ∧ l.drop (l.length - p.length) = p)
def hasZ (l : List Int) (c : Int) : Bool := l.any (· == c)
def anyZ (l cs : List Int) : Bool := l.any (hasZ cs)
def trimZ (l cs : List Int) : List Int := ((l.reverse.dropWhile (hasZ cs)).reverse).dropWhile (hasZ cs)
def repZ (l : List Int) : Nat → List Int
 | 0 => []
 | n + 1 => l ++ repZ l n
def isDig (c : Int) : Bool := decide (48 ≤ c ∧ c ≤ 57)
abbrev zl (l : List UInt8) : List Int := l.map fun b => (b.toNat : Int)
theorem u8_eq {a b : UInt8} : ((a.toNat : Int) = b.toNat) ↔ a = b := by
 rw [Int.natCast_inj, UInt8.toNat_inj]
theorem idx_zl (c : UInt8) : ∀ l : List UInt8, Lib.indexByte l c = idxZ (zl l) c.toNat
 | [] => rfl
 | b :: l => by
  simp only [Lib.indexByte, zl, List.map_cons, idxZ, idx_zl c l, u8_eq, beq_iff_eq]
theorem has_zl (c : UInt8) : ∀ l : List UInt8, l.contains c = hasZ (zl l) c.toNat
 | [] => rfl
 | b :: l => by
  have := has_zl c l
  simp only [hasZ, zl] at this
  rw [List.contains_cons, this]
  simp only [hasZ, zl, List.map_cons, List.any_cons]
  congr 1
  rw [Bool.eq_iff_iff, beq_iff_eq, beq_iff_eq, u8_eq]
  exact eq_comm
theorem hasZ_iff {l : List Int} {c : Int} : hasZ l c = true ↔ c ∈ l := by simp [hasZ]
theorem idx_has (c : Int) : ∀ l : List Int, -1 ≤ idxZ l c ∧ (0 ≤ idxZ l c ↔ c ∈ l)
 | [] => by simp [idxZ]
 | b :: l => by
  obtain ⟨h1, h2⟩ := idx_has c l
  simp only [idxZ, List.mem_cons]
  by_cases hb : b = c
  ·simp [hb]
  ·rw [if_neg hb]
   have hb' : ¬ c = b := fun h => hb h.symm
   split
   ·rename_i h
    rw [h] at h2
    simp only [hb', false_or]
    exact ⟨by omega, by rw [← h2]⟩
   ·exact ⟨by omega, by simp only [hb', false_or]; rw [← h2]; omega⟩
theorem cnt_zl (c : UInt8) : ∀ l : List UInt8, Lib.countByte l c = cntZ (zl l) c.toNat
 | [] => rfl
 | b :: l => by
  have ih := cnt_zl c l
  simp only [Lib.countByte, cntZ, zl] at ih
  simp only [Lib.countByte, cntZ, zl, List.map_cons, List.count_cons, List.filter_cons, ih]
  by_cases hb : b = c
  ·simp [hb]
  ·have : ((b.toNat : Int) == (c.toNat : Int)) = false := by simpa [u8_eq] using hb
   simp [hb, this]
theorem zl_inj {a b : List UInt8} (h : zl a = zl b) : a = b := by
 have := bz_inj (a := ⟨a.toArray⟩) (b := ⟨b.toArray⟩) (by simpa [bz] using h)
 simpa using congrArg (fun s : ByteArray => s.data.toList) this
theorem suf_zl (s p : List UInt8) : Lib.hasSuffix s p = sufZ (zl s) (zl p) := by
 rw [Bool.eq_iff_iff]
 simp only [Lib.hasSuffix, sufZ, List.isSuffixOf_iff_suffix, decide_eq_true_eq, List.length_map]
 constructor
 ·rintro ⟨t, rfl⟩
  exact ⟨by simp, by simp⟩
 ·rintro ⟨h1, h2⟩
  rw [← List.map_drop] at h2
  have e := zl_inj h2
  exact ⟨s.take (s.length - p.length), (congrArg (s.take (s.length - p.length) ++ ·) e.symm).trans (List.take_append_drop ..)⟩
theorem dropW_zl {p : UInt8 → Bool} {q : Int → Bool} (h : ∀ b : UInt8, p b = q b.toNat) : ∀ l : List UInt8, zl (l.dropWhile p) = (zl l).dropWhile q
 | [] => rfl
 | b :: l => by
  simp only [List.dropWhile_cons, zl, List.map_cons, h b]
  split
  ·exact dropW_zl h l
  ·rfl
theorem trim_zl (l cs : List UInt8) : zl (Lib.trimS l cs) = trimZ (zl l) (zl cs) := by
 have h : ∀ b : UInt8, cs.contains b = hasZ (zl cs) b.toNat := fun b => has_zl b cs
 simp only [Lib.trimS, Lib.trimLeftS, Lib.trimRightS, trimZ]
 rw [dropW_zl (q := hasZ (zl cs)) h]
 congr 1
 rw [zl, List.map_reverse, ← List.map_reverse]
 have := dropW_zl (p := (cs.contains ·)) (q := hasZ (zl cs)) h l.reverse
 rw [List.map_reverse]
 simp only [zl, List.map_reverse] at this ⊢
 rw [this]
theorem rep_zl (l : List UInt8) : ∀ n, zl (Lib.repeatL l n) = repZ (zl l) n
 | 0 => rfl
 | n + 1 => by
  have := rep_zl l n
  simp only [zl] at this
  simp [Lib.repeatL, repZ, zl, this]
theorem sz_zl (l : List UInt8) : (⟨l.toArray⟩ : ByteArray) = sz (zl l) := by
 rw [← sz_bz ⟨l.toArray⟩]
 simp [bz]
theorem bz_zl (s : ByteArray) : zl s.data.toList = bz s := rfl
end Go.Px
end
section
namespace Go.Px
open Go Go.Ab Go.Proofs Go.Shelf
theorem cal {P : Program} {f : FuncId} {fn : Func} (h : P.funcs[f]? = some fn) (hn : (fn.name == "runtime.NumGoroutine") = false) (hb : fn.body.isSome = true) : Callable P f := ⟨fn, h, hn, by cases hf : fn.body with | none => rw [hf] at hb; cases hb | some c => rfl⟩
theorem c141 : Callable Tryz.prog 272 := cal Tryz.func272 (by kernel_rfl) (by kernel_rfl)
theorem c157 : Callable Tryz.prog 279 := cal Tryz.func279 (by kernel_rfl) (by kernel_rfl)
theorem c130 : Callable Tryz.prog 130 := cal Tryz.func130 (by kernel_rfl) (by kernel_rfl)
theorem c132 : Callable Tryz.prog 129 := cal Tryz.func129 (by kernel_rfl) (by kernel_rfl)
theorem c102 : Callable Tryz.prog 203 := cal Tryz.func203 (by kernel_rfl) (by kernel_rfl)
theorem c78 : Callable Tryz.prog 30 := cal Tryz.func30 (by kernel_rfl) (by kernel_rfl)
def s141 (s : ByteArray) (c : U8) : Bool × Value := (decide (0 ≤ c.n ∧ c.n < 256), .int .i64 (idxZ (bz s) c.n))
theorem ok141 : PureOK Tryz.prog 272 (sp2 s141) := shelf2 c141 fun s c hc w _ => by
 have hc : 0 ≤ c.n ∧ c.n < 256 := of_decide_eq_true hc
 refine (Any.strings_IndexByte Tryz.lays137 s c.n w).mono fun e w' ⟨h1, h2⟩ => ⟨?_, below_of_eq h2⟩
 rw [h1, idx_zl]
 simp only [s141]
 have : ((c.n.toNat.toUInt8.toNat : Nat) : Int) = c.n := by
  simp only [Nat.toUInt8, UInt8.toNat_ofNat']
  omega
 rw [this, bz_zl]
def oneB (s : ByteArray) : Bool := Nat.beq s.size 1
theorem oneB_spec {s : ByteArray} (h : oneB s = true) : ∃ c : UInt8, s = ⟨#[c]⟩ ∧ (c.toNat : Int) = (bz s).getD 0 0 := by
 have h := Nat.eq_of_beq_eq_true h
 have hl : s.data.toList.length = 1 := by simpa using h
 match hm : s.data.toList, hl with
 | [c], _ =>
  refine ⟨c, ?_, by simp [bz, hm]⟩
  apply ByteArray.ext
  apply Array.ext'
  simpa using hm
def s157 (s t : ByteArray) : Bool × Value := (oneB t, .int .i64 (cntZ (bz s) ((bz t).getD 0 0)))
theorem ok157 : PureOK Tryz.prog 279 (sp2 s157) := shelf2 c157 fun s t hc w _ => by
 obtain ⟨c, h1, h2⟩ := oneB_spec hc
 have e : Enc.enc t = Value.string ⟨#[c]⟩ := congrArg Value.string h1
 rw [e]
 refine (Any.strings_Count_one Tryz.lays138 s c w).mono fun e w' ⟨h3, h4⟩ => ⟨?_, below_of_eq h4⟩
 rw [h3, cnt_zl, h2]
 rfl
def s132 (s t : ByteArray) : Bool × Value := (oneB t, .bool (hasZ (bz s) ((bz t).getD 0 0)))
theorem ok132 : PureOK Tryz.prog 129 (sp2 s132) := shelf2 c132 fun s t hc w _ => by
 obtain ⟨c, h1, h2⟩ := oneB_spec hc
 have e : Enc.enc t = Value.string ⟨#[c]⟩ := congrArg Value.string h1
 rw [e]
 refine (Any.strings_Contains_one Tryz.lays144 s c w).mono fun e w' ⟨h3, h4⟩ => ⟨?_, below_of_eq h4⟩
 rw [h3]
 simp only [s132]
 rw [← h2]
 congr 2
 rw [Bool.eq_iff_iff, decide_eq_true_eq, idx_zl, (idx_has _ _).2, hasZ_iff, bz_zl]
def s130 (s t : ByteArray) : Bool × Value := (decide (s.size ≤ 9223372036854775807), .bool (sufZ (bz s) (bz t)))
theorem ok130 : PureOK Tryz.prog 130 (sp2 s130) := shelf2 c130 fun s t hc w _ => by
 refine (Any.strings_HasSuffix Tryz.lays100 s t w (of_decide_eq_true hc)).mono fun e w' ⟨h3, h4⟩ => ⟨?_, below_of_eq h4⟩
 rw [h3, suf_zl]
 rfl
def asc (l : List Int) : Bool := l.all fun c => decide (c < 128)
theorem asc_spec {s : ByteArray} (h : asc (bz s) = true) : ∀ (j : Nat) b, s.data.toList[j]? = some b → b.toNat < 128 := fun j b hb => by
 simp only [asc, bz, List.all_map, List.all_eq_true] at h
 have := h b (List.mem_of_getElem? hb)
 simp at this
 omega
theorem info128 : (Tryz.prog.info? (Tryz.lays150_ren.t 116)).map (fun i => (i.zero, i.size)) = some (some (.agg (Array.replicate 256 (.bool false))), 256) := by kernel_rfl
theorem info128' : (Tryz.prog.info? (Tryz.lays160_ren.t 116)).map (fun i => (i.zero, i.size)) = some (some (.agg (Array.replicate 256 (.bool false))), 256) := by kernel_rfl
theorem indexAny_zl (cs : List UInt8) : ∀ l : List UInt8, (0 ≤ Lib.indexAny l cs) ↔ anyZ (zl l) (zl cs) = true
 | [] => by simp [Lib.indexAny, anyZ]
 | b :: l => by
  have ih := indexAny_zl cs l
  have g := Lib.indexAny_ge cs l
  have hb : hasZ (zl cs) b.toNat = cs.contains b := (has_zl b cs).symm
  simp only [anyZ, zl, List.map_cons, List.any_cons] at ih hb ⊢
  rw [hb]
  unfold Lib.indexAny
  split
  ·simp_all
  ·rename_i hn
   have hn : cs.contains b = false := by simpa using hn
   rw [hn, Bool.false_or, ← ih]
   split
   ·rename_i h
    have h := eq_of_beq h
    constructor <;> intro <;> omega
   ·rename_i h
    have h : Lib.indexAny l cs ≠ -1 := by simpa using h
    constructor <;> intro <;> omega
def s102 (s t : ByteArray) : Bool × Value := (decide (s.size ≤ 1000) && (decide (t.size ≤ 1000) && (asc (bz s) && asc (bz t))), .bool (anyZ (bz s) (bz t)))
theorem ok102 : PureOK Tryz.prog 203 (sp2 s102) := shelf2 c102 fun s t hc w _ => by
 simp only [s102, Bool.and_eq_true, decide_eq_true_eq] at hc
 obtain ⟨h1, h2, h3, h4⟩ := hc
 refine (Any.strings_ContainsAny_laid Tryz.lays150 info128 s t w (by omega) (by omega) (asc_spec h3) (asc_spec h4)).mono fun e w' ⟨h5, h6⟩ => ⟨?_, h6⟩
 rw [h5]
 simp only [s102]
 congr 2
 rw [Bool.eq_iff_iff, Lib.containsAny, decide_eq_true_eq, indexAny_zl]
 rfl
theorem szO_ex : ∃ f : List Int → ByteArray, f = sz := ⟨_, rfl⟩
noncomputable def szO : List Int → ByteArray := Classical.choose szO_ex
theorem szO_eq (l : List Int) : szO l = sz l := by rw [szO, Classical.choose_spec szO_ex]
def s78 (s : ByteArray) (n : Int) : Bool × Value := (decide (0 ≤ n ∧ n ≤ 1000 ∧ s.size ≤ 1000), .string (sz (repZ (bz s) n.toNat)))
theorem ok78 : PureOK Tryz.prog 30 (sp2 s78) := shelf2 c78 fun s n hc w _ => by
 obtain ⟨h1, h2, h3⟩ := of_decide_eq_true hc
 have e : Enc.enc n = Value.int .i64 (n.toNat : Int) := by
  show Value.int .i64 n = _
  rw [Int.toNat_of_nonneg h1]
 rw [e]
 have hm : s.size * n.toNat ≤ 1000 * 1000 := Nat.mul_le_mul h3 (by omega)
 refine (Any.strings_Repeat Tryz.lays105 Tryz.Builder_Extra_105 s n.toNat w (by omega) (by omega)).mono fun e w' ⟨h4, h5⟩ => ⟨?_, h5⟩
 rw [h4, sz_zl, rep_zl]
 rfl
end Go.Px
end
noncomputable section
namespace Go.Px
open Go Go.Ab Go.Proofs Go.Shelf Go.RowKit Go.Sort Go.Lib
theorem laysM284 : LaysM.n284 Tryz.prog Tryz.lays172_ren := { Tryz.lays172 with
 i0 := by kernel_rfl
 i3 := by kernel_rfl
 i4 := by kernel_rfl
 i5 := by kernel_rfl
 i9 := by kernel_rfl
 i46 := by kernel_rfl
 i53 := by kernel_rfl
 i212 := by kernel_rfl
 m17 := by kernel_rfl }
theorem tab_pow {w : World} (h : TabsIn w.heap.size w) : Lib.TabIs Tryz.prog w "internal/strconv.uint64pow10" .u64 Lib.pow10Tab := by
 obtain ⟨_, ty, fr, h2⟩ := h 1 _ rfl
 unfold Lib.TabIs World.var?
 have e : Tryz.prog.globalNamed "internal/strconv.uint64pow10" = some 1 := by kernel_rfl
 rw [e]
 simp only [Option.bind_some, h2]
 rfl
theorem fmt_small (u : Nat) (hu : u < 100) (w : World) : Calls Tryz.prog 155 #[.int .u64 u, .int .i64 10] w fun e w' => e = .returned (.string ⟨(Lib.decDigits u).toArray⟩) ∧ w' = w := by
 have mixed := Tryz.lays172.mixed
 have e142 : ∀ args w, (callFunc 216 args).run Tryz.prog w = .ok (.enter 216 args) w := enters_of Tryz.func216 (by kernel_rfl) rfl
 have hw : IntKind.i64.wrap (u : Int) = (u : Int) := by rw [IntKind.wrap_i64]; omega
 go_enter Tryz.func155, Tryz.ntmps155
 go_wp2_with (go_at_fn 216; refine (Any.internal_strconv_small (ρ := Tryz.lays172_ren) { Tryz.lays172 with } u hu _).mono ?_; rintro e w' ⟨rfl, rfl⟩)
 go_ret
 exact ⟨rfl, rfl⟩
set_option maxHeartbeats 6400000 in
set_option maxRecDepth 100000 in
theorem fmt_big (u : Nat) (hu : 100 ≤ u) (hu64 : u < 18446744073709551616) (w : World) (htab : Lib.TabIs Tryz.prog w "internal/strconv.uint64pow10" .u64 Lib.pow10Tab) :
  Calls Tryz.prog 155 #[.int .u64 u, .int .i64 10] w fun e w' => e = .returned (.string ⟨(Lib.decDigits u).toArray⟩) ∧ ∃ k os, w' = grow (w.drewN k) os := by
 have mixed := Tryz.lays172.mixed
 have e143 : ∀ args w, (callFunc 217 args).run Tryz.prog w = .ok (.enter 217 args) w := enters_of Tryz.func217 (by kernel_rfl) rfl
 have e144 : ∀ args w, (callFunc 218 args).run Tryz.prog w = .ok (.enter 218 args) w := enters_of Tryz.func218 (by kernel_rfl) rfl
 have hu1 : 1 ≤ u := by omega
 have hnd20 : Lib.nDigits u ≤ 20 := by have := Lib.numDigits_eq u hu1 hu64; split at this <;> omega
 have iu : (100 : Int) ≤ (u : Int) := by omega
 have t148 := Tryz.underlying216
 have hal : Tryz.prog.arrayLen 216 = 24 := by simp [Program.arrayLen, Tryz.underlying216]
 have hsl : ∀ W, (Instr.sliceAt 216 (.pointer (some ⟨w.heap.size, 0, none⟩)) none (some (.int .i64 (Lib.nDigits u : Int))) none).run Tryz.prog W = .ok (.slice (some ⟨w.heap.size, 0, none⟩) (Lib.nDigits u) 24) W := fun W => by
  rw [run_sliceAt_array_h W 216 ⟨w.heap.size, 0, none⟩ (by simp [Program.arrayLen, Program.elem, Tryz.underlying216]) .i64 (Lib.nDigits u : Int) (by omega) (by rw [hal]; omega)]
  go_simp
 have hH0 := Lib.holds_zero0 w 216 (Lib.nDigits u) (by omega)
 have hfmt := Any.internal_strconv_formatBase10 (ρ := Tryz.lays172_ren) { Tryz.lays172 with } w.heap.size 0 24 u (Array.replicate (Lib.nDigits u) 0) (w.alloc (.cells Lib.zeros24 216)) hH0 (by rw [Array.size_replicate]; exact Lib.lt_pow_nDigits u) hu64 (by rw [Array.size_replicate]; omega)
 rw [Array.size_replicate] at hfmt
 have HH0 := Lib.hid hH0
 clear hH0 hal
 go_enter Tryz.func155, Tryz.ntmps155
 go_wp2_with (first
  | (go_at_fn 217; refine (Any.internal_strconv_numDigits (ρ := Tryz.lays172_ren) laysM284 u hu1 hu64 _ (Lib.tabIs_alloc htab _)).mono ?_; rintro e w' ⟨rfl, rfl⟩))
 go_at_fn 218
 refine hfmt.mono ?_
 rintro e w' ⟨rfl, k, v', dk, rfl, hF⟩
 have hcv : (convert 96 9 (.slice (some ⟨w.heap.size, 0, none⟩) (Lib.nDigits u) 24)).run Tryz.prog ((putRow (fun (b : UInt8) => Value.int .u8 (b.toNat : Int)) (w.alloc (.cells Lib.zeros24 216)) w.heap.size 0 dk).drewN k) = .ok (.string ⟨(Lib.decDigits u).toArray⟩) ((putRow (fun (b : UInt8) => Value.int .u8 (b.toNat : Int)) (w.alloc (.cells Lib.zeros24 216)) w.heap.size 0 dk).drewN k) := by
  have h := run_convert_bytes_back (P := Tryz.prog) ((putRow (fun (b : UInt8) => Value.int .u8 (b.toNat : Int)) (w.alloc (.cells Lib.zeros24 216)) w.heap.size 0 dk).drewN k) 96 9 5 ⟨w.heap.size, 0, none⟩ 24 (Lib.decDigits u) Tryz.underlying96 Tryz.underlying5 Tryz.underlying9 (fun j hj => by
   rw [Lib.row_is_numeral hF j hj, Lib.add_plain, World.cell?_drewN]
   exact cell?_putRow (fun (b : UInt8) => Value.int .u8 (b.toNat : Int)) _ w.heap.size 0 _ dk HH0.out (by rw [hF.size, Array.size_replicate]) j (by rw [hF.size]; rw [Lib.decDigits_length] at hj; exact hj))
  rw [Lib.decDigits_length] at h
  exact h
 go_wp2
 go_ret
 obtain ⟨os, eo⟩ := Lib.fin_at w (.cells Lib.zeros24 216) dk k 0
 exact ⟨rfl, k, os, eo⟩
def decZ (n : Int) : List Int := zl (Lib.decDigits n.toNat)
theorem c87 : Callable Tryz.prog 81 := cal Tryz.func81 (by kernel_rfl) (by kernel_rfl)
theorem fmt_all (u : Nat) (hu64 : u < 18446744073709551616) (w : World) (ht : TabsIn w.heap.size w) :
  Calls Tryz.prog 155 #[.int .u64 u, .int .i64 10] w fun e w' => e = .returned (.string ⟨(Lib.decDigits u).toArray⟩) ∧ RowKit.Below w.heap.size w w' := by
 by_cases hu : u < 100
 ·exact (fmt_small u hu w).mono fun e w' ⟨h1, h2⟩ => ⟨h1, below_of_eq h2⟩
 ·exact (fmt_big u (by omega) hu64 w (tab_pow ht)).mono fun e w' ⟨h1, k, os, h2⟩ => ⟨h1, by rw [h2]; exact Lib.below_grow _ _ (Nat.le_refl _) _ _⟩
theorem fmt87 (u : Nat) (hu64 : u < 18446744073709551616) (w : World) (ht : TabsIn w.heap.size w) :
  Calls Tryz.prog 81 #[.int .u64 u, .int .i64 10] w fun e w' => e = .returned (.string ⟨(Lib.decDigits u).toArray⟩) ∧ RowKit.Below w.heap.size w w' := by
 have mixed := Tryz.lays172.mixed
 have e115 : ∀ args w, (callFunc 155 args).run Tryz.prog w = .ok (.enter 155 args) w := enters_of Tryz.func155 (by kernel_rfl) rfl
 go_enter Tryz.func81, Tryz.ntmps81
 go_wp2_with (go_at_fn 155; refine (fmt_all u hu64 _ ht).mono ?_; rintro e w' ⟨rfl, hb⟩)
 go_ret
 exact ⟨rfl, hb⟩
def isTen (b : Int) : Bool := b == 10
def s87 (n : U64) (b : Int) : Bool × Value := (decide (0 ≤ n.n ∧ n.n < 18446744073709551616) && isTen b, .string (sz (decZ n.n)))
theorem ok87 : PureOK Tryz.prog 81 (sp2 s87) := shelf2 c87 fun n b hc w ht => by
 simp only [s87, isTen, Bool.and_eq_true, decide_eq_true_eq, beq_iff_eq] at hc
 obtain ⟨⟨h0, h1⟩, rfl⟩ := hc
 have e : Enc.enc n = Value.int .u64 (n.n.toNat : Int) := by
  show Value.int .u64 n.n = _
  rw [Int.toNat_of_nonneg h0]
 rw [e]
 refine (fmt87 n.n.toNat (by omega) w ht).mono fun e w' ⟨h4, h5⟩ => ⟨?_, h5⟩
 rw [h4, sz_zl]
 rfl
end Go.Px
end
section
namespace Go.Px
open Go Go.Ab Go.Proofs
abbrev I (n : Int) : Value := .int .i64 n
abbrev B (b : Bool) : Value := .bool b
abbrev C8 (n : Int) : Value := .int .u8 n
abbrev C64 (n : Int) : Value := .int .u64 n
abbrev S (s : ByteArray) : Value := .string s
def e0 : ByteArray := ⟨#[]⟩
theorem c_t {b : Bool} {P Q : Prop} (h : b = true) (hp : P) : bif b then P else Q := by rw [h]; exact hp
theorem c_f {b : Bool} {P Q : Prop} (h : b = false) (hq : Q) : bif b then P else Q := by rw [h]; exact hq
theorem w64 {n : Int} (h : -9223372036854775808 ≤ n ∧ n ≤ 9223372036854775807) : IntKind.wrap .i64 n = n := by rw [IntKind.wrap_i64]; omega
theorem w3 {a b c d : Int} (ha : 0 ≤ a ∧ a ≤ 1000) (hb : 0 ≤ b ∧ b ≤ 1000) (hc : 0 ≤ c ∧ c ≤ 1000) (hd : 0 ≤ d ∧ d ≤ 1000) :
  IntKind.wrap .i64 (IntKind.wrap .i64 (IntKind.wrap .i64 (a + b) + c) + d) = a + b + c + d := by
 rw [w64 (n := a + b) (by omega), w64 (n := a + b + c) (by omega), w64 (by omega)]
theorem w8e (n : Int) : IntKind.wrap .u8 n = n % 256 := by
 simp [IntKind.wrap, IntKind.bits, IntKind.signed]
theorem w8 {n : Int} (h : 0 ≤ n ∧ n < 256) : IntKind.wrap .u8 n = n := by rw [w8e]; omega
theorem wu64e (n : Int) : IntKind.wrap .u64 n = n % 18446744073709551616 := by
 simp [IntKind.wrap, IntKind.bits, IntKind.signed]
theorem wu64 {n : Int} (h : 0 ≤ n ∧ n < 18446744073709551616) : IntKind.wrap .u64 n = n := by rw [wu64e]; omega
theorem byte_rng (s : ByteArray) (i : Nat) : 0 ≤ byteAt s i ∧ byteAt s i < 256 := by
 rw [byteAt_eq, List.getD_eq_getElem?_getD]
 cases h : (bz s)[i]? with
 | none => simp
 | some c => exact bz_isB s c (List.mem_of_getElem? h)
theorem bz_at {s : ByteArray} {i : Int} (h0 : 0 ≤ i) (h : i < s.size) : (bz s).drop i.toNat = byteAt s i.toNat :: (bz s).drop (i + 1).toNat := by
 have := getD_drop (bz s) i.toNat (by rw [bz_length]; omega)
 rw [this, byteAt_eq]
 congr 2
 omega
theorem bz_end {s : ByteArray} {i : Int} (h : s.size ≤ i) : (bz s).drop i.toNat = [] := List.drop_eq_nil_of_le (by rw [bz_length]; omega)
def upZ (c : Int) : Int := if 97 ≤ c ∧ c ≤ 122 then c - 32 else c
def twoL (i : Nat) (h : LoopH) (j : Nat) (h' : LoopH) : Nat → Option LoopH := fun k => match Nat.beq k i with | true => some h | false => match Nat.beq k j with | true => some h' | false => none
theorem lokf_two {P : Program} {fn : Func} {i j : Nat} {h h' : LoopH} (hij : Nat.beq j i = false) (hb : (match fn.body with | some c => blks (twoL i h j h') c | none => []) = [(i, .loop (loopOf fn i)), (j, .loop (loopOf fn j))])
  (hs : ∀ t m n K, h t m n K → Ab.Sem P fn.ntmps (.loop (loopOf fn i)) t m n K) (hs' : ∀ t m n K, h' t m n K → Ab.Sem P fn.ntmps (.loop (loopOf fn j)) t m n K) : LOKf P (twoL i h j h') fn := by
 unfold LOKf
 split
 ·rename_i c hc
  simp only [hc] at hb
  refine lok_of c fun p hp k hk => ?_
  rw [hb] at hp
  simp only [List.mem_cons, List.not_mem_nil, or_false] at hp
  have e : Nat.beq i i = true := by simp
  have e' : Nat.beq j j = true := by simp
  rcases hp with rfl | rfl
  ·simp only [twoL, e, Option.some.injEq] at hk
   subst hk
   exact hs
  ·simp only [twoL, hij, e', Option.some.injEq] at hk
   subst hk
   exact hs'
 ·trivial
theorem lok_one {P : Program} {nt : Nat} {c b : Code} {id : Nat} {h : LoopH} (hb : blks (oneL id h) c = [(id, b)]) (hs : ∀ t m n K, h t m n K → Ab.Sem P nt b t m n K) : LOK P (oneL id h) nt c := by
 refine lok_of c fun p hp h' hh => ?_
 rw [hb] at hp
 simp only [List.mem_singleton] at hp
 subst hp
 have : h' = h := by
  simp only [oneL] at hh
  have e : Nat.beq id id = true := by simp
  rw [e] at hh
  simpa using hh.symm
 subst this
 exact hs
theorem bz_take_at {s : ByteArray} {i l : Int} (h0 : 0 ≤ i) (h : i < l) (hl : l ≤ s.size) : ((bz s).take l.toNat).drop i.toNat = byteAt s i.toNat :: ((bz s).take l.toNat).drop (i + 1).toNat := by
 have hlen : ((bz s).take l.toNat).length = l.toNat := by rw [List.length_take, bz_length]; omega
 have := getD_drop ((bz s).take l.toNat) i.toNat (by omega)
 rw [this, byteAt_eq]
 have e : ((bz s).take l.toNat).getD i.toNat 0 = (bz s).getD i.toNat 0 := by
  simp only [List.getD_eq_getElem?_getD]
  rw [List.getElem?_take, if_pos (by omega)]
 rw [e]
 congr 2
 omega
theorem cnt_le (l : List Int) (c : Int) : cntZ l c ≤ l.length := List.length_filter_le ..
def iv : Value → Int
 | .int _ n => n
 | _ => 0
def zc (c : List Value) (n : Nat) : List Int := (c.take n).map iv
def rowOK (c : List Value) (n cap : Nat) : Bool := isBytes (c.take n) && (plainL c && (Nat.beq c.length cap && (Nat.ble n cap && Nat.ble cap 9223372036854775807)))
theorem cz_of : ∀ {l : List Value}, isBytes l = true → cz (l.map iv) = l
 | [], _ => rfl
 | .int .u8 n :: r, h => by
  have := cz_of (l := r) (by simpa [isBytes] using h)
  simp only [cz] at this
  simp only [List.map_cons, cz, iv, this]
structure RowP (c : List Value) (n cap : Nat) : Prop where
 bytes : isBytes (c.take n) = true
 plain : plainL c = true
 len : c.length = cap
 le : n ≤ cap
 cap : cap ≤ 9223372036854775807
theorem rowOK_iff {c : List Value} {n cap : Nat} : rowOK c n cap = true ↔ RowP c n cap := by
 simp only [rowOK, Bool.and_eq_true, Nat.ble_eq, Nat.beq_eq]
 exact ⟨fun ⟨h1, h2, h3, h4, h5⟩ => ⟨h1, h2, h3, h4, h5⟩, fun ⟨h1, h2, h3, h4, h5⟩ => ⟨h1, h2, h3, h4, h5⟩⟩
theorem zc_length {c : List Value} {n cap : Nat} (h : RowP c n cap) : (zc c n).length = n := by
 have h1 := h.len
 have h2 := h.le
 simp only [zc, List.length_map, List.length_take]
 omega
theorem RowP.eq {c : List Value} {n cap : Nat} (h : RowP c n cap) : c = cz (zc c n) ++ c.drop n := by
 rw [zc, cz_of h.bytes, List.take_append_drop]
theorem RowP.take {c : List Value} {n cap : Nat} (h : RowP c n cap) : c.take n = cz (zc c n) := (cz_of h.bytes).symm
theorem RowP.str {c : List Value} {n cap : Nat} (h : RowP c n cap) : bytesOK c 0 n = true ∧ bytesOf c 0 n = sz (zc c n) := by
 have hz := zc_length h
 have e := h.eq
 have h1 := bytesOK_cz (zc c n) (c.drop n)
 have h2 := bytesOf_cz (zc c n) (c.drop n)
 rw [← e, hz] at h1 h2
 exact ⟨h1, h2⟩
theorem plainL_append {a b : List Value} : plainL (a ++ b) = true ↔ plainL a = true ∧ plainL b = true := by
 simp only [plainL_iff, List.mem_append]
 exact ⟨fun h => ⟨fun v hv => h v (.inl hv), fun v hv => h v (.inr hv)⟩, fun ⟨h1, h2⟩ v hv => hv.elim (h1 v) (h2 v)⟩
theorem row_mk (L : List Int) {tail : List Value} {cap : Nat} (ht : plainL tail = true) (hl : L.length + tail.length = cap) (hc : cap ≤ 9223372036854775807) : RowP (cz L ++ tail) L.length cap ∧ zc (cz L ++ tail) L.length = L := by
 have e : (cz L ++ tail).take L.length = cz L := by rw [List.take_append_of_le_length (by simp), List.take_of_length_le (by simp)]
 refine ⟨⟨by rw [e]; exact cz_isBytes L, plainL_append.2 ⟨cz_plain L, ht⟩, by simp [hl], by omega, hc⟩, ?_⟩
 show List.map iv ((cz L ++ tail).take L.length) = L
 rw [e]
 simp only [cz, List.map_map]
 have : (iv ∘ fun n : Int => Value.int .u8 n) = id := by funext n; rfl
 rw [this, List.map_id]
theorem tail_spec {tail : List Value} {cap need size : Nat} (h : tailOK tail cap need size = true) : plainL tail = true ∧ tail.length + need * size = cap * size ∧ need ≤ cap ∧ cap ≤ 9223372036854775807 := by
 simp only [tailOK, Bool.and_eq_true, Nat.ble_eq, Nat.beq_eq] at h
 exact ⟨h.1.1.1, h.1.1.2, h.1.2, h.2⟩
theorem RowP.app {c : List Value} {n cap : Nat} (h : RowP c n cap) (M : List Int) {tail : List Value} {cap' : Nat} (ht : tailOK tail cap' (n + M.length) 1 = true) :
  RowP (c.take n ++ cz M ++ tail) (n + M.length) cap' ∧ zc (c.take n ++ cz M ++ tail) (n + M.length) = zc c n ++ M := by
 obtain ⟨t1, t2, t3, t4⟩ := tail_spec ht
 have hz := zc_length h
 have := row_mk (zc c n ++ M) (tail := tail) (cap := cap') t1 (by simp only [List.length_append, hz]; omega) t4
 simp only [List.length_append, hz, cz_append] at this
 rw [h.take]
 exact this
theorem RowP.app1 {c : List Value} {n cap : Nat} (h : RowP c n cap) (x : Int) {tail : List Value} {cap' : Nat} (ht : tailOK tail cap' (n + 1) 1 = true) :
  RowP (c.take (n * 1) ++ [.int .u8 x] ++ tail) (n + 1) cap' ∧ zc (c.take (n * 1) ++ [.int .u8 x] ++ tail) (n + 1) = zc c n ++ [x] := by
 rw [Nat.mul_one]
 exact h.app [x] ht
theorem RowP.ask {c : List Value} {n cap : Nat} (h : RowP c n cap) {k : Nat} (hk : n + k ≤ 1000000) :
  (Nat.beq c.length (cap * 1) && Nat.ble n cap && Nat.ble cap 9223372036854775807 && true && fitsA (n + k) 1) = true := by
 have h1 := h.len
 have h2 := h.le
 have h3 := h.cap
 simp only [fitsA, Bool.and_eq_true, Nat.ble_eq, Nat.beq_eq, Nat.mul_one]
 exact ⟨⟨⟨⟨h1, h2⟩, h3⟩, trivial⟩, by omega, by omega⟩
theorem row_new (M : List Int) {tail : List Value} {cap' : Nat} (ht : tailOK tail cap' M.length 1 = true) : RowP (cz M ++ tail) M.length cap' ∧ zc (cz M ++ tail) M.length = M := by
 obtain ⟨t1, t2, t3, t4⟩ := tail_spec ht
 exact row_mk M t1 (by omega) t4
theorem RowP.good {c : List Value} {n cap : Nat} (h : RowP c n cap) (ps : List (Nat × Nat)) : goodL ps c = true := goodL_plain h.plain
theorem RowP.rlb {c : List Value} {n cap : Nat} (h : RowP c n cap) (ps : List (Nat × Nat)) : rlbL ps c = c := rlbL_plain ps h.plain
theorem app_step {d : List Value} {m cap : Nat} (hr : RowP d m cap) (hm : m ≤ 100000) (x : Int) (ps : List (Nat × Nat)) (K : Nat → List Value → Prop)
  (h : ∀ (cap' : Nat) (d' : List Value), RowP d' (m + 1) cap' → zc d' (m + 1) = zc d m ++ [x] → K cap' d') :
  bif Nat.beq d.length (cap * 1) && Nat.ble m cap && Nat.ble cap 9223372036854775807 && true && fitsA (m + 1) 1 then
   ∀ (cap1 : Nat) (tail : List Value), tailOK tail cap1 (m + 1) 1 = true →
    bif goodL ps (List.take (m * 1) d ++ [.int .u8 x] ++ tail) && true && true then K cap1 (rlbL ps (List.take (m * 1) d ++ [.int .u8 x] ++ tail)) else False
  else False := by
 rw [hr.ask (k := 1) (by omega)]
 intro cap1 tail ht
 obtain ⟨h1, h2⟩ := hr.app1 x ht
 rw [h1.good, h1.rlb]
 exact h cap1 _ h1 h2
theorem ids_plainB {c : List Value} (h : plainL c = true) (n : Nat) : idsLt n c = true := by
 simp [idsLt, ids_plainL h]
end Go.Px
end
section
namespace Go.Fx
open Go Go.Ab
structure Ty where
 k : Int
 p : Int
 q : Int
 v : Bool
 s : ByteArray
structure Vl where
 n : Int
 s : ByteArray
instance : Enc Ty where
 enc t := .agg ⟨[.int .i64 t.k, .int .i64 t.p, .int .i64 t.q, .bool t.v, .string t.s]⟩
 dec | .agg ⟨[.int .i64 k, .int .i64 p, .int .i64 q, .bool v, .string s]⟩ => some ⟨k, p, q, v, s⟩ | _ => none
 dec_some := by
  intro v a h
  split at h
  ·cases h; rfl
  ·cases h
 plain_enc _ := rfl
instance : Enc Vl where
 enc t := .agg ⟨[.int .i64 t.n, .string t.s]⟩
 dec | .agg ⟨[.int .i64 n, .string s]⟩ => some ⟨n, s⟩ | _ => none
 dec_some := by
  intro v a h
  split at h
  ·cases h; rfl
  ·cases h
 plain_enc _ := rfl
abbrev I (n : Int) : Value := .int .i64 n
abbrev B (b : Bool) : Value := .bool b
def e0 : ByteArray := ⟨#[]⟩
def T0 : Ty := ⟨0, 0, 0, false, ⟨#[]⟩⟩
def V0 : Vl := ⟨0, ⟨#[]⟩⟩
abbrev tv (t : Ty) : Value := .agg ⟨[.int .i64 t.k, .int .i64 t.p, .int .i64 t.q, .bool t.v, .string t.s]⟩
abbrev vv (v : Vl) : Value := .agg ⟨[.int .i64 v.n, .string v.s]⟩
abbrev tup (l : List Value) : Value := .tuple ⟨l⟩
def most (k : Int) : Int := if k = 1 then 9 else 31
def Valid (t : Ty) : Prop := (t.k = 1 ∨ t.k = 2) ∧ 1 ≤ t.p ∧ t.p ≤ most t.k ∧ 0 ≤ t.q ∧ t.q ≤ t.p ∧ (t.k = 2 → t.q = 0) ∧ t.v = false ∧ t.s.toList = []
instance (t : Ty) : Decidable (Valid t) := by unfold Valid; infer_instance
def base (k : Int) : Int := if k = 1 then 10 else 2
def pw (b n : Int) : Int := b ^ n.toNat
def bnd (t : Ty) : Int := pw (base t.k) t.p
def check (t : Ty) : Int := if Valid t then 0 else 5
def Fit (v : Vl) (t : Ty) : Prop := v.s.toList = [] ∧ -bnd t < v.n ∧ v.n < bnd t
instance (v : Vl) (t : Ty) : Decidable (Fit v t) := by unfold Fit; infer_instance
def fits (v : Vl) (t : Ty) : Int := if Valid t then (if Fit v t then 0 else 6) else 5
def scl (n d : Int) : Int := if 0 ≤ d then n * pw 10 d else n.tdiv (pw 10 (-d))
def InB (n : Int) (t : Ty) : Prop := -bnd t < n ∧ n < bnd t
instance (n : Int) (t : Ty) : Decidable (InB n t) := by unfold InB; infer_instance
def cutN (n : Int) (t : Ty) : Int := if InB n t then n else n.tmod (bnd t)
def cutC (n : Int) (t : Ty) (c : Int) : Int := if InB n t then 0 else c
def tensL : List Value := [.int .i64 1, .int .i64 10, .int .i64 100, .int .i64 1000, .int .i64 10000, .int .i64 100000, .int .i64 1000000, .int .i64 10000000, .int .i64 100000000, .int .i64 1000000000,
 .int .i64 10000000000, .int .i64 100000000000, .int .i64 1000000000000, .int .i64 10000000000000, .int .i64 100000000000000, .int .i64 1000000000000000, .int .i64 10000000000000000, .int .i64 100000000000000000, .int .i64 1000000000000000000]
def fst2 (x y : Int) : Int := if x ≠ 0 then x else y
def R64 (n : Int) : Prop := -9223372036854775808 ≤ n ∧ n ≤ 9223372036854775807
instance (n : Int) : Decidable (R64 n) := by unfold R64; infer_instance
def zer (op b : Int) : Prop := (op = 9 ∨ op = 10) ∧ b = 0
instance (op b : Int) : Decidable (zer op b) := by unfold zer; infer_instance
def Q18 (n : Int) : Prop := -4000000000000000000 ≤ n ∧ n ≤ 4000000000000000000
instance (n : Int) : Decidable (Q18 n) := by unfold Q18; infer_instance
def quoOK (a b up : Int) : Prop := b ≠ 0 ∧ -18 ≤ up ∧ up ≤ 18 ∧ Q18 a ∧ Q18 b ∧ (0 ≤ up → Q18 (a * pw 10 up)) ∧ (up < 0 → Q18 (b * pw 10 (-up)))
instance (a b up : Int) : Decidable (quoOK a b up) := by unfold quoOK; infer_instance
def dvOK (op y : Int) : Prop := op = 10 → y ≠ 0
instance (op y : Int) : Decidable (dvOK op y) := by unfold dvOK; infer_instance
def rOK (n u : Int) : Prop := 1 ≤ u ∧ u ≤ 1000000000 ∧ -4000000000000000000 ≤ n ∧ n ≤ 4000000000000000000
instance (n u : Int) : Decidable (rOK n u) := by unfold rOK; infer_instance
end Go.Fx
end
section
namespace Go.Fx
open Go Go.Ab
theorem w64 {n : Int} (h : -9223372036854775808 ≤ n ∧ n ≤ 9223372036854775807) : IntKind.i64.wrap n = n := by rw [IntKind.wrap_i64]; omega
theorem str0 (s : ByteArray) : (!s.toList == (ByteArray.mk #[]).toList) = !decide (s.toList = []) := by
 have : (ByteArray.mk #[]).toList = [] := by kernel_rfl
 rw [this]
 cases s.toList <;> rfl
end Go.Fx
namespace Go.Fx
open Go Go.Ab
theorem wrap_mul (a b : Int) : IntKind.i64.wrap (IntKind.i64.wrap a * b) = IntKind.i64.wrap (a * b) := by
 simp only [IntKind.wrap_i64]
 have h : ((a + 9223372036854775808) % 18446744073709551616 - 9223372036854775808) * b = a * b + 18446744073709551616 * (-((a + 9223372036854775808) / 18446744073709551616) * b) := by
  have := Int.emod_def (a + 9223372036854775808) 18446744073709551616
  rw [this]
  grind
 rw [h]
 omega
theorem pw_zero (b : Int) {n : Int} (h : n ≤ 0) : pw b n = 1 := by
 rw [pw, show n.toNat = 0 by omega, Int.pow_zero]
theorem pw_succ (b : Int) {n : Int} (h : 0 ≤ n) : pw b (n + 1) = pw b n * b := by
 rw [pw, pw, show (n + 1).toNat = n.toNat + 1 by omega, Int.pow_succ]
theorem pw_add (b : Int) {n m : Int} (h : 0 ≤ n) (h' : 0 ≤ m) : pw b (n + m) = pw b n * pw b m := by
 rw [pw, pw, pw, show (n + m).toNat = n.toNat + m.toNat by omega, Int.pow_add]
theorem pw_pos {b : Int} (hb : 1 ≤ b) (n : Int) : 1 ≤ pw b n := by
 have : 0 < b ^ n.toNat := Int.pow_pos (by omega)
 unfold pw; omega
theorem pw_le {b : Int} (hb : 1 ≤ b) {n m : Int} (h : n ≤ m) : pw b n ≤ pw b m := by
 rcases Int.le_total n 0 with hn | hn
 ·rw [pw_zero b hn]; exact pw_pos hb m
 ·have e : m = n + (m - n) := by omega
  rw [e, pw_add b hn (by omega)]
  have h1 := pw_pos hb n
  have h2 := pw_pos hb (m - n)
  have := Int.mul_le_mul_of_nonneg_left h2 (show 0 ≤ pw b n by omega)
  omega
theorem pw10_18 : pw 10 18 = 1000000000000000000 := by decide
theorem pw10_9 : pw 10 9 = 1000000000 := by decide
theorem pw2_31 : pw 2 31 = 2147483648 := by decide
end Go.Fx
namespace Go.Fx
open Go Go.Ab
theorem tens_nat : ∀ n : Nat, n < 19 → isIntAt .i64 tensL n = true ∧ intAt tensL n = 10 ^ n := by decide
theorem tens_at {p : Int} (h : 0 ≤ p) (h' : p < 19) : isIntAt .i64 tensL p.toNat = true ∧ intAt tensL p.toNat = pw 10 p := tens_nat _ (by omega)
theorem shl_pw {p : Int} (h : 0 ≤ p) (h' : p ≤ 62) : IntKind.i64.wrap (1 * 2 ^ min p.toNat 64) = pw 2 p := by
 have h1 := pw_le (b := 2) (by omega) h'
 have h2 := pw_pos (b := 2) (by omega) p
 have h3 : pw 2 62 = 4611686018427387904 := by decide
 rw [show min p.toNat 64 = p.toNat by omega, Int.one_mul]
 exact w64 (by show _ ≤ pw 2 p ∧ pw 2 p ≤ _; omega)
theorem pw_w64 {b p : Int} (h : b = 10 ∧ p ≤ 18 ∨ b = 2 ∧ p ≤ 62) : IntKind.i64.wrap (pw b p) = pw b p := by
 have h3 : pw 2 62 = 4611686018427387904 := by decide
 have h4 := pw10_18
 rcases h with ⟨rfl, h⟩ | ⟨rfl, h⟩
 ·have h1 := pw_le (b := 10) (by omega) h
  have h2 := pw_pos (b := 10) (by omega) p
  exact w64 (by omega)
 ·have h1 := pw_le (b := 2) (by omega) h
  have h2 := pw_pos (b := 2) (by omega) p
  exact w64 (by omega)
end Go.Fx
namespace Go.Fx
open Go Go.Ab
theorem bnd_range {t : Ty} (h : Valid t) : 2 ≤ bnd t ∧ bnd t ≤ 2147483648 := by
 obtain ⟨hk, h1, h2, _⟩ := h
 unfold bnd
 rcases hk with hk | hk
 ·simp only [hk, most, base] at *
  have a := pw_le (b := 10) (by omega) h1
  have b := pw_le (b := 10) (by omega) (show t.p ≤ 9 by simpa using h2)
  have c := pw10_9
  have d : pw 10 1 = 10 := by decide
  simp only [if_true]
  omega
 ·simp only [hk, most, base] at *
  have a := pw_le (b := 2) (by omega) h1
  have b := pw_le (b := 2) (by omega) (show t.p ≤ 31 by simpa using h2)
  have c := pw2_31
  have d : pw 2 1 = 2 := by decide
  simp only [show ¬ ((2 : Int) = 1) by decide, if_false]
  omega
end Go.Fx
namespace Go.Fx
end Go.Fx
namespace Go.Fx
open Go Go.Ab
theorem valid_r {t : Ty} (h : Valid t) : 1 ≤ t.p ∧ t.p ≤ 31 ∧ 0 ≤ t.q ∧ t.q ≤ t.p ∧ t.q ≤ 9 := by grind [Valid, most]
end Go.Fx
namespace Go.Fx
open Go Go.Ab
theorem str_e0 {s : ByteArray} (h : s.toList = []) : s = e0 := by
 rw [Go.Lib.toList_data] at h
 obtain ⟨⟨l⟩⟩ := s
 simp only at h
 subst h
 rfl
end Go.Fx
end
section
namespace Go.Cv
def dig (c : Int) : Bool := decide (48 ≤ c ∧ c ≤ 57)
def bitsZ (l : List Int) : Bool := l.all fun c => decide (c = 48 ∨ c = 49)
def digsZ (l : List Int) : Bool := l.all dig
def trL (l : List Int) : List Int := l.dropWhile (· == 32)
def trR (l : List Int) : List Int := (l.reverse.dropWhile (· == 32)).reverse
def ahead (c : Int) (l : List Int) : List Int := l.takeWhile (· != c)
def past (c : Int) (l : List Int) : Option (List Int) := match l.dropWhile (· != c) with
 | [] => none
 | _ :: r => some r
def expD (l : List Int) : Option Int := if 1 ≤ l.length ∧ l.length ≤ 2 ∧ digsZ l = true then some (l.foldl (fun a c => 10 * a + (c - 48)) 0) else none
def expZ : List Int → Option Int
 | 43 :: l => expD l
 | 45 :: l => (expD l).map fun n => -n
 | l => expD l
abbrev Num := Bool × List Int × Int
section
variable (normZ : Bool → List Int → Int → Num) (binD : List Int → List Int)
def decR (neg : Bool) (l : List Int) : Option Num :=
 match (match past 69 l with | none => some 0 | some x => expZ x) with
 | none => none
 | some e =>
  let s := ahead 69 l
  let whole := ahead 46 s
  let part := (past 46 s).getD []
  if whole ++ part ≠ [] ∧ digsZ whole = true ∧ digsZ part = true then some (normZ neg (whole ++ part) (part.length - e)) else none
def bodR (neg : Bool) (l : List Int) : Option Num :=
 if 2 ≤ l.length ∧ l.getLast? = some 66 then
  if l.length - 1 ≤ 31 ∧ bitsZ l.dropLast = true then some (normZ neg (binD l.dropLast) 0) else none
 else decR normZ neg l
def sgnR : List Int → Option Num
 | [] => some (false, [], 0)
 | 45 :: l => bodR normZ binD true l
 | 43 :: l => bodR normZ binD false l
 | l => bodR normZ binD false l
def numR (l : List Int) : Option Num := sgnR normZ binD (trR (trL l))
inductive St where
 | beg | bod (some pt : Bool) | exq (sg : Bool) (many : Nat) | beh | ded
structure Rd where
 neg : Bool := false
 bin : Bool := false
 down : Bool := false
 ds : List Int := []
 sc : Int := 0
 pw : Int := 0
def bodN (r : Rd) (c : Int) (s p : Bool) : St × Rd :=
 if dig c = true then (.bod true p, { r with ds := r.ds ++ [c], sc := if p = true then r.sc + 1 else r.sc })
 else if c = 46 ∧ p = false then (.bod s true, r)
 else if s = false then (.ded, r)
 else if c = 69 then (.exq false 0, r)
 else if c = 66 ∧ p = false then (.beh, { r with bin := true })
 else if c = 32 then (.beh, r) else (.ded, r)
def stepP : St → Rd → Int → St × Rd
 | .beg, r, c => if c = 32 then (.beg, r) else if c = 43 ∨ c = 45 then (.bod false false, { r with neg := decide (c = 45) }) else bodN r c false false
 | .bod s p, r, c => bodN r c s p
 | .exq sg m, r, c => if dig c = true ∧ m < 2 then (.exq true (m + 1), { r with pw := 10 * r.pw + (c - 48) })
  else if (c = 43 ∨ c = 45) ∧ sg = false then (.exq true 0, { r with down := decide (c = 45) })
  else if c = 32 ∧ 0 < m then (.beh, r) else (.ded, r)
 | .beh, r, c => if c = 32 then (.beh, r) else (.ded, r)
 | .ded, r, _ => (.ded, r)
def endP : St → Bool
 | .beg => true
 | .bod s _ => s
 | .exq _ m => decide (0 < m)
 | .beh => true
 | .ded => false
def runP : List Int → St → Rd → Option Rd
 | [], st, r => if endP st = true then some r else none
 | c :: l, st, r => runP l (stepP st r c).1 (stepP st r c).2
def finP (r : Rd) : Option Num :=
 if r.bin = true then (if r.ds.length ≤ 31 ∧ bitsZ r.ds = true then some (normZ r.neg (binD r.ds) 0) else none)
 else some (normZ r.neg r.ds (r.sc - if r.down = true then -r.pw else r.pw))
def numP (l : List Int) : Option Num := (runP l .beg {}).bind (finP normZ binD)
end
theorem run_ded : ∀ (l : List Int) (r : Rd), runP l .ded r = none
 | [], _ => rfl
 | c :: l, r => by rw [runP]; exact run_ded l r
theorem run_beh : ∀ (l : List Int) (r : Rd), runP l .beh r = if l.all (· == 32) = true then some r else none
 | [], _ => rfl
 | c :: l, r => by
  rw [runP, stepP]
  by_cases h : c = 32
  ·subst h
   rw [if_pos rfl, run_beh l r]
   rfl
  ·rw [if_neg h, run_ded, if_neg]
   simp [h]
theorem run_blank (b : List Int) (hb : b.all (· == 32) = true) : ∀ (l : List Int) (st : St) (r : Rd), runP (l ++ b) st r = runP l st r
 | [], st, r => by
  cases b with
  | nil => rfl
  | cons c b =>
   simp only [List.all_cons, Bool.and_eq_true, beq_iff_eq] at hb
   obtain ⟨rfl, hb⟩ := hb
   show runP b (stepP st r 32).1 (stepP st r 32).2 = if endP st = true then some r else none
   cases st with
   | beg =>
    have ih := run_blank b hb [] .beg r
    exact ih
   | bod s p =>
    cases s with
    | true =>
     show runP b (bodN r 32 true p).1 (bodN r 32 true p).2 = _
     cases p <;> exact (run_beh b r).trans (by rw [if_pos hb]; rfl)
    | false =>
     show runP b (bodN r 32 false p).1 (bodN r 32 false p).2 = _
     cases p <;> exact run_ded b r
   | exq sg m =>
    show runP b (stepP (.exq sg m) r 32).1 (stepP (.exq sg m) r 32).2 = _
    have hd : dig 32 = false := by decide
    have e : stepP (.exq sg m) r 32 = if 0 < m then (.beh, r) else (.ded, r) := by
     rw [stepP, if_neg (fun q => by rw [hd] at q; cases q.1), if_neg (fun q => absurd q.1 (by decide))]
     by_cases h : 0 < m
     ·rw [if_pos ⟨rfl, h⟩, if_pos h]
     ·rw [if_neg (fun q => h q.2), if_neg h]
    rw [e]
    by_cases h : 0 < m
    ·rw [if_pos h, run_beh, if_pos hb]
     simp [endP, h]
    ·rw [if_neg h, run_ded]
     simp [endP, h]
   | beh =>
    exact (run_beh b r).trans (by rw [if_pos hb]; rfl)
   | ded => exact run_ded b r
 | c :: l, st, r => by
  rw [List.cons_append, runP, runP, run_blank b hb l]
theorem run_lead : ∀ (l : List Int), runP l .beg {} = runP (trL l) .beg {}
 | [] => rfl
 | c :: l => by
  by_cases h : c = 32
  ·subst h
   rw [show trL (32 :: l) = trL l from rfl, ← run_lead l]
   rfl
  ·rw [show trL (c :: l) = c :: l from List.dropWhile_cons_of_neg (by simpa using h)]
theorem trR_spec (l : List Int) : ∃ b : List Int, b.all (· == 32) = true ∧ l = trR l ++ b ∧ ((trR l).getLast? ≠ some 32) := by
 refine ⟨(l.reverse.takeWhile (· == 32)).reverse, ?_, ?_, ?_⟩
 ·rw [List.all_reverse]
  exact List.all_takeWhile
 ·rw [trR, ← List.reverse_append, List.takeWhile_append_dropWhile, List.reverse_reverse]
 ·rw [trR, List.getLast?_reverse]
  intro h
  have := List.head?_dropWhile_not (p := (· == (32 : Int))) (l := l.reverse)
  rw [h] at this
  simp at this
theorem run_digs : ∀ (d l : List Int) (s p : Bool) (r : Rd), digsZ d = true →
  runP (d ++ l) (.bod s p) r = runP l (.bod (s || !d.isEmpty) p) { r with ds := r.ds ++ d, sc := if p = true then r.sc + d.length else r.sc }
 | [], l, s, p, r, _ => by
  cases p <;> simp
 | c :: d, l, s, p, r, h => by
  simp only [digsZ, List.all_cons, Bool.and_eq_true] at h
  have e : stepP (.bod s p) r c = (.bod true p, { r with ds := r.ds ++ [c], sc := if p = true then r.sc + 1 else r.sc }) := by
   rw [stepP, bodN, if_pos h.1]
  rw [List.cons_append, runP, e]
  have := run_digs d l true p { r with ds := r.ds ++ [c], sc := if p = true then r.sc + 1 else r.sc } h.2
  rw [this]
  have e2 : r.sc + 1 + (d.length : Int) = r.sc + ((d.length : Int) + 1) := by omega
  cases p <;> simp [e2]
theorem split_digs (l : List Int) : ∃ d v : List Int, l = d ++ v ∧ digsZ d = true ∧ (v = [] ∨ ∃ c r, v = c :: r ∧ dig c = false) := by
 refine ⟨l.takeWhile dig, l.dropWhile dig, (List.takeWhile_append_dropWhile).symm, List.all_takeWhile, ?_⟩
 cases h : l.dropWhile dig with
 | nil => exact .inl rfl
 | cons c r =>
  refine .inr ⟨c, r, rfl, ?_⟩
  have := List.head?_dropWhile_not (p := dig) (l := l)
  rw [h] at this
  simpa using this
theorem digs_app {a b : List Int} : digsZ (a ++ b) = (digsZ a && digsZ b) := List.all_append
theorem run_exp (x : List Int) (hx : x.getLast? ≠ some 32) (r : Rd) (h0 : r.pw = 0 ∧ r.down = false) :
  (runP x (.exq false 0) r).map (fun r' => (r'.neg, r'.bin, r'.ds, r'.sc, if r'.down = true then -r'.pw else r'.pw)) = (expZ x).map fun e => (r.neg, r.bin, r.ds, r.sc, e) := by
 have two : ∀ (l : List Int) (sg : Bool) (r : Rd), l.getLast? ≠ some 32 → r.pw = 0 → (∀ c t, l = c :: t → sg = false → c ≠ 43 ∧ c ≠ 45) →
   runP l (.exq sg 0) r = (expD l).map fun e => { r with pw := e } := by
  intro l sg r hl hr hs
  match l with
  | [] => rfl
  | [a] =>
   rw [runP, stepP]
   cases ha : dig a with
   | true =>
    rw [if_pos ⟨rfl, by decide⟩]
    simp [runP, endP, expD, digsZ, ha, hr]
   | false =>
    rw [if_neg (fun q => by cases q.1), if_neg, if_neg (fun q => absurd q.2 (by decide))]
    ·simp [runP, endP, expD, digsZ, ha]
    ·intro q
     have := hs a [] rfl q.2
     omega
  | [a, b] =>
   rw [runP, stepP]
   cases ha : dig a with
   | true =>
    rw [if_pos ⟨rfl, by decide⟩]
    show runP [b] (.exq true 1) _ = _
    rw [runP, stepP]
    cases hb : dig b with
    | true =>
     rw [if_pos ⟨rfl, by decide⟩]
     simp [runP, endP, expD, digsZ, ha, hb, hr]
    | false =>
     have hb32 : b ≠ 32 := fun q => hl (by rw [q]; rfl)
     rw [if_neg (fun q => by cases q.1), if_neg (fun q => by cases q.2), if_neg (fun q => hb32 q.1)]
     simp [runP, endP, expD, digsZ, ha, hb]
   | false =>
    rw [if_neg (fun q => by cases q.1), if_neg, if_neg (fun q => absurd q.2 (by decide))]
    ·show runP [b] .ded r = _
     rw [run_ded]
     simp [expD, digsZ, ha]
    ·intro q
     have := hs a [b] rfl q.2
     omega
  | a :: b :: c :: t =>
   have en : expD (a :: b :: c :: t) = none := by
    rw [expD, if_neg]
    intro q
    have := q.2.1
    simp at this
   rw [en, runP, stepP]
   cases ha : dig a with
   | false =>
    rw [if_neg (fun q => by cases q.1), if_neg, if_neg (fun q => absurd q.2 (by decide))]
    ·exact run_ded _ _
    ·intro q
     have := hs a _ rfl q.2
     omega
   | true =>
    rw [if_pos ⟨rfl, by decide⟩]
    show runP (b :: c :: t) (.exq true 1) _ = none
    have hbl : ∀ r', runP (c :: t) .beh r' = none := fun r' => by
     rw [run_beh, if_neg]
     intro q
     have : (c :: t).getLast? = some 32 := by
      have hne : c :: t ≠ [] := by simp
      rw [List.getLast?_eq_some_getLast hne]
      have := List.all_eq_true.1 q _ (List.getLast_mem hne)
      rw [eq_of_beq this]
     refine hl ?_
     rw [← this]
     simp [List.getLast?_cons_cons]
    rw [runP, stepP]
    cases hb : dig b with
    | false =>
     rw [if_neg (fun q => by cases q.1), if_neg (fun q => by cases q.2)]
     by_cases h32 : b = 32
     ·rw [if_pos ⟨h32, by decide⟩]
      exact hbl _
     ·rw [if_neg (fun q => h32 q.1)]
      exact run_ded _ _
    | true =>
     rw [if_pos ⟨rfl, by decide⟩]
     show runP (c :: t) (.exq true 2) _ = none
     rw [runP, stepP, if_neg (fun q => absurd q.2 (by decide)), if_neg (fun q => by cases q.2)]
     by_cases h32 : c = 32
     ·rw [if_pos ⟨h32, by decide⟩]
      have := hbl
      have e := this { r with pw := 0 }
      rw [runP, stepP, if_pos h32] at e
      rw [run_beh] at e ⊢
      split at e
      ·cases e
      ·rename_i q
       rw [if_neg q]
     ·rw [if_neg (fun q => h32 q.1)]
      exact run_ded _ _
 obtain ⟨hp, hd⟩ := h0
 match x, hx with
 | [], _ => rfl
 | c :: l, hx =>
  by_cases h43 : c = 43
  ·subst h43
   have e : stepP (.exq false 0) r 43 = (.exq true 0, { r with down := false }) := by
    rw [stepP, if_neg (fun q => absurd q.1 (by decide)), if_pos ⟨.inl rfl, rfl⟩]
    rfl
   have hl : l.getLast? ≠ some 32 := by
    intro q
    cases l with
    | nil => cases q
    | cons a t => exact hx (by rw [List.getLast?_cons_cons]; exact q)
   have tt := two l true { r with down := false } hl hp (fun _ _ _ q => by cases q)
   rw [runP, e]
   show Option.map _ (runP l (.exq true 0) { r with down := false }) = (expD l).map _
   rw [tt]
   cases expD l <;> simp
  ·by_cases h45 : c = 45
   ·subst h45
    have e : stepP (.exq false 0) r 45 = (.exq true 0, { r with down := true }) := by
     rw [stepP, if_neg (fun q => absurd q.1 (by decide)), if_pos ⟨.inr rfl, rfl⟩]
     rfl
    have hl : l.getLast? ≠ some 32 := by
     intro q
     cases l with
     | nil => cases q
     | cons a t => exact hx (by rw [List.getLast?_cons_cons]; exact q)
    have tt := two l true { r with down := true } hl hp (fun _ _ _ q => by cases q)
    rw [runP, e]
    show Option.map _ (runP l (.exq true 0) { r with down := true }) = ((expD l).map _).map _
    rw [tt]
    cases expD l <;> simp
   ·rw [two (c :: l) false r hx hp (fun a t e _ => by cases e; exact ⟨h43, h45⟩)]
    have : expZ (c :: l) = expD (c :: l) := by
     unfold expZ
     split
     ·rename_i e; cases e; exact absurd rfl h43
     ·rename_i e; cases e; exact absurd rfl h45
     ·rfl
    rw [this]
    cases expD (c :: l) <;> simp [hd]
theorem ahead_no {c : Int} : ∀ {l : List Int}, c ∉ l → ahead c l = l ∧ past c l = none
 | [], _ => ⟨rfl, rfl⟩
 | a :: l, h => by
  simp only [List.mem_cons, not_or] at h
  have ha : (a != c) = true := by simpa using Ne.symm h.1
  obtain ⟨h1, h2⟩ := ahead_no h.2
  refine ⟨?_, ?_⟩
  ·show List.takeWhile _ (a :: l) = _
   rw [List.takeWhile_cons_of_pos (p := fun x => x != c) ha]
   exact congrArg _ h1
  ·unfold past at h2 ⊢
   rw [List.dropWhile_cons_of_pos (p := fun x => x != c) ha]
   exact h2
theorem ahead_at {c : Int} : ∀ {d : List Int} {r : List Int}, c ∉ d → ahead c (d ++ c :: r) = d ∧ past c (d ++ c :: r) = some r
 | [], r, _ => by
  have : (c != c) = false := by simp
  refine ⟨?_, ?_⟩
  ·show List.takeWhile _ (c :: r) = _
   rw [List.takeWhile_cons_of_neg (p := fun x => x != c) (by simp)]
  ·unfold past
   rw [List.nil_append, List.dropWhile_cons_of_neg (p := fun x => x != c) (by simp)]
 | a :: d, r, h => by
  simp only [List.mem_cons, not_or] at h
  have ha : (a != c) = true := by simpa using Ne.symm h.1
  obtain ⟨h1, h2⟩ := ahead_at (r := r) h.2
  refine ⟨?_, ?_⟩
  ·show List.takeWhile _ (a :: (d ++ c :: r)) = _
   rw [List.takeWhile_cons_of_pos (p := fun x => x != c) ha]
   exact congrArg _ h1
  ·unfold past at h2 ⊢
   rw [List.cons_append, List.dropWhile_cons_of_pos (p := fun x => x != c) ha]
   exact h2
theorem digs_no {d : List Int} (h : digsZ d = true) {c : Int} (hc : dig c = false) : c ∉ d := fun q => by
 have := List.all_eq_true.1 h c q
 rw [hc] at this
 cases this
theorem ahead_app {c : Int} : ∀ {d l : List Int}, c ∉ d → ahead c (d ++ l) = d ++ ahead c l
 | [], _, _ => rfl
 | a :: d, l, h => by
  simp only [List.mem_cons, not_or] at h
  have ha : (a != c) = true := by simpa using Ne.symm h.1
  have := ahead_app (l := l) h.2
  show List.takeWhile _ (a :: (d ++ l)) = _
  rw [List.takeWhile_cons_of_pos (p := fun x => x != c) ha]
  exact congrArg _ this
theorem ahead_cons {c a : Int} (l : List Int) (h : a ≠ c) : ahead c (a :: l) = a :: ahead c l :=
 ahead_app (d := [a]) (by simpa using Ne.symm h)
section
variable {normZ : Bool → List Int → Int → Num} {binD : List Int → List Int}
theorem dec_bad {d w : List Int} {c : Int} (hd : digsZ d = true) (hc : dig c = false) (h69 : c ≠ 69) (h46 : c ≠ 46) (neg : Bool) : decR normZ neg (d ++ c :: w) = none := by
 have n69 : (69 : Int) ∉ d := digs_no hd (by decide)
 have n46 : (46 : Int) ∉ d := digs_no hd (by decide)
 unfold decR
 split
 ·rfl
 ·dsimp only
  rw [ahead_app n69, ahead_cons _ h69, ahead_app n46, ahead_cons _ h46, if_neg]
  intro q
  have := q.2.1
  rw [digs_app] at this
  simp only [digsZ, List.all_cons, hc, Bool.false_and, Bool.and_false] at this
  cases this
theorem dec_bad2 {d d2 w : List Int} {c : Int} (hd : digsZ d = true) (hd2 : digsZ d2 = true) (hc : dig c = false) (h69 : c ≠ 69) (neg : Bool) : decR normZ neg (d ++ 46 :: (d2 ++ c :: w)) = none := by
 have n69 : (69 : Int) ∉ d := digs_no hd (by decide)
 have n46 : (46 : Int) ∉ d := digs_no hd (by decide)
 have m69 : (69 : Int) ∉ d2 := digs_no hd2 (by decide)
 unfold decR
 split
 ·rfl
 ·dsimp only
  rw [ahead_app n69, ahead_cons _ (by decide), ahead_app m69, ahead_cons _ h69, (ahead_at n46).1, (ahead_at n46).2, if_neg]
  intro q
  have := q.2.2
  rw [Option.getD_some, digs_app] at this
  simp only [digsZ, List.all_cons, hc, Bool.false_and, Bool.and_false] at this
  cases this
theorem drop_mem (d w : List Int) (c : Int) (h : w ≠ []) : c ∈ (d ++ c :: w).dropLast := by
 rw [List.dropLast_append_of_ne_nil (by simp), List.dropLast_cons_of_ne_nil h]
 simp
theorem bits_no {l : List Int} {c : Int} (h : c ∈ l) (hc : c ≠ 48 ∧ c ≠ 49) : bitsZ l = false := by
 cases e : bitsZ l with
 | false => rfl
 | true =>
  have := List.all_eq_true.1 e c h
  simp only [decide_eq_true_eq] at this
  omega
theorem not_dig {c : Int} (h : dig c = false) : c ≠ 48 ∧ c ≠ 49 := by
 unfold dig at h
 have := of_decide_eq_false h
 omega
theorem bod_dec {d w : List Int} {c : Int} (hc : dig c = false) (hw : w ≠ [] ∨ c ≠ 66) (neg : Bool) :
  (bodR normZ binD neg (d ++ c :: w) = none ∧ (d ++ c :: w).getLast? = some 66) ∨ (bodR normZ binD neg (d ++ c :: w) = decR normZ neg (d ++ c :: w)) := by
 unfold bodR
 by_cases h : 2 ≤ (d ++ c :: w).length ∧ (d ++ c :: w).getLast? = some 66
 ·rw [if_pos h]
  left
  have hw : w ≠ [] := by
   rcases hw with q | q
   ·exact q
   ·intro e
    subst e
    have := h.2
    simp at this
    exact q this
  refine ⟨?_, h.2⟩
  rw [if_neg]
  intro q
  rw [bits_no (drop_mem d w c hw) (not_dig hc)] at q
  cases q.2
 ·rw [if_neg h]
  exact .inr rfl
theorem bod_bad {d w : List Int} {c : Int} (hd : digsZ d = true) (hc : dig c = false) (h69 : c ≠ 69) (h46 : c ≠ 46) (hw : w ≠ [] ∨ c ≠ 66) (neg : Bool) : bodR normZ binD neg (d ++ c :: w) = none := by
 rcases bod_dec (normZ := normZ) (binD := binD) (d := d) hc hw neg with h | h
 ·exact h.1
 ·rw [h, dec_bad hd hc h69 h46]
theorem run_bad {w : List Int} (h : w.getLast? ≠ some 32) (h0 : w ≠ []) (r : Rd) : runP w .beh r = none := by
 rw [run_beh, if_neg]
 intro q
 rw [List.getLast?_eq_some_getLast h0] at h
 have := List.all_eq_true.1 q _ (List.getLast_mem h0)
 exact h (congrArg some (eq_of_beq this))
theorem last_tail {d w : List Int} {c : Int} (h : w ≠ []) : (d ++ c :: w).getLast? = w.getLast? := by
 cases w with
 | nil => exact absurd rfl h
 | cons a t =>
  rw [List.getLast?_append, List.getLast?_cons_cons, List.getLast?_eq_some_getLast (l := a :: t) (by simp)]
  rfl
theorem exp_last {x : List Int} {e : Int} (h : expZ x = some e) : x.getLast? ≠ some 66 := by
 have key : ∀ l : List Int, ∀ e, expD l = some e → l.getLast? ≠ some 66 := by
  intro l e h q
  unfold expD at h
  split at h
  ·rename_i hh
   have hm : (66 : Int) ∈ l := List.mem_of_getLast? q
   have := List.all_eq_true.1 hh.2.2 66 hm
   revert this
   decide
  ·cases h
 unfold expZ at h
 split at h
 ·rename_i l
  intro q
  cases l with
  | nil => cases h
  | cons a t => exact key _ _ h (by rw [List.getLast?_cons_cons] at q; exact q)
 ·rename_i l
  intro q
  cases hl : expD l with
  | none => rw [hl] at h; cases h
  | some z =>
   cases l with
   | nil => cases hl
   | cons a t => exact key _ _ hl (by rw [List.getLast?_cons_cons] at q; exact q)
 ·exact key _ _ h
theorem fin_exp {x : List Int} (hx : x.getLast? ≠ some 32) {r : Rd} (h : r.pw = 0 ∧ r.down = false ∧ r.bin = false) :
  (runP x (.exq false 0) r).bind (finP normZ binD) = (expZ x).map fun e => normZ r.neg r.ds (r.sc - e) := by
 have q := run_exp x hx r ⟨h.1, h.2.1⟩
 cases h1 : runP x (.exq false 0) r with
 | none =>
  rw [h1] at q
  cases h2 : expZ x with
  | none => rfl
  | some e => rw [h2] at q; cases q
 | some r' =>
  rw [h1] at q
  cases h2 : expZ x with
  | none => rw [h2] at q; cases q
  | some e =>
   rw [h2] at q
   simp only [Option.map_some, Option.some.injEq, Prod.mk.injEq] at q
   obtain ⟨q1, q2, q3, q4, q5⟩ := q
   show finP normZ binD r' = some _
   rw [finP, if_neg (by rw [q2, h.2.2]; decide), q1, q3, q4, q5]
theorem run_body {u : List Int} (hu : u.getLast? ≠ some 32) (neg : Bool) : (runP u (.bod false false) { neg := neg }).bind (finP normZ binD) = bodR normZ binD neg u := by
 obtain ⟨d, v, rfl, hd, hv⟩ := split_digs u
 have n69 : (69 : Int) ∉ d := digs_no hd (by decide)
 have n46 : (46 : Int) ∉ d := digs_no hd (by decide)
 rw [run_digs d v false false _ hd]
 simp only [List.nil_append, Bool.false_or, Bool.false_eq_true, if_false]
 rcases hv with rfl | ⟨c, w, rfl, hc⟩
 ·-- digits alone
  have hl : ¬ (2 ≤ (d ++ []).length ∧ (d ++ []).getLast? = some 66) := by
   rw [List.append_nil]
   intro q
   have := List.mem_of_getLast? q.2
   exact digs_no hd (by decide) this
  unfold bodR decR
  rw [if_neg hl, List.append_nil, (ahead_no n69).1, (ahead_no n69).2]
  dsimp only
  rw [(ahead_no n46).1, (ahead_no n46).2]
  cases d with
  | nil => rfl
  | cons a t =>
   have hn : digsZ [] = true := rfl
   rw [if_pos ⟨by simp, hd, hn⟩]
   show finP normZ binD _ = _
   simp [finP]
 ·have hw32 : w ≠ [] → w.getLast? ≠ some 32 := fun h q => hu (by rw [last_tail h]; exact q)
  rw [runP]
  show (runP w (bodN _ c _ _).1 (bodN _ c _ _).2).bind _ = _
  unfold bodN
  rw [if_neg (by rw [hc]; decide)]
  by_cases h46 : c = 46
  ·subst h46
   rw [if_pos ⟨rfl, rfl⟩]
   obtain ⟨d2, v2, rfl, hd2, hv2⟩ := split_digs w
   have m69 : (69 : Int) ∉ d2 := digs_no hd2 (by decide)
   dsimp only
   rw [run_digs d2 v2 _ true _ hd2]
   simp only [if_true]
   rcases hv2 with rfl | ⟨c2, x, rfl, hc2⟩
   ·have hl : ¬ (2 ≤ (d ++ 46 :: (d2 ++ [])).length ∧ (d ++ 46 :: (d2 ++ [])).getLast? = some 66) := by
     rw [List.append_nil]
     intro q
     have := List.mem_of_getLast? q.2
     simp only [List.mem_append, List.mem_cons] at this
     rcases this with q | q | q
     ·exact digs_no hd (by decide) q
     ·cases q
     ·exact digs_no hd2 (by decide) q
    unfold bodR decR
    have no : (69 : Int) ∉ d ++ 46 :: d2 := by simp [n69, m69]
    rw [if_neg hl, List.append_nil, (ahead_no no).1, (ahead_no no).2]
    dsimp only
    rw [(ahead_at n46).1, (ahead_at n46).2]
    rw [Option.getD_some]
    by_cases he : d ++ d2 = []
    ·have h1 : d = [] := (List.append_eq_nil_iff.1 he).1
     have h2 : d2 = [] := (List.append_eq_nil_iff.1 he).2
     subst h1 h2
     rw [if_neg (fun q => q.1 rfl)]
     rfl
    ·rw [if_pos ⟨he, hd, hd2⟩]
     have hs : (!d.isEmpty || !d2.isEmpty) = true := by
      cases d with
      | nil => cases d2 with
       | nil => exact absurd rfl he
       | cons => rfl
      | cons => rfl
     rw [hs]
     show finP normZ binD _ = _
     simp [finP]
   ·rw [runP]
    show (runP x (bodN _ c2 _ _).1 (bodN _ c2 _ _).2).bind _ = _
    unfold bodN
    rw [if_neg (by rw [hc2]; decide), if_neg (fun q => by cases q.2)]
    have hx32 : x ≠ [] → x.getLast? ≠ some 32 := fun h q => hu (by rw [last_tail (by simp), last_tail h]; exact q)
    have hne : d2 ++ c2 :: x ≠ [] := by simp
    by_cases h69 : c2 = 69
    ·subst h69
     have hx : x.getLast? ≠ some 32 := by
      cases x with
      | nil => simp
      | cons a t => exact hx32 (by simp)
     have hR : bodR normZ binD neg (d ++ 46 :: (d2 ++ 69 :: x)) = if d ++ d2 = [] then none else (expZ x).map fun e => normZ neg (d ++ d2) (d2.length - e) := by
      have e1 : decR normZ neg (d ++ 46 :: (d2 ++ 69 :: x)) = if d ++ d2 = [] then none else (expZ x).map fun e => normZ neg (d ++ d2) (d2.length - e) := by
       have no : (69 : Int) ∉ d ++ 46 :: d2 := by simp [n69, m69]
       have ea : d ++ 46 :: (d2 ++ 69 :: x) = (d ++ 46 :: d2) ++ 69 :: x := by simp
       unfold decR
       rw [ea, (ahead_at no).1, (ahead_at no).2]
       dsimp only
       cases hx : expZ x with
       | none => by_cases he : d ++ d2 = [] <;> simp [he]
       | some e =>
        dsimp only
        rw [(ahead_at n46).1, (ahead_at n46).2, Option.getD_some]
        by_cases he : d ++ d2 = []
        ·rw [if_pos he, if_neg (fun q => q.1 he)]
        ·rw [if_neg he, if_pos ⟨he, hd, hd2⟩]
         rfl
      rcases bod_dec (normZ := normZ) (binD := binD) (d := d) (w := d2 ++ 69 :: x) (c := 46) (by decide) (.inl hne) neg with ⟨h1, h2⟩ | h1
      ·rw [h1]
       have hxx : expZ x = none := by
        cases hx : expZ x with
        | none => rfl
        | some e =>
         have := exp_last hx
         rw [last_tail hne] at h2
         cases x with
         | nil => simp at h2
         | cons a t => rw [last_tail (by simp)] at h2; exact absurd h2 this
       rw [hxx]
       split <;> rfl
      ·rw [h1, e1]
     rw [hR]
     by_cases he : d ++ d2 = []
     ·have h1 : d = [] := (List.append_eq_nil_iff.1 he).1
      have h2 : d2 = [] := (List.append_eq_nil_iff.1 he).2
      subst h1 h2
      show (runP x .ded _).bind _ = _
      rw [run_ded, if_pos he]
      rfl
     ·have hs : (!d.isEmpty || !d2.isEmpty) = true := by
       cases d with
       | nil => cases d2 with
        | nil => exact absurd rfl he
        | cons => rfl
       | cons => rfl
      rw [hs, if_neg (by decide), if_pos rfl, if_neg he]
      rw [fin_exp hx ⟨rfl, rfl, rfl⟩]
      simp
    ·have hR : bodR normZ binD neg (d ++ 46 :: (d2 ++ c2 :: x)) = none := by
      rcases bod_dec (normZ := normZ) (binD := binD) (d := d) (w := d2 ++ c2 :: x) (c := 46) (by decide) (.inl hne) neg with ⟨h1, _⟩ | h1
      ·exact h1
      ·rw [h1, dec_bad2 hd hd2 hc2 h69]
     rw [hR]
     by_cases hs : (!d.isEmpty || !d2.isEmpty) = false
     ·rw [if_pos hs, run_ded]; rfl
     ·rw [if_neg hs, if_neg h69, if_neg (fun q => by cases q.2)]
      by_cases h32 : c2 = 32
      ·have hx0 : x ≠ [] := fun q => hu (by subst q h32; rw [last_tail (by simp)]; simp)
       rw [if_pos h32, run_bad (hx32 hx0) hx0]
       rfl
      ·rw [if_neg h32, run_ded]; rfl
  ·rw [if_neg (fun q => h46 q.1)]
   by_cases h69 : c = 69
   ·subst h69
    have hw : w.getLast? ≠ some 32 := by
     cases w with
     | nil => simp
     | cons a t => exact hw32 (by simp)
    have hR : bodR normZ binD neg (d ++ 69 :: w) = if d = [] then none else (expZ w).map fun e => normZ neg d (0 - e) := by
     have e1 : decR normZ neg (d ++ 69 :: w) = if d = [] then none else (expZ w).map fun e => normZ neg d (0 - e) := by
      unfold decR
      rw [(ahead_at n69).1, (ahead_at n69).2]
      dsimp only
      cases hx : expZ w with
      | none => by_cases he : d = [] <;> simp [he]
      | some e =>
       dsimp only
       rw [(ahead_no n46).1, (ahead_no n46).2, Option.getD_none, List.append_nil]
       by_cases he : d = []
       ·rw [if_pos he, if_neg (fun q => q.1 he)]
       ·rw [if_neg he, if_pos ⟨he, hd, rfl⟩]
        rfl
     rcases bod_dec (normZ := normZ) (binD := binD) (d := d) (w := w) (c := 69) (by decide) (.inr (by decide)) neg with ⟨h1, h2⟩ | h1
     ·rw [h1]
      have hxx : expZ w = none := by
       cases hx : expZ w with
       | none => rfl
       | some e =>
        have := exp_last hx
        cases w with
        | nil => simp at h2
        | cons a t => rw [last_tail (by simp)] at h2; exact absurd h2 this
      rw [hxx]
      split <;> rfl
     ·rw [h1, e1]
    rw [hR]
    cases d with
    | nil =>
     rw [if_pos rfl, if_pos rfl]
     show (runP w .ded _).bind _ = none
     rw [run_ded]
     rfl
    | cons a t =>
     rw [if_neg (by simp), if_pos rfl, if_neg (by simp), fin_exp hw ⟨rfl, rfl, rfl⟩]
   ·by_cases h66 : c = 66 ∧ w = []
    ·obtain ⟨rfl, rfl⟩ := h66
     cases d with
     | nil => rfl
     | cons a t =>
      rw [if_neg (by simp), if_neg (by decide), if_pos ⟨rfl, rfl⟩]
      unfold bodR
      rw [if_pos ⟨by simp, List.getLast?_concat⟩]
      have e1 : ((a :: t) ++ [66]).dropLast = a :: t := List.dropLast_concat
      have e2 : ((a :: t) ++ [(66 : Int)]).length - 1 = (a :: t).length := by simp
      rw [e1, e2]
      show finP normZ binD _ = _
      rw [finP, if_pos rfl]
    ·have hor : w ≠ [] ∨ c ≠ 66 := by
      by_cases q : w = []
      ·exact .inr fun e => h66 ⟨e, q⟩
      ·exact .inl q
     rw [bod_bad hd hc h69 h46 hor]
     by_cases hs : (!d.isEmpty) = false
     ·rw [if_pos hs, run_ded]; rfl
     ·rw [if_neg hs, if_neg h69]
      by_cases hb : c = 66
      ·have hw0 : w ≠ [] := fun q => h66 ⟨hb, q⟩
       rw [if_pos ⟨hb, rfl⟩, run_bad (hw32 hw0) hw0]
       rfl
      ·rw [if_neg (fun q => hb q.1)]
       by_cases h32 : c = 32
       ·have hw0 : w ≠ [] := fun q => hu (by subst q h32; simp)
        rw [if_pos h32, run_bad (hw32 hw0) hw0]
        rfl
       ·rw [if_neg h32, run_ded]; rfl
theorem num_eq (hn : ∀ neg, normZ neg [] 0 = (false, [], 0)) (l : List Int) : numP normZ binD l = numR normZ binD l := by
 unfold numP numR
 rw [run_lead]
 obtain ⟨b, hb, e, hl⟩ := trR_spec (trL l)
 have hL : trL l ≠ [] → (trL l).head? ≠ some 32 := by
  intro _ q
  have := List.head?_dropWhile_not (p := (· == (32 : Int))) (l := l)
  unfold trL at q
  rw [q] at this
  simp at this
 rw [e, run_blank b hb]
 have hh : (trR (trL l)).head? ≠ some 32 := by
  intro q
  have : (trL l).head? = some 32 := by
   rw [e]
   cases h : trR (trL l) with
   | nil => rw [h] at q; cases q
   | cons a t => rw [h] at q; exact q
  exact hL (fun z => by rw [z] at this; cases this) this
 rw [← e]
 generalize trR (trL l) = u at *
 match u, hl, hh with
 | [], _, _ =>
  show finP normZ binD _ = _
  simp [finP, hn, sgnR]
 | c :: t, hl, hh =>
  have hc : c ≠ 32 := fun q => hh (by rw [q]; rfl)
  have ht : t.getLast? ≠ some 32 := by
   intro q
   cases t with
   | nil => cases q
   | cons a r => exact hl (by rw [List.getLast?_cons_cons]; exact q)
  rw [runP]
  by_cases h : c = 43 ∨ c = 45
  ·have e : stepP .beg {} c = (.bod false false, { neg := decide (c = 45) }) := by
    rw [stepP, if_neg hc, if_pos h]
   rw [e]
   show (runP t (.bod false false) { neg := decide (c = 45) }).bind _ = _
   rw [run_body ht]
   rcases h with rfl | rfl <;> rfl
  ·have e : stepP .beg {} c = stepP (.bod false false) {} c := by
    rw [stepP, if_neg hc, if_neg h]
    rfl
   rw [e]
   have := run_body (normZ := normZ) (binD := binD) hl false
   rw [runP] at this
   rw [this]
   unfold sgnR
   split
   ·rename_i q; cases q
   ·rename_i q; cases q; exact absurd (.inr rfl) h
   ·rename_i q; cases q; exact absurd (.inl rfl) h
   ·rfl
end
end Go.Cv
end
section
namespace Go.Cv
def trim0 (l : List Int) : List Int := l.dropWhile (· == 48)
def rep48 (n : Nat) : List Int := List.replicate n 48
def intP (ds : List Int) (sc q : Int) : List Int := if sc ≤ q then trim0 (ds ++ rep48 (q - sc).toNat) else trim0 (ds.take (max (ds.length - (sc - q)) 0).toNat)
def plcZ (ds : List Int) (sc q : Int) : List Int := if ds = [] then [] else ds ++ rep48 (q - sc).toNat
def plcR (ds : List Int) (sc q : Int) : List Int := (plcZ ds sc q).take ((plcZ ds sc q).length - max 0 (min ((plcZ ds sc q).length : Int) (sc - q))).toNat
theorem trim_rep : ∀ n, trim0 (rep48 n) = []
 | 0 => rfl
 | n + 1 => by
  show List.dropWhile _ (48 :: rep48 n) = []
  rw [List.dropWhile_cons_of_pos (p := fun x => x == 48) (by decide)]
  exact trim_rep n
theorem trim_head {l : List Int} (h : l.head? ≠ some 48) : trim0 l = l := by
 cases l with
 | nil => rfl
 | cons c r =>
  show List.dropWhile _ (c :: r) = c :: r
  rw [List.dropWhile_cons_of_neg (p := fun x => x == 48)]
  intro q
  exact h (congrArg some (eq_of_beq q))
theorem place_eq {ds : List Int} {sc q : Int} (h0 : ds = [] → sc = 0) (hh : ds.head? ≠ some 48) : intP ds sc q = plcR ds sc q := by
 unfold intP plcR plcZ
 by_cases he : ds = []
 ·subst he
  rw [if_pos rfl]
  split
  ·rw [List.nil_append, trim_rep, List.take_nil]
  ·rw [List.take_nil, List.take_nil]; rfl
 ·rw [if_neg he]
  split
  ·rename_i h
   have e : ((ds ++ rep48 (q - sc).toNat).length - max 0 (min ((ds ++ rep48 (q - sc).toNat).length : Int) (sc - q))).toNat = (ds ++ rep48 (q - sc).toNat).length := by omega
   rw [e, List.take_of_length_le (Nat.le_refl _), trim_head]
   cases ds with
   | nil => exact absurd rfl he
   | cons c r => exact hh
  ·rename_i h
   have e : (q - sc).toNat = 0 := by omega
   rw [e, show rep48 0 = [] from rfl, List.append_nil]
   have e2 : (max ((ds.length : Int) - (sc - q)) 0).toNat = ((ds.length : Int) - max 0 (min (ds.length : Int) (sc - q))).toNat := by omega
   rw [e2]
   generalize ((ds.length : Int) - max 0 (min (ds.length : Int) (sc - q))).toNat = k
   refine trim_head ?_
   cases ds with
   | nil => exact absurd rfl he
   | cons c r =>
    cases k with
    | zero => simp
    | succ k => exact hh
end Go.Cv
end
noncomputable section
namespace Go.Cx
open Go Go.Ab Go.Proofs Go.Shelf Go.Px
open Go.Fx (Ty Vl)
structure Nu where
 g : Bool
 d : ByteArray
 c : Int
instance : Enc Nu where
 enc t := .agg ⟨[.bool t.g, .string t.d, .int .i64 t.c]⟩
 dec | .agg ⟨[.bool g, .string d, .int .i64 c]⟩ => some ⟨g, d, c⟩ | _ => none
 dec_some := by
  intro v a h
  split at h
  ·cases h; rfl
  ·cases h
 plain_enc _ := rfl
theorem c154 : Callable Tryz.prog 154 := cal Tryz.func154 (by kernel_rfl) (by kernel_rfl)
theorem c131 : Callable Tryz.prog 131 := cal Tryz.func131 (by kernel_rfl) (by kernel_rfl)
theorem c55 : Callable Tryz.prog 55 := cal Tryz.func55 (by kernel_rfl) (by kernel_rfl)
theorem c30 : Callable Tryz.prog 30 := cal Tryz.func30 (by kernel_rfl) (by kernel_rfl)
theorem c29 : Callable Tryz.prog 29 := cal Tryz.func29 (by kernel_rfl) (by kernel_rfl)
def tlZ (l : List Int) (c : Int) : List Int := l.dropWhile (· == c)
def trZ (l : List Int) (c : Int) : List Int := (l.reverse.dropWhile (· == c)).reverse
noncomputable def s154 (s t : ByteArray) : Bool × Value := (oneB t && asc (bz t), .string (szO (tlZ (bz s) ((bz t).getD 0 0))))
theorem ok154 : PureOK Tryz.prog 154 (sp2 s154) := shelf2 c154 fun s t hc w _ => by
 simp only [s154, Bool.and_eq_true] at hc
 obtain ⟨c, h1, h2⟩ := oneB_spec hc.1
 have hlt : c.toNat < 128 := asc_spec hc.2 0 c (by rw [h1]; rfl)
 have e : Enc.enc t = Value.string ⟨#[c]⟩ := congrArg Value.string h1
 rw [e]
 refine (Any.strings_TrimLeft_one Tryz.lays161 s c hlt w).mono fun e w' ⟨h3, h4⟩ => ⟨?_, below_of_eq h4⟩
 rw [h3, sz_zl]
 simp only [s154, Lib.trimLeftB, szO_eq, tlZ]
 rw [dropW_zl (q := (· == (bz t).getD 0 0)) (fun b => by rw [← h2, Bool.eq_iff_iff, beq_iff_eq, beq_iff_eq, u8_eq]), bz_zl]
noncomputable def s131 (s t : ByteArray) : Bool × Value := (decide (s.size ≤ 9223372036854775807) && (oneB t && asc (bz t)), .string (szO (trZ (bz s) ((bz t).getD 0 0))))
theorem ok131 : PureOK Tryz.prog 131 (sp2 s131) := shelf2 c131 fun s t hc w _ => by
 simp only [s131, Bool.and_eq_true, decide_eq_true_eq] at hc
 obtain ⟨c, h1, h2⟩ := oneB_spec hc.2.1
 have hlt : c.toNat < 128 := asc_spec hc.2.2 0 c (by rw [h1]; rfl)
 have e : Enc.enc t = Value.string ⟨#[c]⟩ := congrArg Value.string h1
 rw [e]
 refine (Any.strings_TrimRight_one Tryz.lays162 s c hlt w hc.1).mono fun e w' ⟨h3, h4⟩ => ⟨?_, below_of_eq h4⟩
 rw [h3, sz_zl]
 simp only [s131, Lib.trimRightB, szO_eq, trZ]
 rw [zl, List.map_reverse]
 have hq : ∀ b : UInt8, (b == c) = ((b.toNat : Int) == (bz t).getD 0 0) := fun b => by rw [← h2, Bool.eq_iff_iff, beq_iff_eq, beq_iff_eq, u8_eq]
 have := dropW_zl (p := (· == c)) (q := (· == (bz t).getD 0 0)) hq s.data.toList.reverse
 rw [zl, zl, List.map_reverse] at this
 rw [this]
 rfl
noncomputable def s55 (s t : ByteArray) : Bool × Value := (decide (s.size ≤ 9223372036854775807) && (decide (t.size ≤ 1000) && asc (bz t)), .string (szO (trimZ (bz s) (bz t))))
theorem ok55 : PureOK Tryz.prog 55 (sp2 s55) := shelf2 c55 fun s t hc w _ => by
 simp only [s55, Bool.and_eq_true, decide_eq_true_eq] at hc
 obtain ⟨h1, h2, h3⟩ := hc
 refine (Any.strings_Trim_laid Tryz.lays160 info128' s t w (by omega) (by omega) (asc_spec h3)).mono fun e w' ⟨h5, h6⟩ => ⟨?_, h6⟩
 rw [h5, sz_zl, trim_zl]
 simp only [s55, szO_eq]
 rfl
def s30 (s : ByteArray) (n : Int) : Bool × Value := (decide (0 ≤ n ∧ n ≤ 1000 ∧ s.size ≤ 1000), .string (szO (repZ (bz s) n.toNat)))
theorem ok30 : PureOK Tryz.prog 30 (sp2 s30) := shelf2 c30 fun s n hc w _ => by
 obtain ⟨h1, h2, h3⟩ := of_decide_eq_true hc
 have e : Enc.enc n = Value.int .i64 (n.toNat : Int) := by
  show Value.int .i64 n = _
  rw [Int.toNat_of_nonneg h1]
 rw [e]
 have hm : s.size * n.toNat ≤ 1000 * 1000 := Nat.mul_le_mul h3 (by omega)
 refine (Any.strings_Repeat Tryz.lays105 Tryz.Builder_Extra_105 s n.toNat w (by omega) (by omega)).mono fun e w' ⟨h4, h5⟩ => ⟨?_, h5⟩
 rw [h4, sz_zl, rep_zl]
 simp only [s30, szO_eq]
 rfl
def itoZ (n : Int) : List Int := zl (Lib.itoa n)
def s29 (n : Int) : Bool × Value := (decide (-9223372036854775808 ≤ n ∧ n ≤ 9223372036854775807), .string (szO (itoZ n)))
theorem ok29 : PureOK Tryz.prog 29 (sp1 s29) := shelf1 c29 fun n hc w ht => by
 obtain ⟨h0, h1⟩ := of_decide_eq_true hc
 refine (Any.strconv_Itoa (ρ := Tryz.laysM171_ren) Tryz.laysM171 n h0 h1 w (tab_pow ht)).mono fun e w' ⟨h2, k, os, h3⟩ => ⟨?_, by rw [h3]; exact Lib.below_grow _ _ (Nat.le_refl _) _ _⟩
 rw [h2, sz_zl]
 simp only [s29, szO_eq]
 rfl
end Go.Cx
end
noncomputable section
set_option maxHeartbeats 3200000
namespace Go.Cx
open Go Go.Ab Go.Proofs Go.Shelf Go.Px Go.Cv
open Go.Fx (Ty Vl check Valid most base pw bnd Fit fits tv vv tup V0 T0 pw_zero pw_succ wrap_mul pw_w64 str0)
def G0 : Env := Env.nil
theorem ok_G0 : EnvOK Tryz.prog G0 := env_nil
theorem dropW0 (l : List Int) : List.drop (Int.toNat 0) l = l := rfl
def binG : List Int → Int → Int
 | [], a => a
 | c :: r, a => binG r (2 * a + (c - 48))
theorem w8s {c : Int} (h : 48 ≤ c ∧ c < 256) : IntKind.wrap .u8 (c - 48) = c - 48 := w8 (by omega)
theorem bit_cases {s : ByteArray} {i : Nat} (h : i < s.size) (hb : bitsZ (bz s) = true) : byteAt s i = 48 ∨ byteAt s i = 49 := by
 have hl : i < (bz s).length := by rw [bz_length]; exact h
 have e : byteAt s i = (bz s)[i] := by rw [byteAt_eq, List.getD_eq_getElem?_getD, List.getElem?_eq_getElem hl]; rfl
 rw [bitsZ, List.all_eq_true] at hb
 have := hb (bz s)[i] (List.getElem_mem hl)
 rw [e]
 simpa using this
theorem dig_cases {s : ByteArray} {i : Nat} (h : i < s.size) (hb : digsZ (bz s) = true) : 48 ≤ byteAt s i ∧ byteAt s i ≤ 57 := by
 have hl : i < (bz s).length := by rw [bz_length]; exact h
 have e : byteAt s i = (bz s)[i] := by rw [byteAt_eq, List.getD_eq_getElem?_getD, List.getElem?_eq_getElem hl]; rfl
 rw [digsZ, List.all_eq_true] at hb
 have := hb (bz s)[i] (List.getElem_mem hl)
 rw [e]
 simpa [dig] using this
theorem bz_slice1 {s : ByteArray} : bz (s.extract 1 s.size) = (bz s).drop 1 := by
 rw [bz_extract, List.take_of_length_le (by rw [bz_length]; omega)]
theorem bz_take {s : ByteArray} (n : Nat) : bz (s.extract 0 n) = (bz s).take n := by rw [bz_extract]; rfl
theorem ex_size (s : ByteArray) (i j : Nat) : (s.extract i j).size = min j s.size - i := ByteArray.size_extract
theorem empty_iff (s : ByteArray) : (s.toList == (ByteArray.mk #[]).toList) = decide (bz s = []) := by
 rw [toList_beq]
 rfl
def s152 (c : U8) : Bool × Value := (true, B (c.n == 32))
theorem fn152 : Fn1 Tryz.prog 152 Tryz.f152 := ⟨Tryz.func152, by kernel_rfl, by kernel_rfl, by kernel_rfl⟩
theorem v152 (c : U8) (R : Value → Prop) : bodyQ Tryz.prog G0 noL Tryz.f152 [Enc.enc c] (fun _ => none) 0 (fun v _ _ => R v) = ( R (B (U8.n c == 32))) := by kernel_rfl
theorem ok152 : PureOK Tryz.prog 152 (sp1 s152) := by
 refine qure1 ok_G0 hmix fn152 lokf_none (Nat.le_of_ble_eq_true (by kernel_rfl)) fun c hc => ?_
 rw [DoesQ, v152]
 try dsimp only [s152]
def s213 (c : U8) : Bool × Value := (true, B (dig c.n))
theorem fn213 : Fn1 Tryz.prog 213 Tryz.f213 := ⟨Tryz.func213, by kernel_rfl, by kernel_rfl, by kernel_rfl⟩
theorem v213 (c : U8) (R : Value → Prop) : bodyQ Tryz.prog G0 noL Tryz.f213 [Enc.enc c] (fun _ => none) 0 (fun v _ _ => R v) = ( bif decide (U8.n c ≥ 48) || true then R (B (decide (U8.n c ≥ 48) && decide (U8.n c ≤ 57))) else False) := by kernel_rfl
theorem ok213 : PureOK Tryz.prog 213 (sp1 s213) := by
 refine qure1 ok_G0 hmix fn213 lokf_none (Nat.le_of_ble_eq_true (by kernel_rfl)) fun c hc => ?_
 rw [DoesQ, v213]
 try dsimp only [s213]
 refine c_t (by simp) ?_
 show Value.bool _ = Value.bool _
 congr 1
 rw [Bool.eq_iff_iff]
 simp [dig]
def s192 (c : U8) : Bool × Value := (true, B (dig c.n))
theorem fn192 : Fn1 Tryz.prog 192 Tryz.f192 := ⟨Tryz.func192, by kernel_rfl, by kernel_rfl, by kernel_rfl⟩
theorem v192 (c : U8) (R : Value → Prop) : bodyQ Tryz.prog G0 noL Tryz.f192 [Enc.enc c] (fun _ => none) 0 (fun v _ _ => R v) = ( bif decide (U8.n c ≥ 48) || true then R (B (decide (U8.n c ≥ 48) && decide (U8.n c ≤ 57))) else False) := by kernel_rfl
theorem ok192 : PureOK Tryz.prog 192 (sp1 s192) := by
 refine qure1 ok_G0 hmix fn192 lokf_none (Nat.le_of_ble_eq_true (by kernel_rfl)) fun c hc => ?_
 rw [DoesQ, v192]
 try dsimp only [s192]
 refine c_t (by simp) ?_
 show Value.bool _ = Value.bool _
 congr 1
 rw [Bool.eq_iff_iff]
 simp [dig]
def s141 (k : Int) : Bool × Value := (true, I (most k))
theorem fn141 : Fn1 Tryz.prog 141 Tryz.f141 := ⟨Tryz.func141, by kernel_rfl, by kernel_rfl, by kernel_rfl⟩
theorem v141 (k : Int) (R : Value → Prop) : bodyQ Tryz.prog G0 noL Tryz.f141 [Enc.enc k] (fun _ => none) 0 (fun v _ _ => R v) = ( bif k == 1 then R (I 9) else R (I 31)) := by kernel_rfl
theorem ok141 : PureOK Tryz.prog 141 (sp1 s141) := by
 refine qure1 ok_G0 hmix fn141 lokf_none (Nat.le_of_ble_eq_true (by kernel_rfl)) fun k hc => ?_
 rw [DoesQ, v141]
 try dsimp only [s141]
 repeat' refine cond_intro (fun h => ?_) (fun h => ?_)
 all_goals grind [s141, most]
def s208 (k : Int) : Bool × Value := (true, I (base k))
theorem fn208 : Fn1 Tryz.prog 208 Tryz.f208 := ⟨Tryz.func208, by kernel_rfl, by kernel_rfl, by kernel_rfl⟩
theorem v208 (k : Int) (R : Value → Prop) : bodyQ Tryz.prog G0 noL Tryz.f208 [Enc.enc k] (fun _ => none) 0 (fun v _ _ => R v) = ( bif k == 1 then R (I 10) else R (I 2)) := by kernel_rfl
theorem ok208 : PureOK Tryz.prog 208 (sp1 s208) := by
 refine qure1 ok_G0 hmix fn208 lokf_none (Nat.le_of_ble_eq_true (by kernel_rfl)) fun k hc => ?_
 rw [DoesQ, v208]
 try dsimp only [s208]
 repeat' refine cond_intro (fun h => ?_) (fun h => ?_)
 all_goals grind [s208, base]
def G1 : Env := (((((G0.add 152 (sp1 s152)).add 213 (sp1 s213)).add 192 (sp1 s192)).add 141 (sp1 s141)).add 208 (sp1 s208))
theorem ok_G1 : EnvOK Tryz.prog G1 := env_add (env_add (env_add (env_add (env_add (ok_G0) ok152) ok213) ok192) ok141) ok208
def s66 (t : Ty) : Bool × Value := (true, I (check t))
theorem fn66 : Fn1 Tryz.prog 66 Tryz.f66 := ⟨Tryz.func66, by kernel_rfl, by kernel_rfl, by kernel_rfl⟩
theorem v66 (t : Ty) (R : Value → Prop) : bodyQ Tryz.prog G1 noL Tryz.f66 [Enc.enc t] (fun _ => none) 0 (fun v _ _ => R v) = ( bif bif !Ty.k t == 1 then !Ty.k t == 2 || (decide (Ty.p t < 1) || (decide (Ty.p t > most (Ty.k t)) || (decide (Ty.q t < 0) || (decide (Ty.q t > Ty.p t) || bif Ty.k t == 2 then Ty.q t != 0 || (Ty.v t || true) else Ty.v t || true)))) else decide (Ty.p t < 1) || (decide (Ty.p t > most (Ty.k t)) || (decide (Ty.q t < 0) || (decide (Ty.q t > Ty.p t) || bif Ty.k t == 2 then Ty.q t != 0 || (Ty.v t || true) else Ty.v t || true))) then bif bif !Ty.k t == 1 then !Ty.k t == 2 || (decide (Ty.p t < 1) || (decide (Ty.p t > most (Ty.k t)) || (decide (Ty.q t < 0) || (decide (Ty.q t > Ty.p t) || bif Ty.k t == 2 then Ty.q t != 0 || (Ty.v t || !ByteArray.toList (Ty.s t) == ByteArray.toList (ByteArray.mk #[])) else Ty.v t || !ByteArray.toList (Ty.s t) == ByteArray.toList (ByteArray.mk #[]))))) else decide (Ty.p t < 1) || (decide (Ty.p t > most (Ty.k t)) || (decide (Ty.q t < 0) || (decide (Ty.q t > Ty.p t) || bif Ty.k t == 2 then Ty.q t != 0 || (Ty.v t || !ByteArray.toList (Ty.s t) == ByteArray.toList (ByteArray.mk #[])) else Ty.v t || !ByteArray.toList (Ty.s t) == ByteArray.toList (ByteArray.mk #[])))) then R (I 5) else R (I 0) else False) := by kernel_rfl
theorem ok66 : PureOK Tryz.prog 66 (sp1 s66) := by
 refine qure1 ok_G1 hmix fn66 lokf_none (Nat.le_of_ble_eq_true (by kernel_rfl)) fun t hc => ?_
 rw [DoesQ, v66]
 try dsimp only [s66]
 repeat' refine cond_intro (fun h => ?_) (fun h => ?_)
 all_goals grind [s66, check, Valid, str0]
def s142 (t : Ty) : Bool × Value := (true, I (check t))
theorem fn142 : Fn1 Tryz.prog 142 Tryz.f142 := ⟨Tryz.func142, by kernel_rfl, by kernel_rfl, by kernel_rfl⟩
theorem v142 (t : Ty) (R : Value → Prop) : bodyQ Tryz.prog G1 noL Tryz.f142 [Enc.enc t] (fun _ => none) 0 (fun v _ _ => R v) = ( bif Ty.v t || true then bif Ty.v t || !ByteArray.toList (Ty.s t) == ByteArray.toList (ByteArray.mk #[]) then R (I 5) else bif bif Ty.k t == 1 then bif decide (Ty.p t ≥ 1) then bif decide (Ty.p t ≤ 9) then decide (Ty.q t ≥ 0) || true else true else true else true then bif Ty.k t == 1 && (decide (Ty.p t ≥ 1) && (decide (Ty.p t ≤ 9) && (decide (Ty.q t ≥ 0) && decide (Ty.q t ≤ Ty.p t)))) then R (I 0) else bif bif Ty.k t == 2 then bif decide (Ty.p t ≥ 1) then decide (Ty.p t ≤ 31) || true else true else true then bif Ty.k t == 2 && (decide (Ty.p t ≥ 1) && (decide (Ty.p t ≤ 31) && Ty.q t == 0)) then R (I 0) else R (I 5) else False else False else False) := by kernel_rfl
theorem ok142 : PureOK Tryz.prog 142 (sp1 s142) := by
 refine qure1 ok_G1 hmix fn142 lokf_none (Nat.le_of_ble_eq_true (by kernel_rfl)) fun t hc => ?_
 rw [DoesQ, v142]
 try dsimp only [s142]
 repeat' refine cond_intro (fun h => ?_) (fun h => ?_)
 all_goals grind [s142, check, Valid, str0, most]
def G2 : Env := ((G1.add 66 (sp1 s66)).add 142 (sp1 s142))
theorem ok_G2 : EnvOK Tryz.prog G2 := env_add (env_add (ok_G1) ok66) ok142
def s85 (t : Ty) : Bool × Value := (true, B (decide (Valid t)))
theorem fn85 : Fn1 Tryz.prog 85 Tryz.f85 := ⟨Tryz.func85, by kernel_rfl, by kernel_rfl, by kernel_rfl⟩
theorem v85 (t : Ty) (R : Value → Prop) : bodyQ Tryz.prog G2 noL Tryz.f85 [Enc.enc t] (fun _ => none) 0 (fun v _ _ => R v) = ( R (B (check t == 0))) := by kernel_rfl
theorem ok85 : PureOK Tryz.prog 85 (sp1 s85) := by
 refine qure1 ok_G2 hmix fn85 lokf_none (Nat.le_of_ble_eq_true (by kernel_rfl)) fun t hc => ?_
 rw [DoesQ, v85]
 try dsimp only [s85]
 show Value.bool _ = Value.bool _
 congr 1
 rw [check]
 split <;> simp_all
def s68 (t : Ty) : Bool × Value := (true, B (decide (Valid t)))
theorem fn68 : Fn1 Tryz.prog 68 Tryz.f68 := ⟨Tryz.func68, by kernel_rfl, by kernel_rfl, by kernel_rfl⟩
theorem v68 (t : Ty) (R : Value → Prop) : bodyQ Tryz.prog G2 noL Tryz.f68 [Enc.enc t] (fun _ => none) 0 (fun v _ _ => R v) = ( R (B (check t == 0))) := by kernel_rfl
theorem ok68 : PureOK Tryz.prog 68 (sp1 s68) := by
 refine qure1 ok_G2 hmix fn68 lokf_none (Nat.le_of_ble_eq_true (by kernel_rfl)) fun t hc => ?_
 rw [DoesQ, v68]
 try dsimp only [s68]
 show Value.bool _ = Value.bool _
 congr 1
 rw [check]
 split <;> simp_all
def V178_0 : Int × Int × Int × Int × Int → List Value := fun (b, k, r, x, i) => [I b, I k, I r, I x, I i]
def B178_0 : Int × Int × Int × Int × Int → List (Option Blk) := fun _ => []
def S178_0 : LSpec (Int × Int × Int × Int × Int) where
 live := [0, 1, 4, 5, 6]
 mid := []
 n := 40
 dec vs bs := match vs, bs with | [.int .i64 b, .int .i64 k, .int .i64 r, .int .i64 x, .int .i64 i], [] => some (b, k, r, x, i) | _, _ => none
 pre := fun (b, k, r, x, i) => decide (0 ≤ i ∧ i ≤ max k 0 ∧ k ≤ 1000) && x == IntKind.i64.wrap (pw b i)
 fin := fun (b, k, r, x, i) Z => Z (.exit 0) [I b, I k, I r, I (IntKind.i64.wrap (pw b k)), I (max k 0)] []
theorem r178_0 (b : Int) (k : Int) (r : Int) (x : Int) (i : Int) (jk : Tmps) (R : Exit → List Value → List (Option Blk) → Prop) : (codeQ Tryz.prog G2 noL Tryz.f178.ntmps (loopOf Tryz.f178 0) (tl S178_0.live (V178_0 (b, k, r, x, i)) jk) (ml S178_0.mid (B178_0 (b, k, r, x, i))) S178_0.n fun e t' m' _ => R e (List.map t' S178_0.live) (List.map m' S178_0.mid)) = ( bif decide (i < k) then R Exit.normal [I b, I k, I r, I (IntKind.wrap .i64 (x * b)), I (IntKind.wrap .i64 (i + 1))] [] else R (Exit.exit 0) [I b, I k, I r, I x, I i] []) := by kernel_rfl
theorem l178_0 : LOKf Tryz.prog (oneL 0 S178_0.h) Tryz.f178 := by
 refine lokf_one (h := S178_0.h) (by kernel_rfl) (loop_specQ ok_G2 hmix (by kernel_rfl) (lok_none _) S178_0 V178_0 B178_0 (fun (b, k, r, x, i) => (k - i).toNat) ?_ ?_ ?_)
 ·intro vs bs s h
  simp only [S178_0] at h
  split at h
  all_goals first | (cases h; exact ⟨rfl, rfl⟩) | cases h | (split at h <;> first | (rename_i hq; cases h; have hq := Nat.eq_of_beq_eq_true hq; subst hq; exact ⟨rfl, rfl⟩) | cases h)
 ·exact fun _ _ _ h => h
 ·intro ⟨b, k, r, x, i⟩ jk Z hp hf
  rw [r178_0]
  simp only [S178_0] at hp hf
  repeat' refine cond_intro (fun h => ?_) (fun h => ?_)
  ·have h := of_decide_eq_true h
   simp only [Bool.and_eq_true, decide_eq_true_eq, beq_iff_eq] at hp
   have hw : IntKind.i64.wrap (i + 1) = i + 1 := w64 (by omega)
   refine ⟨(b, k, r, IntKind.i64.wrap (x * b), i + 1), by rw [hw]; rfl, rfl, ?_, by simp only; omega, hf⟩
   simp only [S178_0, Bool.and_eq_true, decide_eq_true_eq, beq_iff_eq]
   exact ⟨by omega, by rw [hp.2, wrap_mul, pw_succ b hp.1.1]⟩
  ·have h := of_decide_eq_false h
   simp only [Bool.and_eq_true, decide_eq_true_eq, beq_iff_eq] at hp
   show Z _ _ _
   obtain rfl : i = max k 0 := by omega
   rw [hp.2]
   rcases Int.le_total k 0 with hk | hk
   ·rw [show max k 0 = 0 by omega] at hp ⊢
    rw [pw_zero b hk, ← pw_zero b (Int.le_refl 0)] at hf
    rw [show max k 0 = 0 by omega] at hf
    exact hf
   ·rw [show max k 0 = k by omega] at hf ⊢
    exact hf
def s178 (b : Int) (k : Int) : Bool × Value := (decide (k ≤ 1000), I (IntKind.i64.wrap (pw b k)))
theorem fn178 : Fn1 Tryz.prog 178 Tryz.f178 := ⟨Tryz.func178, by kernel_rfl, by kernel_rfl, by kernel_rfl⟩
theorem v178 (b : Int) (k : Int) (R : Value → Prop) : bodyQ Tryz.prog G2 (oneL 0 S178_0.h) Tryz.f178 [Enc.enc b, Enc.enc k] (fun _ => none) 0 (fun v _ _ => R v) = ( bif LSpec.pre S178_0 (b, k, 0, 1, 0) then ∀ (x : Tmps), R (I (IntKind.wrap .i64 (pw b k))) else False) := by kernel_rfl
theorem ok178 : PureOK Tryz.prog 178 (sp2 s178) := by
 refine qure2 ok_G2 hmix fn178 l178_0 (Nat.le_of_ble_eq_true (by kernel_rfl)) fun b k hc => ?_
 rw [DoesQ, v178]
 have hc : (k ≤ 1000) := of_decide_eq_true hc
 try dsimp only [s178]
 refine cond_intro (fun _ _ => rfl) (fun h => ?_)
 have h1 : IntKind.i64.wrap (pw b 0) = 1 := by rw [pw_zero b (Int.le_refl 0)]; rfl
 simp only [S178_0, h1, Bool.and_eq_false_iff, decide_eq_false_iff_not, beq_eq_false_iff_ne] at h
 omega
def G3 : Env := (((G2.add 85 (sp1 s85)).add 68 (sp1 s68)).add 178 (sp2 s178))
theorem ok_G3 : EnvOK Tryz.prog G3 := env_add (env_add (env_add (ok_G2) ok85) ok68) ok178
def s148 (t : Ty) : Bool × Value := (decide (t.p ≤ 1000), I (IntKind.i64.wrap (bnd t)))
theorem fn148 : Fn1 Tryz.prog 148 Tryz.f148 := ⟨Tryz.func148, by kernel_rfl, by kernel_rfl, by kernel_rfl⟩
theorem v148 (t : Ty) (R : Value → Prop) : bodyQ Tryz.prog G3 noL Tryz.f148 [Enc.enc t] (fun _ => none) 0 (fun v _ _ => R v) = ( bif decide (Ty.p t ≤ 1000) then R (I (IntKind.wrap .i64 (pw (base (Ty.k t)) (Ty.p t)))) else False) := by kernel_rfl
theorem ok148 : PureOK Tryz.prog 148 (sp1 s148) := by
 refine qure1 ok_G3 hmix fn148 lokf_none (Nat.le_of_ble_eq_true (by kernel_rfl)) fun t hc => ?_
 rw [DoesQ, v148]
 have hc : (t.p ≤ 1000) := of_decide_eq_true hc
 try dsimp only [s148]
 exact c_t (decide_eq_true hc) rfl
def V135_0 : ByteArray × Bool × Int → List Value := fun (s, b, i) => [S s, B b, I i]
def B135_0 : ByteArray × Bool × Int → List (Option Blk) := fun _ => []
def S135_0 : LSpec (ByteArray × Bool × Int) where
 live := [0, 2, 3]
 mid := []
 n := 60
 dec vs bs := match vs, bs with | [.string s, .bool b, .int .i64 i], [] => some (s, b, i) | _, _ => none
 pre := fun (s, b, i) => decide (0 ≤ i ∧ i ≤ s.size ∧ s.size ≤ 9223372036854775807)
 fin := fun (s, b, i) Z => (bif digsZ ((bz s).drop i.toNat) then Z (.exit 0) [S s, B b, I s.size] [] else (∀ i', Z .ret [S s, B false, I i'] []))
theorem r135_0 (s : ByteArray) (b : Bool) (i : Int) (jk : Tmps) (R : Exit → List Value → List (Option Blk) → Prop) : (codeQ Tryz.prog G3 noL Tryz.f135.ntmps (loopOf Tryz.f135 0) (tl S135_0.live (V135_0 (s, b, i)) jk) (ml S135_0.mid (B135_0 (s, b, i))) S135_0.n fun e t' m' _ => R e (List.map t' S135_0.live) (List.map m' S135_0.mid)) = ( bif decide (i < (↑(ByteArray.size s) : Int)) then bif decide (0 ≤ i ∧ i < (↑(ByteArray.size s) : Int)) then bif !dig (byteAt s (Int.toNat i)) then R Exit.ret [S s, B false, I i] [] else R Exit.normal [S s, B b, I (IntKind.wrap .i64 (i + 1))] [] else False else R (Exit.exit 0) [S s, B b, I i] []) := by kernel_rfl
theorem l135_0 : LOKf Tryz.prog (oneL 0 S135_0.h) Tryz.f135 := by
 refine lokf_one (h := S135_0.h) (by kernel_rfl) (loop_specQ ok_G3 hmix (by kernel_rfl) (lok_none _) S135_0 V135_0 B135_0 (fun (s, b, i) => (s.size - i).toNat) ?_ ?_ ?_)
 ·intro vs bs s h
  simp only [S135_0] at h
  split at h
  all_goals first | (cases h; exact ⟨rfl, rfl⟩) | cases h | (split at h <;> first | (rename_i hq; cases h; have hq := Nat.eq_of_beq_eq_true hq; subst hq; exact ⟨rfl, rfl⟩) | cases h)
 ·exact fun _ _ _ h => h
 ·intro ⟨s, b, i⟩ jk Z hp hf
  rw [r135_0]
  simp only [S135_0] at hp hf
  simp only [decide_eq_true_eq] at hp
  refine cond_intro (fun h => ?_) (fun h => ?_)
  ·have h := of_decide_eq_true h
   rw [bz_at hp.1 h, digsZ, List.all_cons] at hf
   refine c_t (decide_eq_true (by omega)) ?_
   refine cond_intro (fun hd => ?_) (fun hd => ?_)
   ·have e : dig (byteAt s i.toNat) = false := by simpa using hd
    rw [e] at hf
    exact hf i
   ·have e : dig (byteAt s i.toNat) = true := by simpa using hd
    rw [e, Bool.true_and] at hf
    rw [w64 (by omega)]
    exact ⟨(s, b, i + 1), rfl, rfl, by simp only [S135_0, decide_eq_true_eq]; omega, by simp only; omega, hf⟩
  ·have h := of_decide_eq_false h
   rw [bz_end (by omega)] at hf
   obtain rfl : i = s.size := by omega
   exact hf
def s135 (s : ByteArray) : Bool × Value := (decide (s.size ≤ 9223372036854775807), B (digsZ (bz s)))
theorem fn135 : Fn1 Tryz.prog 135 Tryz.f135 := ⟨Tryz.func135, by kernel_rfl, by kernel_rfl, by kernel_rfl⟩
theorem v135 (s : ByteArray) (R : Value → Prop) : bodyQ Tryz.prog G3 (oneL 0 S135_0.h) Tryz.f135 [Enc.enc s] (fun _ => none) 0 (fun v _ _ => R v) = ( bif LSpec.pre S135_0 (s, false, 0) then bif digsZ (List.drop (Int.toNat 0) (bz s)) then ∀ (x : Tmps), R (B true) else ∀ (i' : Int) (x : Tmps), R (B false) else False) := by kernel_rfl
theorem ok135 : PureOK Tryz.prog 135 (sp1 s135) := by
 refine qure1 ok_G3 hmix fn135 l135_0 (Nat.le_of_ble_eq_true (by kernel_rfl)) fun s hc => ?_
 rw [DoesQ, v135]
 have hc : (s.size ≤ 9223372036854775807) := of_decide_eq_true hc
 try dsimp only [s135]
 refine c_t (by simp only [S135_0, decide_eq_true_eq]; omega) ?_
 rw [dropW0]
 refine cond_intro (fun h => ?_) (fun h _ => ?_)
 ·rw [h]; exact fun _ => rfl
 ·rw [h]; exact fun _ => rfl
def V74_0 : ByteArray × Bool × Int → List Value := fun (s, b, i) => [S s, B b, I i]
def B74_0 : ByteArray × Bool × Int → List (Option Blk) := fun _ => []
def S74_0 : LSpec (ByteArray × Bool × Int) where
 live := [0, 2, 3]
 mid := []
 n := 60
 dec vs bs := match vs, bs with | [.string s, .bool b, .int .i64 i], [] => some (s, b, i) | _, _ => none
 pre := fun (s, b, i) => decide (0 ≤ i ∧ i ≤ s.size ∧ s.size ≤ 9223372036854775807)
 fin := fun (s, b, i) Z => (bif bitsZ ((bz s).drop i.toNat) then Z (.exit 0) [S s, B b, I s.size] [] else (∀ i', Z .ret [S s, B false, I i'] []))
theorem r74_0 (s : ByteArray) (b : Bool) (i : Int) (jk : Tmps) (R : Exit → List Value → List (Option Blk) → Prop) : (codeQ Tryz.prog G3 noL Tryz.f74.ntmps (loopOf Tryz.f74 0) (tl S74_0.live (V74_0 (s, b, i)) jk) (ml S74_0.mid (B74_0 (s, b, i))) S74_0.n fun e t' m' _ => R e (List.map t' S74_0.live) (List.map m' S74_0.mid)) = ( bif decide (i < (↑(ByteArray.size s) : Int)) then bif decide (0 ≤ i ∧ i < (↑(ByteArray.size s) : Int)) && bif byteAt s (Int.toNat i) != 48 then decide (0 ≤ i ∧ i < (↑(ByteArray.size s) : Int)) && true else true then bif byteAt s (Int.toNat i) != 48 && byteAt s (Int.toNat i) != 49 then R Exit.ret [S s, B false, I i] [] else R Exit.normal [S s, B b, I (IntKind.wrap .i64 (i + 1))] [] else False else R (Exit.exit 0) [S s, B b, I i] []) := by kernel_rfl
theorem l74_0 : LOKf Tryz.prog (oneL 0 S74_0.h) Tryz.f74 := by
 refine lokf_one (h := S74_0.h) (by kernel_rfl) (loop_specQ ok_G3 hmix (by kernel_rfl) (lok_none _) S74_0 V74_0 B74_0 (fun (s, b, i) => (s.size - i).toNat) ?_ ?_ ?_)
 ·intro vs bs s h
  simp only [S74_0] at h
  split at h
  all_goals first | (cases h; exact ⟨rfl, rfl⟩) | cases h | (split at h <;> first | (rename_i hq; cases h; have hq := Nat.eq_of_beq_eq_true hq; subst hq; exact ⟨rfl, rfl⟩) | cases h)
 ·exact fun _ _ _ h => h
 ·intro ⟨s, b, i⟩ jk Z hp hf
  rw [r74_0]
  simp only [S74_0] at hp hf
  simp only [decide_eq_true_eq] at hp
  refine cond_intro (fun h => ?_) (fun h => ?_)
  ·have h := of_decide_eq_true h
   rw [bz_at hp.1 h, bitsZ, List.all_cons] at hf
   refine c_t (by rw [decide_eq_true (show 0 ≤ i ∧ i < (s.size : Int) by omega)]; simp) ?_
   refine cond_intro (fun hd => ?_) (fun hd => ?_)
   ·have e : decide (byteAt s i.toNat = 48 ∨ byteAt s i.toNat = 49) = false := by rw [decide_eq_false_iff_not]; simp at hd; omega
    rw [e] at hf
    exact hf i
   ·have e : decide (byteAt s i.toNat = 48 ∨ byteAt s i.toNat = 49) = true := by rw [decide_eq_true_eq]; simp at hd; omega
    rw [e, Bool.true_and] at hf
    rw [w64 (by omega)]
    exact ⟨(s, b, i + 1), rfl, rfl, by simp only [S74_0, decide_eq_true_eq]; omega, by simp only; omega, hf⟩
  ·have h := of_decide_eq_false h
   rw [bz_end (by omega)] at hf
   obtain rfl : i = s.size := by omega
   exact hf
def s74 (s : ByteArray) : Bool × Value := (decide (s.size ≤ 9223372036854775807), B (bitsZ (bz s)))
theorem fn74 : Fn1 Tryz.prog 74 Tryz.f74 := ⟨Tryz.func74, by kernel_rfl, by kernel_rfl, by kernel_rfl⟩
theorem v74 (s : ByteArray) (R : Value → Prop) : bodyQ Tryz.prog G3 (oneL 0 S74_0.h) Tryz.f74 [Enc.enc s] (fun _ => none) 0 (fun v _ _ => R v) = ( bif LSpec.pre S74_0 (s, false, 0) then bif bitsZ (List.drop (Int.toNat 0) (bz s)) then ∀ (x : Tmps), R (B true) else ∀ (i' : Int) (x : Tmps), R (B false) else False) := by kernel_rfl
theorem ok74 : PureOK Tryz.prog 74 (sp1 s74) := by
 refine qure1 ok_G3 hmix fn74 l74_0 (Nat.le_of_ble_eq_true (by kernel_rfl)) fun s hc => ?_
 rw [DoesQ, v74]
 have hc : (s.size ≤ 9223372036854775807) := of_decide_eq_true hc
 try dsimp only [s74]
 refine c_t (by simp only [S74_0, decide_eq_true_eq]; omega) ?_
 rw [dropW0]
 refine cond_intro (fun h => ?_) (fun h _ => ?_)
 ·rw [h]; exact fun _ => rfl
 ·rw [h]; exact fun _ => rfl
def V156_0 : ByteArray × Int × Int × Int → List Value := fun (s, c, r, i) => [S s, C8 c, I r, I i]
def B156_0 : ByteArray × Int × Int × Int → List (Option Blk) := fun _ => []
def S156_0 : LSpec (ByteArray × Int × Int × Int) where
 live := [0, 1, 4, 5]
 mid := []
 n := 60
 dec vs bs := match vs, bs with | [.string s, .int .u8 c, .int .i64 r, .int .i64 i], [] => some (s, c, r, i) | _, _ => none
 pre := fun (s, c, r, i) => decide (0 ≤ i ∧ i ≤ s.size ∧ s.size ≤ 9223372036854775807)
 fin := fun (s, c, r, i) Z => (bif hasZ ((bz s).drop i.toNat) c then Z .ret [S s, C8 c, I (i + (Cv.ahead c ((bz s).drop i.toNat)).length), I (i + (Cv.ahead c ((bz s).drop i.toNat)).length)] [] else Z (.exit 0) [S s, C8 c, I r, I s.size] [])
theorem r156_0 (s : ByteArray) (c : Int) (r : Int) (i : Int) (jk : Tmps) (R : Exit → List Value → List (Option Blk) → Prop) : (codeQ Tryz.prog G3 noL Tryz.f156.ntmps (loopOf Tryz.f156 0) (tl S156_0.live (V156_0 (s, c, r, i)) jk) (ml S156_0.mid (B156_0 (s, c, r, i))) S156_0.n fun e t' m' _ => R e (List.map t' S156_0.live) (List.map m' S156_0.mid)) = ( bif decide (i < (↑(ByteArray.size s) : Int)) then bif decide (0 ≤ i ∧ i < (↑(ByteArray.size s) : Int)) then bif byteAt s (Int.toNat i) == c then R Exit.ret [S s, .int .u8 c, I i, I i] [] else R Exit.normal [S s, .int .u8 c, I r, I (IntKind.wrap .i64 (i + 1))] [] else False else R (Exit.exit 0) [S s, .int .u8 c, I r, I i] []) := by kernel_rfl
theorem l156_0 : LOKf Tryz.prog (oneL 0 S156_0.h) Tryz.f156 := by
 refine lokf_one (h := S156_0.h) (by kernel_rfl) (loop_specQ ok_G3 hmix (by kernel_rfl) (lok_none _) S156_0 V156_0 B156_0 (fun (s, c, r, i) => (s.size - i).toNat) ?_ ?_ ?_)
 ·intro vs bs s h
  simp only [S156_0] at h
  split at h
  all_goals first | (cases h; exact ⟨rfl, rfl⟩) | cases h | (split at h <;> first | (rename_i hq; cases h; have hq := Nat.eq_of_beq_eq_true hq; subst hq; exact ⟨rfl, rfl⟩) | cases h)
 ·exact fun _ _ _ h => h
 ·intro ⟨s, c, r, i⟩ jk Z hp hf
  rw [r156_0]
  simp only [S156_0] at hp hf
  simp only [decide_eq_true_eq] at hp
  refine cond_intro (fun h => ?_) (fun h => ?_)
  ·have h := of_decide_eq_true h
   rw [bz_at hp.1 h] at hf
   refine c_t (decide_eq_true (by omega)) ?_
   refine cond_intro (fun hd => ?_) (fun hd => ?_)
   ·have hd : byteAt s i.toNat = c := by simpa using hd
    have e1 : hasZ (byteAt s i.toNat :: (bz s).drop (i + 1).toNat) c = true := by simp [hasZ, hd]
    have e2 : Cv.ahead c (byteAt s i.toNat :: (bz s).drop (i + 1).toNat) = [] := by simp [Cv.ahead, hd]
    rw [e1, e2] at hf
    simp at hf
    exact hf
   ·have hd : ¬ byteAt s i.toNat = c := by simpa using hd
    have e1 : hasZ (byteAt s i.toNat :: (bz s).drop (i + 1).toNat) c = hasZ ((bz s).drop (i + 1).toNat) c := by simp [hasZ, hd]
    rw [e1, ahead_cons _ hd] at hf
    rw [w64 (by omega)]
    refine ⟨(s, c, r, i + 1), rfl, rfl, by simp only [S156_0, decide_eq_true_eq]; omega, by simp only; omega, ?_⟩
    have e3 : i + (byteAt s i.toNat :: Cv.ahead c ((bz s).drop (i + 1).toNat)).length = i + 1 + ((Cv.ahead c ((bz s).drop (i + 1).toNat)).length : Int) := by
     rw [List.length_cons]
     omega
    rw [e3] at hf
    exact hf
  ·have h := of_decide_eq_false h
   rw [bz_end (by omega)] at hf
   obtain rfl : i = s.size := by omega
   exact hf
def s156 (s : ByteArray) (c : U8) : Bool × Value := (decide (s.size ≤ 9223372036854775807), I (Cv.ahead c.n (bz s)).length)
theorem fn156 : Fn1 Tryz.prog 156 Tryz.f156 := ⟨Tryz.func156, by kernel_rfl, by kernel_rfl, by kernel_rfl⟩
theorem v156 (s : ByteArray) (c : U8) (R : Value → Prop) : bodyQ Tryz.prog G3 (oneL 0 S156_0.h) Tryz.f156 [Enc.enc s, Enc.enc c] (fun _ => none) 0 (fun v _ _ => R v) = ( bif LSpec.pre S156_0 (s, U8.n c, 0, 0) then bif hasZ (List.drop (Int.toNat 0) (bz s)) (U8.n c) then ∀ (x : Tmps), R (I (0 + (↑(List.length (Cv.ahead (U8.n c) (List.drop (Int.toNat 0) (bz s)))) : Int))) else ∀ (x : Tmps), R (I (↑(ByteArray.size s) : Int)) else False) := by kernel_rfl
theorem ok156 : PureOK Tryz.prog 156 (sp2 s156) := by
 refine qure2 ok_G3 hmix fn156 l156_0 (Nat.le_of_ble_eq_true (by kernel_rfl)) fun s c hc => ?_
 rw [DoesQ, v156]
 have hc : (s.size ≤ 9223372036854775807) := of_decide_eq_true hc
 try dsimp only [s156]
 refine c_t (by simp only [S156_0, decide_eq_true_eq]; omega) ?_
 rw [dropW0]
 refine cond_intro (fun h => ?_) (fun h => ?_)
 ·exact fun _ => by simp
 ·have : c.n ∉ bz s := fun q => by rw [hasZ_iff.2 q] at h; cases h
  rw [(ahead_no this).1, bz_length]
  exact fun _ => rfl
def V82_0 : ByteArray × Int × Int × Int → List Value := fun (s, r, n, i) => [S s, C64 r, C64 n, I i]
def B82_0 : ByteArray × Int × Int × Int → List (Option Blk) := fun _ => []
def S82_0 : LSpec (ByteArray × Int × Int × Int) where
 live := [0, 2, 3, 4]
 mid := []
 n := 60
 dec vs bs := match vs, bs with | [.string s, .int .u64 r, .int .u64 n, .int .i64 i], [] => some (s, r, n, i) | _, _ => none
 pre := fun (s, r, n, i) => decide (0 ≤ i ∧ i ≤ s.size ∧ s.size ≤ 64 ∧ 0 ≤ n ∧ n < 2 ^ i.toNat) && bitsZ (bz s)
 fin := fun (s, r, n, i) Z => Z (.exit 0) [S s, C64 r, C64 (binG ((bz s).drop i.toNat) n), I s.size] []
theorem r82_0 (s : ByteArray) (r : Int) (n : Int) (i : Int) (jk : Tmps) (R : Exit → List Value → List (Option Blk) → Prop) : (codeQ Tryz.prog G3 noL Tryz.f82.ntmps (loopOf Tryz.f82 0) (tl S82_0.live (V82_0 (s, r, n, i)) jk) (ml S82_0.mid (B82_0 (s, r, n, i))) S82_0.n fun e t' m' _ => R e (List.map t' S82_0.live) (List.map m' S82_0.mid)) = ( bif decide (i < (↑(ByteArray.size s) : Int)) then bif decide (0 ≤ i ∧ i < (↑(ByteArray.size s) : Int)) then R Exit.normal [S s, .int .u64 r, .int .u64 (IntKind.wrap .u64 (IntKind.wrap .u64 (n * 2) + IntKind.wrap .u64 (IntKind.wrap .u8 (byteAt s (Int.toNat i) - 48)))), I (IntKind.wrap .i64 (i + 1))] [] else False else R (Exit.exit 0) [S s, .int .u64 r, .int .u64 n, I i] []) := by kernel_rfl
theorem l82_0 : LOKf Tryz.prog (oneL 0 S82_0.h) Tryz.f82 := by
 refine lokf_one (h := S82_0.h) (by kernel_rfl) (loop_specQ ok_G3 hmix (by kernel_rfl) (lok_none _) S82_0 V82_0 B82_0 (fun (s, r, n, i) => (s.size - i).toNat) ?_ ?_ ?_)
 ·intro vs bs s h
  simp only [S82_0] at h
  split at h
  all_goals first | (cases h; exact ⟨rfl, rfl⟩) | cases h | (split at h <;> first | (rename_i hq; cases h; have hq := Nat.eq_of_beq_eq_true hq; subst hq; exact ⟨rfl, rfl⟩) | cases h)
 ·exact fun _ _ _ h => h
 ·intro ⟨s, r, n, i⟩ jk Z hp hf
  rw [r82_0]
  simp only [S82_0] at hp hf
  simp only [Bool.and_eq_true, decide_eq_true_eq] at hp
  obtain ⟨hp, hb⟩ := hp
  refine cond_intro (fun h => ?_) (fun h => ?_)
  ·have h := of_decide_eq_true h
   rw [bz_at hp.1 h, binG] at hf
   refine c_t (decide_eq_true (by omega)) ?_
   have hc := bit_cases (s := s) (i := i.toNat) (by omega) hb
   have h2 : (2 : Int) ^ (i + 1).toNat = 2 * 2 ^ i.toNat := by
    rw [show (i + 1).toNat = i.toNat + 1 by omega, Int.pow_succ, Int.mul_comm]
   have h3 : (2 : Int) ^ (i + 1).toNat ≤ 2 ^ 64 := by
    have : (2 : Nat) ^ (i + 1).toNat ≤ 2 ^ 64 := Nat.pow_le_pow_right (by omega) (by omega)
    have h' : ((2 ^ (i + 1).toNat : Nat) : Int) ≤ ((2 ^ 64 : Nat) : Int) := Int.ofNat_le.2 this
    simpa using h'
   have h4 : (2 : Int) ^ 64 = 18446744073709551616 := by decide
   rw [w64 (n := i + 1) (by omega), w8s (by omega), wu64 (n := byteAt s i.toNat - 48) (by omega), wu64 (n := n * 2) (by omega), wu64 (by omega), Int.mul_comm n 2]
   exact ⟨(s, r, 2 * n + (byteAt s i.toNat - 48), i + 1), rfl, rfl, by simp only [S82_0, Bool.and_eq_true, decide_eq_true_eq]; exact ⟨by omega, hb⟩, by simp only; omega, hf⟩
  ·have h := of_decide_eq_false h
   rw [bz_end (by omega)] at hf
   obtain rfl : i = s.size := by omega
   exact hf
def s82 (s : ByteArray) : Bool × Value := (bitsZ (bz s) && decide (s.size ≤ 64), C64 (binG (bz s) 0))
theorem fn82 : Fn1 Tryz.prog 82 Tryz.f82 := ⟨Tryz.func82, by kernel_rfl, by kernel_rfl, by kernel_rfl⟩
theorem v82 (s : ByteArray) (R : Value → Prop) : bodyQ Tryz.prog G3 (oneL 0 S82_0.h) Tryz.f82 [Enc.enc s] (fun _ => none) 0 (fun v _ _ => R v) = ( bif LSpec.pre S82_0 (s, 0, 0, 0) then ∀ (x : Tmps), R (.int .u64 (binG (List.drop (Int.toNat 0) (bz s)) 0)) else False) := by kernel_rfl
theorem ok82 : PureOK Tryz.prog 82 (sp1 s82) := by
 refine qure1 ok_G3 hmix fn82 l82_0 (Nat.le_of_ble_eq_true (by kernel_rfl)) fun s hc => ?_
 rw [DoesQ, v82]
 try dsimp only [s82]
 simp only [s82, Bool.and_eq_true, decide_eq_true_eq] at hc
 refine c_t (by simp only [S82_0, Bool.and_eq_true, decide_eq_true_eq]; exact ⟨by simp; omega, hc.1⟩) ?_
 exact fun _ => rfl
def G4 : Env := (((((G3.add 148 (sp1 s148)).add 135 (sp1 s135)).add 74 (sp1 s74)).add 156 (sp2 s156)).add 82 (sp1 s82))
theorem ok_G4 : EnvOK Tryz.prog G4 := env_add (env_add (env_add (env_add (env_add (ok_G3) ok148) ok135) ok74) ok156) ok82
end Go.Cx
end
noncomputable section
set_option maxHeartbeats 3200000
namespace Go.Cx
open Go Go.Ab Go.Proofs Go.Shelf Go.Px Go.Cv
open Go.Fx (Ty Vl check Valid most base pw bnd Fit fits tv vv tup V0 T0 pw_zero pw_succ wrap_mul pw_w64 str0)
def nz (l : List Int) : List Int := trZ (tlZ l 48) 48
def normZ (g : Bool) (l : List Int) (q : Int) : Num := if nz l = [] then (false, [], 0) else (g, nz l, q - ((tlZ l 48).length - (nz l).length))
def binD (l : List Int) : List Int := decZ (binG l 0)
def decG : List Int → Int → Int
 | [], a => a
 | c :: r, a => decG r (10 * a + (c - 48))
abbrev numV (x : Num) : Value := .agg ⟨[.bool x.1, .string (szO x.2.1), .int .i64 x.2.2]⟩
def num0 : Num := (false, [], 0)
def rdN (l : List Int) : Option Num := if 255 < l.length then none else numR normZ binD l
theorem tl_cons (c : Int) (l : List Int) : tlZ (c :: l) c = tlZ l c := by simp [tlZ]
theorem tl_ne {c d : Int} (h : d ≠ c) (l : List Int) : tlZ (d :: l) c = d :: l := by simp [tlZ, h]
theorem tr_snoc (c : Int) (l : List Int) : trZ (l ++ [c]) c = trZ l c := by simp [trZ]
theorem tr_ne {c d : Int} (h : d ≠ c) (l : List Int) : trZ (l ++ [d]) c = l ++ [d] := by simp [trZ, h]
theorem tr_len (l : List Int) (c : Int) : (trZ l c).length ≤ l.length := by
 rw [trZ, List.length_reverse]
 exact Nat.le_trans (List.dropWhile_sublist _).length_le (by rw [List.length_reverse]; omega)
theorem tl_len (l : List Int) (c : Int) : (tlZ l c).length ≤ l.length := (List.dropWhile_sublist _).length_le
theorem trL_eq (l : List Int) : trL l = tlZ l 32 := rfl
theorem trR_eq (l : List Int) : trR l = trZ l 32 := rfl
theorem bz_last {s : ByteArray} {n : Int} (h : (s.size : Int) = n + 1) (h0 : 0 ≤ n) : bz s = bz (s.extract 0 n.toNat) ++ [byteAt s n.toNat] := by
 have e := List.take_append_drop n.toNat (bz s)
 have d := bz_at (s := s) (i := n) h0 (by omega)
 rw [bz_end (s := s) (i := n + 1) (by omega)] at d
 rw [bz_take, ← d, e]
theorem bz_head {s : ByteArray} (h : 0 < s.size) : bz s = byteAt s 0 :: bz (s.extract 1 s.size) := by
 rw [bz_slice1]
 exact bz_at (s := s) (i := 0) (by omega) (by omega)
theorem bz_nil {s : ByteArray} (h : s.size = 0) : bz s = [] := List.length_eq_zero_iff.1 (by rw [bz_length]; exact h)
theorem sz_of {s : ByteArray} {l : List Int} (h : bz s = l) : s = szO l := by rw [szO_eq, ← h, sz_bz]
theorem szO_size (l : List Int) : (szO l).size = l.length := by rw [szO_eq, sz_size]
def V79_0 : ByteArray × ByteArray → List Value := fun (s, r) => [S s, S r]
def B79_0 : ByteArray × ByteArray → List (Option Blk) := fun _ => []
def S79_0 : LSpec (ByteArray × ByteArray) where
 live := [0, 2]
 mid := []
 n := 60
 dec vs bs := match vs, bs with | [.string s, .string r], [] => some (s, r) | _, _ => none
 pre := fun (s, r) => decide (s.size ≤ 9223372036854775807)
 fin := fun (s, r) Z => ∀ s' : ByteArray, bz s' = tlZ (bz s) 32 → Z (.exit 0) [S s', S r] []
theorem r79_0 (s : ByteArray) (r : ByteArray) (jk : Tmps) (R : Exit → List Value → List (Option Blk) → Prop) : (codeQ Tryz.prog G4 noL Tryz.f79.ntmps (loopOf Tryz.f79 0) (tl S79_0.live (V79_0 (s, r)) jk) (ml S79_0.mid (B79_0 (s, r))) S79_0.n fun e t' m' _ => R e (List.map t' S79_0.live) (List.map m' S79_0.mid)) = ( bif bif decide ((↑(ByteArray.size s) : Int) > 0) then decide ((0 : Int) ≤ 0 ∧ 0 < (↑(ByteArray.size s) : Int)) && true else true then bif decide ((↑(ByteArray.size s) : Int) > 0) && byteAt s (Int.toNat 0) == 32 then bif decide ((0 : Int) ≤ 1 ∧ 1 ≤ (↑(ByteArray.size s) : Int) ∧ (↑(ByteArray.size s) : Int) ≤ (↑(ByteArray.size s) : Int)) then R Exit.normal [S (ByteArray.extract s (Int.toNat 1) (ByteArray.size s)), S r] [] else False else R (Exit.exit 0) [S s, S r] [] else False) := by kernel_rfl
theorem l79_0 : ∀ t m n K, S79_0.h t m n K → Ab.Sem Tryz.prog Tryz.f79.ntmps (.loop (loopOf Tryz.f79 0)) t m n K := by
 refine loop_specQ ok_G4 hmix (by kernel_rfl) (lok_none _) S79_0 V79_0 B79_0 (fun (s, r) => s.size) ?_ ?_ ?_
 ·intro vs bs s h
  simp only [S79_0] at h
  split at h
  all_goals first | (cases h; exact ⟨rfl, rfl⟩) | cases h | (split at h <;> first | (rename_i hq; cases h; have hq := Nat.eq_of_beq_eq_true hq; subst hq; exact ⟨rfl, rfl⟩) | cases h)
 ·exact fun _ _ _ h => h
 ·intro ⟨s, r⟩ jk Z hp hf
  rw [r79_0]
  simp only [S79_0] at hp hf
  have hp : s.size ≤ 9223372036854775807 := of_decide_eq_true hp
  have hx : (decide ((s.size : Int) > 0)) = true → 0 < s.size := fun h => by have := of_decide_eq_true h; omega
  refine c_t (by rcases Nat.eq_zero_or_pos s.size with q | q <;> simp [q]) (cond_intro (fun h => ?_) (fun h => ?_))
  ·simp only [Bool.and_eq_true] at h
   have h0 := hx h.1
   have hc : byteAt s 0 = 32 := by simpa using h.2
   rw [bz_head h0, hc, tl_cons] at hf
   refine c_t (by simp; try omega) ?_
   exact ⟨(s.extract 1 s.size, r), rfl, rfl, by simp only [S79_0, decide_eq_true_eq, ex_size]; omega, by simp only [ex_size]; omega, hf⟩
  ·refine hf s ?_
   rcases Nat.eq_zero_or_pos s.size with h0 | h0
   ·rw [bz_nil h0]; rfl
   ·rw [bz_head h0]
    refine (tl_ne (fun q => ?_) _).symm
    simp [q, h0] at h
def V79_2 : ByteArray × ByteArray → List Value := fun (s, r) => [S s, S r]
def B79_2 : ByteArray × ByteArray → List (Option Blk) := fun _ => []
def S79_2 : LSpec (ByteArray × ByteArray) where
 live := [0, 2]
 mid := []
 n := 60
 dec vs bs := match vs, bs with | [.string s, .string r], [] => some (s, r) | _, _ => none
 pre := fun (s, r) => decide (s.size ≤ 9223372036854775807)
 fin := fun (s, r) Z => ∀ s' : ByteArray, bz s' = trZ (bz s) 32 → Z (.exit 2) [S s', S r] []
theorem r79_2 (s : ByteArray) (r : ByteArray) (jk : Tmps) (R : Exit → List Value → List (Option Blk) → Prop) : (codeQ Tryz.prog G4 noL Tryz.f79.ntmps (loopOf Tryz.f79 2) (tl S79_2.live (V79_2 (s, r)) jk) (ml S79_2.mid (B79_2 (s, r))) S79_2.n fun e t' m' _ => R e (List.map t' S79_2.live) (List.map m' S79_2.mid)) = ( bif bif decide ((↑(ByteArray.size s) : Int) > 0) then decide (0 ≤ IntKind.wrap .i64 ((↑(ByteArray.size s) : Int) - 1) ∧ IntKind.wrap .i64 ((↑(ByteArray.size s) : Int) - 1) < (↑(ByteArray.size s) : Int)) && true else true then bif decide ((↑(ByteArray.size s) : Int) > 0) && byteAt s (Int.toNat (IntKind.wrap .i64 ((↑(ByteArray.size s) : Int) - 1))) == 32 then bif decide ((0 : Int) ≤ 0 ∧ 0 ≤ IntKind.wrap .i64 ((↑(ByteArray.size s) : Int) - 1) ∧ IntKind.wrap .i64 ((↑(ByteArray.size s) : Int) - 1) ≤ (↑(ByteArray.size s) : Int)) then R Exit.normal [S (ByteArray.extract s 0 (Int.toNat (IntKind.wrap .i64 ((↑(ByteArray.size s) : Int) - 1)))), S r] [] else False else R (Exit.exit 2) [S s, S r] [] else False) := by kernel_rfl
theorem l79_2 : ∀ t m n K, S79_2.h t m n K → Ab.Sem Tryz.prog Tryz.f79.ntmps (.loop (loopOf Tryz.f79 2)) t m n K := by
 refine loop_specQ ok_G4 hmix (by kernel_rfl) (lok_none _) S79_2 V79_2 B79_2 (fun (s, r) => s.size) ?_ ?_ ?_
 ·intro vs bs s h
  simp only [S79_2] at h
  split at h
  all_goals first | (cases h; exact ⟨rfl, rfl⟩) | cases h | (split at h <;> first | (rename_i hq; cases h; have hq := Nat.eq_of_beq_eq_true hq; subst hq; exact ⟨rfl, rfl⟩) | cases h)
 ·exact fun _ _ _ h => h
 ·intro ⟨s, r⟩ jk Z hp hf
  rw [r79_2]
  simp only [S79_2] at hp hf
  have hp : s.size ≤ 9223372036854775807 := of_decide_eq_true hp
  have hl : ∀ h : 0 < s.size, IntKind.i64.wrap ((s.size : Int) - 1) = ((s.size - 1 : Nat) : Int) := fun h => by rw [w64 (by omega)]; omega
  refine c_t (by
    rcases Nat.eq_zero_or_pos s.size with q | q
    ·simp [q]
    ·rw [hl q]
     simp
     try omega) (cond_intro (fun h => ?_) (fun h => ?_))
  ·simp only [Bool.and_eq_true] at h
   have h0 : 0 < s.size := by have := of_decide_eq_true h.1; omega
   rw [hl h0] at h ⊢
   have hb := bz_last (s := s) (n := ((s.size - 1 : Nat) : Int)) (by omega) (by omega)
   rw [Int.toNat_natCast] at hb
   have hc : byteAt s (s.size - 1) = 32 := by simpa using h.2
   rw [hc] at hb
   have hb' := hb
   rw [hb, tr_snoc] at hf
   refine c_t (by simp; try omega) ?_
   exact ⟨(s.extract 0 (s.size - 1), r), rfl, rfl, by simp only [S79_2, decide_eq_true_eq, ex_size]; omega, by simp only [ex_size]; omega, hf⟩
  ·have hz : bz s = trZ (bz s) 32 := by
    rcases Nat.eq_zero_or_pos s.size with h0 | h0
    ·rw [bz_nil h0]; rfl
    ·have hb := bz_last (s := s) (n := ((s.size - 1 : Nat) : Int)) (by omega) (by omega)
     rw [Int.toNat_natCast] at hb
     rw [hb]
     refine (tr_ne (fun q => ?_) _).symm
     rw [hl h0] at h
     simp [q, h0] at h
   exact hf s hz
theorem lok79 : LOKf Tryz.prog (twoL 0 S79_0.h 2 S79_2.h) Tryz.f79 := lokf_two (by kernel_rfl) (by kernel_rfl) l79_0 l79_2
def s79 (s : ByteArray) : Bool × Value := (decide (s.size ≤ 9223372036854775807), S (szO (trZ (tlZ (bz s) 32) 32)))
theorem fn79 : Fn1 Tryz.prog 79 Tryz.f79 := ⟨Tryz.func79, by kernel_rfl, by kernel_rfl, by kernel_rfl⟩
theorem v79 (s : ByteArray) (R : Value → Prop) : bodyQ Tryz.prog G4 (twoL 0 S79_0.h 2 S79_2.h) Tryz.f79 [Enc.enc s] (fun _ => none) 0 (fun v _ _ => R v) = ( bif LSpec.pre S79_0 (s, ByteArray.mk #[]) then ∀ (s' : ByteArray), bz s' = tlZ (bz s) 32 → ∀ (x : Tmps), bif LSpec.pre S79_2 (s', ByteArray.mk #[]) then ∀ (s'_1 : ByteArray), bz s'_1 = trZ (bz s') 32 → ∀ (x : Tmps), R (S s'_1) else False else False) := by kernel_rfl
theorem ok79 : PureOK Tryz.prog 79 (sp1 s79) := by
 refine qure1 ok_G4 hmix fn79 lok79 (Nat.le_of_ble_eq_true (by kernel_rfl)) fun s hc => ?_
 rw [DoesQ, v79]
 have hc : (s.size ≤ 9223372036854775807) := of_decide_eq_true hc
 try dsimp only [s79]
 refine c_t (decide_eq_true hc) fun s1 h1 _ => ?_
 have hs : s1.size ≤ s.size := by rw [← bz_length, ← bz_length, h1]; exact tl_len _ _
 refine c_t (decide_eq_true (by omega)) fun s2 h2 _ => ?_
 rw [h1] at h2
 rw [sz_of h2]
def V80_0 : Bool × ByteArray × Int × ByteArray × Bool × Int → List Value := fun (g, s, q, x, xb, xi) => [B g, S s, I q, .pointer (some ⟨0, 0, some 0⟩)]
def B80_0 : Bool × ByteArray × Int × ByteArray × Bool × Int → List (Option Blk) := fun (g, s, q, x, xb, xi) => [some ⟨[B xb, S x, I xi], 33, true⟩]
def S80_0 : LSpec (Bool × ByteArray × Int × ByteArray × Bool × Int) where
 live := [0, 1, 2, 6]
 mid := [0]
 n := 60
 dec vs bs := match vs, bs with | [.bool g, .string s, .int .i64 q, .pointer (some ⟨0, 0, some 0⟩)], [some ⟨[.bool xb, .string x, .int .i64 xi], 33, true⟩] => some (g, s, q, x, xb, xi) | _, _ => none
 pre := fun (g, s, q, x, xb, xi) => decide (s.size ≤ 9223372036854775807)
 fin := fun (g, s, q, x, xb, xi) Z => ∀ s' : ByteArray, bz s' = tlZ (bz s) 48 → Z (.exit 0) [B g, S s', I q, .pointer (some ⟨0, 0, some 0⟩)] [some ⟨[B xb, S x, I xi], 33, true⟩]
theorem r80_0 (g : Bool) (s : ByteArray) (q : Int) (x : ByteArray) (xb : Bool) (xi : Int) (jk : Tmps) (R : Exit → List Value → List (Option Blk) → Prop) : (codeQ Tryz.prog G4 noL Tryz.f80.ntmps (loopOf Tryz.f80 0) (tl S80_0.live (V80_0 (g, s, q, x, xb, xi)) jk) (ml S80_0.mid (B80_0 (g, s, q, x, xb, xi))) S80_0.n fun e t' m' _ => R e (List.map t' S80_0.live) (List.map m' S80_0.mid)) = ( bif bif decide ((↑(ByteArray.size s) : Int) > 0) then decide ((0 : Int) ≤ 0 ∧ 0 < (↑(ByteArray.size s) : Int)) && true else true then bif decide ((↑(ByteArray.size s) : Int) > 0) && byteAt s (Int.toNat 0) == 48 then bif decide ((0 : Int) ≤ 1 ∧ 1 ≤ (↑(ByteArray.size s) : Int) ∧ (↑(ByteArray.size s) : Int) ≤ (↑(ByteArray.size s) : Int)) then R Exit.normal [B g, S (ByteArray.extract s (Int.toNat 1) (ByteArray.size s)), I q, .pointer (some (.mk 0 0 (some 0)))] [some (.mk [B xb, S x, I xi] 33 true)] else False else R (Exit.exit 0) [B g, S s, I q, .pointer (some (.mk 0 0 (some 0)))] [some (.mk [B xb, S x, I xi] 33 true)] else False) := by kernel_rfl
theorem l80_0 : ∀ t m n K, S80_0.h t m n K → Ab.Sem Tryz.prog Tryz.f80.ntmps (.loop (loopOf Tryz.f80 0)) t m n K := by
 refine loop_specQ ok_G4 hmix (by kernel_rfl) (lok_none _) S80_0 V80_0 B80_0 (fun (g, s, q, x, xb, xi) => s.size) ?_ ?_ ?_
 ·intro vs bs s h
  simp only [S80_0] at h
  split at h
  all_goals first | (cases h; exact ⟨rfl, rfl⟩) | cases h | (split at h <;> first | (rename_i hq; cases h; have hq := Nat.eq_of_beq_eq_true hq; subst hq; exact ⟨rfl, rfl⟩) | cases h)
 ·exact fun _ _ _ h => h
 ·intro ⟨g, s, q, x, xb, xi⟩ jk Z hp hf
  rw [r80_0]
  simp only [S80_0] at hp hf
  have hp : s.size ≤ 9223372036854775807 := of_decide_eq_true hp
  have hx : (decide ((s.size : Int) > 0)) = true → 0 < s.size := fun h => by have := of_decide_eq_true h; omega
  refine c_t (by rcases Nat.eq_zero_or_pos s.size with q | q <;> simp [q]) (cond_intro (fun h => ?_) (fun h => ?_))
  ·simp only [Bool.and_eq_true] at h
   have h0 := hx h.1
   have hc : byteAt s 0 = 48 := by simpa using h.2
   rw [bz_head h0, hc, tl_cons] at hf
   refine c_t (by simp; try omega) ?_
   exact ⟨(g, s.extract 1 s.size, q, x, xb, xi), rfl, rfl, by simp only [S80_0, decide_eq_true_eq, ex_size]; omega, by simp only [ex_size]; omega, hf⟩
  ·refine hf s ?_
   rcases Nat.eq_zero_or_pos s.size with h0 | h0
   ·rw [bz_nil h0]; rfl
   ·rw [bz_head h0]
    refine (tl_ne (fun q => ?_) _).symm
    simp [q, h0] at h
def V80_2 : Bool × ByteArray × Int × ByteArray × Bool × Int → List Value := fun (g, s, q, x, xb, xi) => [B g, S s, I q, .pointer (some ⟨0, 0, some 0⟩)]
def B80_2 : Bool × ByteArray × Int × ByteArray × Bool × Int → List (Option Blk) := fun (g, s, q, x, xb, xi) => [some ⟨[B xb, S x, I xi], 33, true⟩]
def S80_2 : LSpec (Bool × ByteArray × Int × ByteArray × Bool × Int) where
 live := [0, 1, 2, 6]
 mid := [0]
 n := 60
 dec vs bs := match vs, bs with | [.bool g, .string s, .int .i64 q, .pointer (some ⟨0, 0, some 0⟩)], [some ⟨[.bool xb, .string x, .int .i64 xi], 33, true⟩] => some (g, s, q, x, xb, xi) | _, _ => none
 pre := fun (g, s, q, x, xb, xi) => decide (s.size ≤ 1000000 ∧ -2000000 + s.size ≤ q ∧ q ≤ 2000000)
 fin := fun (g, s, q, x, xb, xi) Z => ∀ s' : ByteArray, bz s' = trZ (bz s) 48 → Z (.exit 2) [B g, S s', I (q - ((s.size : Int) - s'.size)), .pointer (some ⟨0, 0, some 0⟩)] [some ⟨[B xb, S x, I xi], 33, true⟩]
theorem r80_2 (g : Bool) (s : ByteArray) (q : Int) (x : ByteArray) (xb : Bool) (xi : Int) (jk : Tmps) (R : Exit → List Value → List (Option Blk) → Prop) : (codeQ Tryz.prog G4 noL Tryz.f80.ntmps (loopOf Tryz.f80 2) (tl S80_2.live (V80_2 (g, s, q, x, xb, xi)) jk) (ml S80_2.mid (B80_2 (g, s, q, x, xb, xi))) S80_2.n fun e t' m' _ => R e (List.map t' S80_2.live) (List.map m' S80_2.mid)) = ( bif bif decide ((↑(ByteArray.size s) : Int) > 0) then decide (0 ≤ IntKind.wrap .i64 ((↑(ByteArray.size s) : Int) - 1) ∧ IntKind.wrap .i64 ((↑(ByteArray.size s) : Int) - 1) < (↑(ByteArray.size s) : Int)) && true else true then bif decide ((↑(ByteArray.size s) : Int) > 0) && byteAt s (Int.toNat (IntKind.wrap .i64 ((↑(ByteArray.size s) : Int) - 1))) == 48 then bif decide ((0 : Int) ≤ 0 ∧ 0 ≤ IntKind.wrap .i64 ((↑(ByteArray.size s) : Int) - 1) ∧ IntKind.wrap .i64 ((↑(ByteArray.size s) : Int) - 1) ≤ (↑(ByteArray.size s) : Int)) then R Exit.normal [B g, S (ByteArray.extract s 0 (Int.toNat (IntKind.wrap .i64 ((↑(ByteArray.size s) : Int) - 1)))), I (IntKind.wrap .i64 (q - 1)), .pointer (some (.mk 0 0 (some 0)))] [some (.mk [B xb, S x, I xi] 33 true)] else False else R (Exit.exit 2) [B g, S s, I q, .pointer (some (.mk 0 0 (some 0)))] [some (.mk [B xb, S x, I xi] 33 true)] else False) := by kernel_rfl
theorem l80_2 : ∀ t m n K, S80_2.h t m n K → Ab.Sem Tryz.prog Tryz.f80.ntmps (.loop (loopOf Tryz.f80 2)) t m n K := by
 refine loop_specQ ok_G4 hmix (by kernel_rfl) (lok_none _) S80_2 V80_2 B80_2 (fun (g, s, q, x, xb, xi) => s.size) ?_ ?_ ?_
 ·intro vs bs s h
  simp only [S80_2] at h
  split at h
  all_goals first | (cases h; exact ⟨rfl, rfl⟩) | cases h | (split at h <;> first | (rename_i hq; cases h; have hq := Nat.eq_of_beq_eq_true hq; subst hq; exact ⟨rfl, rfl⟩) | cases h)
 ·exact fun _ _ _ h => h
 ·intro ⟨g, s, q, x, xb, xi⟩ jk Z hp hf
  rw [r80_2]
  simp only [S80_2] at hp hf
  have hp : s.size ≤ 1000000 ∧ -2000000 + s.size ≤ q ∧ q ≤ 2000000 := of_decide_eq_true hp
  have hl : ∀ h : 0 < s.size, IntKind.i64.wrap ((s.size : Int) - 1) = ((s.size - 1 : Nat) : Int) := fun h => by rw [w64 (by omega)]; omega
  refine c_t (by
    rcases Nat.eq_zero_or_pos s.size with q | q
    ·simp [q]
    ·rw [hl q]
     simp
     try omega) (cond_intro (fun h => ?_) (fun h => ?_))
  ·simp only [Bool.and_eq_true] at h
   have h0 : 0 < s.size := by have := of_decide_eq_true h.1; omega
   rw [hl h0] at h ⊢
   have hb := bz_last (s := s) (n := ((s.size - 1 : Nat) : Int)) (by omega) (by omega)
   rw [Int.toNat_natCast] at hb
   have hc : byteAt s (s.size - 1) = 48 := by simpa using h.2
   rw [hc] at hb
   have hb' := hb
   rw [hb, tr_snoc] at hf
   refine c_t (by simp; try omega) ?_
   rw [w64 (by omega)]
   refine ⟨(g, s.extract 0 (s.size - 1), q - 1, x, xb, xi), rfl, rfl, by simp only [S80_2, decide_eq_true_eq, ex_size]; omega, by simp only [ex_size]; omega, fun s' e => ?_⟩
   have e2 : q - 1 - (((s.extract 0 (s.size - 1)).size : Int) - s'.size) = q - ((s.size : Int) - s'.size) := by rw [ex_size]; omega
   rw [e2]
   exact hf s' e
  ·have hz : bz s = trZ (bz s) 48 := by
    rcases Nat.eq_zero_or_pos s.size with h0 | h0
    ·rw [bz_nil h0]; rfl
    ·have hb := bz_last (s := s) (n := ((s.size - 1 : Nat) : Int)) (by omega) (by omega)
     rw [Int.toNat_natCast] at hb
     rw [hb]
     refine (tr_ne (fun q => ?_) _).symm
     rw [hl h0] at h
     simp [q, h0] at h
   have e := hf s hz
   rw [show q - ((s.size : Int) - s.size) = q by omega] at e
   exact e
theorem lok80 : LOKf Tryz.prog (twoL 0 S80_0.h 2 S80_2.h) Tryz.f80 := lokf_two (by kernel_rfl) (by kernel_rfl) l80_0 l80_2
def s80 (g : Bool) (s : ByteArray) (q : Int) : Bool × Value := (decide (s.size ≤ 1000 ∧ -100000 ≤ q ∧ q ≤ 100000), numV (normZ g (bz s) q))
theorem fn80 : Fn1 Tryz.prog 80 Tryz.f80 := ⟨Tryz.func80, by kernel_rfl, by kernel_rfl, by kernel_rfl⟩
theorem v80 (g : Bool) (s : ByteArray) (q : Int) (R : Value → Prop) : bodyQ Tryz.prog G4 (twoL 0 S80_0.h 2 S80_2.h) Tryz.f80 [Enc.enc g, Enc.enc s, Enc.enc q] (fun _ => none) 0 (fun v _ _ => R v) = ( bif LSpec.pre S80_0 (g, s, q, ByteArray.mk #[], false, 0) then ∀ (s' : ByteArray), bz s' = tlZ (bz s) 48 → ∀ (x : Tmps), bif LSpec.pre S80_2 (g, s', q, ByteArray.mk #[], false, 0) then ∀ (s'_1 : ByteArray), bz s'_1 = trZ (bz s') 48 → ∀ (x : Tmps), bif ByteArray.toList s'_1 == ByteArray.toList (ByteArray.mk #[]) then R (.agg (.mk [B false, S (ByteArray.mk #[]), I 0])) else R (.agg (.mk [B g, S s'_1, I (q - ((↑(ByteArray.size s') : Int) - (↑(ByteArray.size s'_1) : Int)))])) else False else False) := by kernel_rfl
theorem ok80 : PureOK Tryz.prog 80 (sp3 s80) := by
 refine qure3 ok_G4 hmix fn80 lok80 (Nat.le_of_ble_eq_true (by kernel_rfl)) fun g s q hc => ?_
 rw [DoesQ, v80]
 have hc : (s.size ≤ 1000 ∧ -100000 ≤ q ∧ q ≤ 100000) := of_decide_eq_true hc
 try dsimp only [s80]
 refine c_t (decide_eq_true (by omega)) fun s1 h1 _ => ?_
 have hs : s1.size ≤ s.size := by rw [← bz_length, ← bz_length, h1]; exact tl_len _ _
 refine c_t (decide_eq_true (by omega)) fun s2 h2 _ => ?_
 rw [h1] at h2
 have l1 : (s1.size : Int) = (tlZ (bz s) 48).length := by rw [← bz_length, h1]
 have l2 : (s2.size : Int) = (nz (bz s)).length := by rw [← bz_length, h2]; rfl
 have h2 : bz s2 = nz (bz s) := h2
 rw [empty_iff, h2]
 refine cond_intro (fun h => ?_) (fun h => ?_)
 ·have h := of_decide_eq_true h
  rw [normZ, if_pos h]
  show _ = Value.agg ⟨[.bool false, .string (szO []), .int .i64 0]⟩
  rw [szO_eq]
  rfl
 ·have h := of_decide_eq_false h
  rw [normZ, if_neg h, l1, l2, sz_of h2]
def V157_0 : ByteArray × Int × Bool × Bool × Int × Int → List Value := fun (s, r, rb, ng, n, i) => [S s, I r, B rb, B ng, I n, I i]
def B157_0 : ByteArray × Int × Bool × Bool × Int × Int → List (Option Blk) := fun _ => []
def S157_0 : LSpec (ByteArray × Int × Bool × Bool × Int × Int) where
 live := [0, 2, 3, 4, 5, 6]
 mid := []
 n := 60
 dec vs bs := match vs, bs with | [.string s, .int .i64 r, .bool rb, .bool ng, .int .i64 n, .int .i64 i], [] => some (s, r, rb, ng, n, i) | _, _ => none
 pre := fun (s, r, rb, ng, n, i) => decide (0 ≤ i ∧ i ≤ s.size ∧ s.size ≤ 2 ∧ 0 ≤ n ∧ (i = 0 → n = 0) ∧ (i = 1 → n < 10) ∧ n < 100) && digsZ (bz s)
 fin := fun (s, r, rb, ng, n, i) Z => Z (.exit 0) [S s, I r, B rb, B ng, I (decG ((bz s).drop i.toNat) n), I s.size] []
theorem r157_0 (s : ByteArray) (r : Int) (rb : Bool) (ng : Bool) (n : Int) (i : Int) (jk : Tmps) (R : Exit → List Value → List (Option Blk) → Prop) : (codeQ Tryz.prog G4 noL Tryz.f157.ntmps (loopOf Tryz.f157 0) (tl S157_0.live (V157_0 (s, r, rb, ng, n, i)) jk) (ml S157_0.mid (B157_0 (s, r, rb, ng, n, i))) S157_0.n fun e t' m' _ => R e (List.map t' S157_0.live) (List.map m' S157_0.mid)) = ( bif decide (i < (↑(ByteArray.size s) : Int)) then bif decide (0 ≤ i ∧ i < (↑(ByteArray.size s) : Int)) then R Exit.normal [S s, I r, B rb, B ng, I (IntKind.wrap .i64 (IntKind.wrap .i64 (10 * n) + IntKind.wrap .i64 (IntKind.wrap .u8 (byteAt s (Int.toNat i) - 48)))), I (IntKind.wrap .i64 (i + 1))] [] else False else R (Exit.exit 0) [S s, I r, B rb, B ng, I n, I i] []) := by kernel_rfl
theorem l157_0 : LOKf Tryz.prog (oneL 0 S157_0.h) Tryz.f157 := by
 refine lokf_one (h := S157_0.h) (by kernel_rfl) (loop_specQ ok_G4 hmix (by kernel_rfl) (lok_none _) S157_0 V157_0 B157_0 (fun (s, r, rb, ng, n, i) => (s.size - i).toNat) ?_ ?_ ?_)
 ·intro vs bs s h
  simp only [S157_0] at h
  split at h
  all_goals first | (cases h; exact ⟨rfl, rfl⟩) | cases h | (split at h <;> first | (rename_i hq; cases h; have hq := Nat.eq_of_beq_eq_true hq; subst hq; exact ⟨rfl, rfl⟩) | cases h)
 ·exact fun _ _ _ h => h
 ·intro ⟨s, r, rb, ng, n, i⟩ jk Z hp hf
  rw [r157_0]
  simp only [S157_0] at hp hf
  simp only [Bool.and_eq_true, decide_eq_true_eq] at hp
  obtain ⟨hp, hb⟩ := hp
  refine cond_intro (fun h => ?_) (fun h => ?_)
  ·have h := of_decide_eq_true h
   rw [bz_at hp.1 h, decG] at hf
   refine c_t (decide_eq_true (by omega)) ?_
   have hc := dig_cases (s := s) (i := i.toNat) (by omega) hb
   rw [w64 (n := i + 1) (by omega), w8s (by omega), w64 (n := byteAt s i.toNat - 48) (by omega), w64 (n := 10 * n) (by omega), w64 (by omega)]
   exact ⟨(s, r, rb, ng, 10 * n + (byteAt s i.toNat - 48), i + 1), rfl, rfl, by simp only [S157_0, Bool.and_eq_true, decide_eq_true_eq]; exact ⟨by omega, hb⟩, by simp only; omega, hf⟩
  ·have h := of_decide_eq_false h
   rw [bz_end (by omega)] at hf
   obtain rfl : i = s.size := by omega
   exact hf
theorem decG_eq : ∀ (l : List Int) (a : Int), decG l a = l.foldl (fun a c => 10 * a + (c - 48)) a
 | [], _ => rfl
 | c :: l, a => decG_eq l _
theorem expD_size {s : ByteArray} : expD (bz s) = if 1 ≤ s.size ∧ s.size ≤ 2 ∧ digsZ (bz s) = true then some (decG (bz s) 0) else none := by
 rw [expD, bz_length, decG_eq]
theorem decG_rng {l : List Int} (h : digsZ l = true) (h2 : l.length ≤ 2) : 0 ≤ decG l 0 ∧ decG l 0 ≤ 99 := by
 match l, h, h2 with
 | [], _, _ => simp [decG]
 | [a], h, _ =>
  simp [digsZ, dig] at h
  simp only [decG]
  omega
 | [a, b], h, _ =>
  simp [digsZ, dig] at h
  simp only [decG]
  omega
 | _ :: _ :: _ :: _, _, h2 => simp at h2
theorem exb {s : ByteArray} : (decide ((s.size : Int) < 1) || (decide ((s.size : Int) > 2) || !digsZ (bz s))) = !(expD (bz s)).isSome := by
 rw [expD_size, Bool.eq_iff_iff]
 simp only [Bool.or_eq_true, decide_eq_true_eq, Bool.not_eq_true']
 split
 ·rename_i h
  simp [h.2.2]
  omega
 ·rename_i h
  simp only [Option.isSome_none, true_iff, iff_true]
  cases hd : digsZ (bz s)
  ·simp
  ·simp only [hd, and_true] at h
   simp
   omega
theorem expZ_head {c : Int} {l : List Int} : expZ (c :: l) = if c = 45 then (expD l).map (fun n => -n) else if c = 43 then expD l else expD (c :: l) := by
 by_cases h : c = 45
 ·subst h; rfl
 ·by_cases h2 : c = 43
  ·subst h2; rfl
  ·rw [if_neg h, if_neg h2]
   unfold expZ
   split
   ·rename_i q; cases q; exact absurd rfl h2
   ·rename_i q; cases q; exact absurd rfl h
   ·rfl
theorem exp_some {s : ByteArray} {e : Int} (h : expD (bz s) = some e) : e = decG (bz s) 0 ∧ 0 ≤ e ∧ e ≤ 99 ∧ 1 ≤ s.size ∧ s.size ≤ 2 ∧ digsZ (bz s) = true := by
 rw [expD_size] at h
 split at h
 ·rename_i q
  cases h
  have := decG_rng q.2.2 (by rw [bz_length]; omega)
  exact ⟨rfl, this.1, this.2, q⟩
 ·cases h
theorem lim_or {s : ByteArray} (h : s.size ≤ 9223372036854775807) : (decide ((s.size : Int) < 1) || (decide ((s.size : Int) > 2) || decide (s.size ≤ 9223372036854775807) && true)) = true := by simp [h]
def s157 (s : ByteArray) : Bool × Value := (decide (s.size ≤ 9223372036854775807), tup [I ((expZ (bz s)).getD 0), B (expZ (bz s)).isSome])
theorem fn157 : Fn1 Tryz.prog 157 Tryz.f157 := ⟨Tryz.func157, by kernel_rfl, by kernel_rfl, by kernel_rfl⟩
theorem v157 (s : ByteArray) (R : Value → Prop) : bodyQ Tryz.prog G4 (oneL 0 S157_0.h) Tryz.f157 [Enc.enc s] (fun _ => none) 0 (fun v _ _ => R v) = ( bif bif decide ((↑(ByteArray.size s) : Int) > 0) then decide ((0 : Int) ≤ 0 ∧ 0 < (↑(ByteArray.size s) : Int)) && (byteAt s (Int.toNat 0) == 43 || decide ((0 : Int) ≤ 0 ∧ 0 < (↑(ByteArray.size s) : Int)) && true) else true then bif decide ((↑(ByteArray.size s) : Int) > 0) && (byteAt s (Int.toNat 0) == 43 || byteAt s (Int.toNat 0) == 45) then bif decide ((0 : Int) ≤ 0 ∧ 0 < (↑(ByteArray.size s) : Int)) then bif decide ((0 : Int) ≤ 1 ∧ 1 ≤ (↑(ByteArray.size s) : Int) ∧ (↑(ByteArray.size s) : Int) ≤ (↑(ByteArray.size s) : Int)) then bif decide ((↑(ByteArray.size (ByteArray.extract s (Int.toNat 1) (ByteArray.size s))) : Int) < 1) || (decide ((↑(ByteArray.size (ByteArray.extract s (Int.toNat 1) (ByteArray.size s))) : Int) > 2) || decide (ByteArray.size (ByteArray.extract s (Int.toNat 1) (ByteArray.size s)) ≤ 9223372036854775807) && true) then bif decide ((↑(ByteArray.size (ByteArray.extract s (Int.toNat 1) (ByteArray.size s))) : Int) < 1) || (decide ((↑(ByteArray.size (ByteArray.extract s (Int.toNat 1) (ByteArray.size s))) : Int) > 2) || !digsZ (bz (ByteArray.extract s (Int.toNat 1) (ByteArray.size s)))) then R (.tuple (.mk [I 0, B false])) else bif LSpec.pre S157_0 (ByteArray.extract s (Int.toNat 1) (ByteArray.size s), 0, false, byteAt s (Int.toNat 0) == 45, 0, 0) then ∀ (x : Tmps), bif byteAt s (Int.toNat 0) == 45 then R (.tuple (.mk [I (IntKind.wrap .i64 (0 - decG (List.drop (Int.toNat 0) (bz (ByteArray.extract s (Int.toNat 1) (ByteArray.size s)))) 0)), B true])) else R (.tuple (.mk [I (decG (List.drop (Int.toNat 0) (bz (ByteArray.extract s (Int.toNat 1) (ByteArray.size s)))) 0), B true])) else False else False else False else False else bif decide ((↑(ByteArray.size s) : Int) < 1) || (decide ((↑(ByteArray.size s) : Int) > 2) || decide (ByteArray.size s ≤ 9223372036854775807) && true) then bif decide ((↑(ByteArray.size s) : Int) < 1) || (decide ((↑(ByteArray.size s) : Int) > 2) || !digsZ (bz s)) then R (.tuple (.mk [I 0, B false])) else bif LSpec.pre S157_0 (s, 0, false, false, 0, 0) then ∀ (x : Tmps), R (.tuple (.mk [I (decG (List.drop (Int.toNat 0) (bz s)) 0), B true])) else False else False else False) := by kernel_rfl
theorem ok157 : PureOK Tryz.prog 157 (sp1 s157) := by
 refine qure1 ok_G4 hmix fn157 l157_0 (Nat.le_of_ble_eq_true (by kernel_rfl)) fun s hc => ?_
 rw [DoesQ, v157]
 have hc : (s.size ≤ 9223372036854775807) := of_decide_eq_true hc
 try dsimp only [s157]
 refine c_t (by rcases Nat.eq_zero_or_pos s.size with q | q <;> simp [q]) (cond_intro (fun h => ?_) (fun h => ?_))
 ·simp only [Bool.and_eq_true, Bool.or_eq_true, decide_eq_true_eq, beq_iff_eq] at h
  have h0 : 0 < s.size := by omega
  have h : byteAt s 0 = 43 ∨ byteAt s 0 = 45 := h.2
  have hs1 : (s.extract 1 s.size).size ≤ 9223372036854775807 := by rw [ex_size]; omega
  refine c_t (by simp; omega) (c_t (by simp; omega) (c_t (lim_or hs1) ?_))
  have hz := expZ_head (c := byteAt s 0) (l := bz (s.extract 1 s.size))
  rw [← bz_head h0] at hz
  rw [Int.toNat_one]
  rw [exb]
  generalize s.extract 1 s.size = s1 at *
  cases he : expD (bz s1) with
  | none =>
   have : expZ (bz s) = none := by
    rw [hz, he]
    rcases h with h | h
    ·rw [if_neg (by omega), if_pos (by exact h)]
    ·rw [if_pos (by exact h)]; rfl
   rw [this]
   exact c_t rfl rfl
  | some e =>
   obtain ⟨e1, e2, e3, e4, e5, e6⟩ := exp_some he
   refine c_f rfl (c_t (by simp only [S157_0, Bool.and_eq_true, decide_eq_true_eq]; exact ⟨by simp; omega, e6⟩) fun x => ?_)
   rw [dropW0, ← e1]
   refine cond_intro (fun q => ?_) (fun q => ?_)
   ·have q : byteAt s 0 = 45 := eq_of_beq q
    rw [hz, if_pos q, he, w64 (by omega), Int.zero_sub]
    rfl
   ·have q : ¬ byteAt s 0 = 45 := by simpa using q
    have q2 : byteAt s 0 = 43 := h.resolve_right q
    rw [hz, if_neg q, if_pos q2, he]
    rfl
 ·refine c_t (lim_or hc) ?_
  rw [exb]
  have hz : expZ (bz s) = expD (bz s) := by
   rcases Nat.eq_zero_or_pos s.size with q | q
   ·rw [bz_nil q]; rfl
   ·have q' : ((s.size : Int) > 0) := by omega
    simp only [q', decide_true, Bool.true_and, Bool.or_eq_false_iff, beq_eq_false_iff_ne] at h
    have hz := expZ_head (c := byteAt s 0) (l := bz (s.extract 1 s.size))
    rw [← bz_head q, if_neg (by exact h.2), if_neg (by exact h.1)] at hz
    exact hz
  rw [hz]
  cases he : expD (bz s) with
  | none => exact c_t rfl rfl
  | some e =>
   obtain ⟨e1, e2, e3, e4, e5, e6⟩ := exp_some he
   refine c_f rfl (c_t (by simp only [S157_0, Bool.and_eq_true, decide_eq_true_eq]; exact ⟨by simp; omega, e6⟩) fun x => ?_)
   rw [dropW0, ← e1]
   rfl
end Go.Cx
end
noncomputable section
namespace Go.Px
open Go Go.Ab Go.Proofs
inductive Rw where
 | nil
 | own (d : List Value) (m cap : Nat)
def Rw.v (q : Nat) : Rw → Value
 | .nil => .slice none 0 0
 | .own _ m cap => .slice (some ⟨q, 0, some 1⟩) m cap
def Rw.b : Rw → Option Blk
 | .nil => none
 | .own d _ _ => some ⟨d, 5, true⟩
def Rw.z : Rw → List Int
 | .nil => []
 | .own d m _ => zc d m
def Rw.ok : Rw → Bool
 | .nil => true
 | .own d m cap => rowOK d m cap
def Rw.is : Rw → Bool
 | .nil => false
 | .own _ _ _ => true
end Go.Px
end
noncomputable section
set_option maxHeartbeats 3200000
namespace Go.Cx
open Go Go.Ab Go.Proofs Go.Shelf Go.Px Go.Cv
open Go.Fx (Ty Vl check Valid most base pw bnd Fit fits tv vv tup V0 T0 pw_zero pw_succ wrap_mul pw_w64 str0)
def H1 : Env := (((((G1.add 154 (sp2 s154)).add 131 (sp2 s131)).add 55 (sp2 s55)).add 30 (sp2 s30)).add 29 (sp1 s29))
theorem ok_H1 : EnvOK Tryz.prog H1 := env_add (env_add (env_add (env_add (env_add (ok_G1) ok154) ok131) ok55) ok30) ok29
theorem isB_tl {l : List Int} (h : IsB l) (c : Int) : IsB (tlZ l c) := fun x hx => h x ((List.dropWhile_sublist _).subset hx)
theorem isB_tr {l : List Int} (h : IsB l) (c : Int) : IsB (trZ l c) := fun x hx => by
 rw [trZ, List.mem_reverse] at hx
 exact h x (List.mem_reverse.1 ((List.dropWhile_sublist _).subset hx))
theorem bz_szO {l : List Int} (h : IsB l) : bz (szO l) = l := by rw [szO_eq, bz_sz h]
theorem szO_nil : szO [] = ⟨#[]⟩ := szO_eq []
def dz (n : Int) : List Int := if n = 0 then [] else decZ n
theorem dz_step {n : Int} (h : 0 < n) : dz n = dz (n / 10) ++ [48 + n % 10] := by
 obtain ⟨k, rfl⟩ : ∃ k : Nat, n = (k : Int) := ⟨n.toNat, by omega⟩
 have hu : ∀ j : Nat, j < 10 → ((UInt8.ofNat (48 + j)).toNat : Int) = 48 + j := fun j hj => by rw [UInt8.toNat_ofNat']; omega
 rw [dz, if_neg (by omega), decZ, Int.toNat_natCast, Lib.decDigits]
 by_cases h1 : k < 10
 ·have e : (k : Int) / 10 = 0 := by omega
  rw [dif_pos h1, dz, e, if_pos rfl, zl, List.map_cons, List.map_nil, hu k h1, List.nil_append]
  congr 1
  omega
 ·have e : (k : Int) / 10 = ((k / 10 : Nat) : Int) := by omega
  rw [dif_neg h1, dz, e, if_neg (by omega), decZ, Int.toNat_natCast, zl, List.map_append, List.map_cons, List.map_nil, hu (k % 10) (by omega)]
  rfl
theorem row_pre {d : List Value} {m cap : Nat} (h : RowP d m cap) (x : Int) {tail : List Value} {cap' : Nat} (ht : tailOK tail cap' (1 + m) 1 = true) :
  RowP ([.int .u8 x] ++ d.take m ++ tail) (1 + m) cap' ∧ zc ([.int .u8 x] ++ d.take m ++ tail) (1 + m) = x :: zc d m := by
 obtain ⟨t1, t2, t3, t4⟩ := tail_spec ht
 have hz := zc_length h
 have := row_mk (x :: zc d m) (tail := tail) (cap := cap') t1 (by simp only [List.length_cons, hz]; omega) t4
 simp only [List.length_cons, hz] at this
 rw [h.take, Nat.add_comm 1 m]
 exact this
def s77 (g : Bool) (s : ByteArray) (q : Int) : Bool × Value := (decide (s.size ≤ 100000 ∧ -100000 ≤ q ∧ q ≤ 100000), numV (normZ g (bz s) q))
theorem fn77 : Fn1 Tryz.prog 77 Tryz.f77 := ⟨Tryz.func77, by kernel_rfl, by kernel_rfl, by kernel_rfl⟩
theorem v77 (g : Bool) (s : ByteArray) (q : Int) (R : Value → Prop) : bodyQ Tryz.prog H1 noL Tryz.f77 [Enc.enc g, Enc.enc s, Enc.enc q] (fun _ => none) 0 (fun v _ _ => R v) = ( bif decide (ByteArray.size (szO (tlZ (bz s) (List.getD (bz (ByteArray.mk #[48])) 0 0))) ≤ 9223372036854775807) && (oneB (ByteArray.mk #[48]) && asc (bz (ByteArray.mk #[48]))) then bif ByteArray.toList (szO (trZ (bz (szO (tlZ (bz s) (List.getD (bz (ByteArray.mk #[48])) 0 0)))) (List.getD (bz (ByteArray.mk #[48])) 0 0))) == ByteArray.toList (ByteArray.mk #[]) then R (.agg (.mk [B false, S (ByteArray.mk #[]), I 0])) else R (.agg (.mk [B g, S (szO (trZ (bz (szO (tlZ (bz s) (List.getD (bz (ByteArray.mk #[48])) 0 0)))) (List.getD (bz (ByteArray.mk #[48])) 0 0))), I (IntKind.wrap .i64 (q - IntKind.wrap .i64 ((↑(ByteArray.size (szO (tlZ (bz s) (List.getD (bz (ByteArray.mk #[48])) 0 0)))) : Int) - (↑(ByteArray.size (szO (trZ (bz (szO (tlZ (bz s) (List.getD (bz (ByteArray.mk #[48])) 0 0)))) (List.getD (bz (ByteArray.mk #[48])) 0 0)))) : Int))))])) else False) := by kernel_rfl
theorem ok77 : PureOK Tryz.prog 77 (sp3 s77) := by
 refine qure3 ok_H1 hmix fn77 lokf_none (Nat.le_of_ble_eq_true (by kernel_rfl)) fun g s q hc => ?_
 rw [DoesQ, v77]
 have hc : (s.size ≤ 100000 ∧ -100000 ≤ q ∧ q ≤ 100000) := of_decide_eq_true hc
 try dsimp only [s77]
 have d : (bz ⟨#[48]⟩).getD 0 0 = 48 := rfl
 have iA : IsB (tlZ (bz s) 48) := isB_tl (bz_isB s) 48
 have eA : bz (szO (tlZ (bz s) 48)) = tlZ (bz s) 48 := bz_szO iA
 have h1 := tl_len (bz s) 48
 rw [bz_length] at h1
 have h2 := tr_len (tlZ (bz s) 48) 48
 rw [d, eA, szO_size]
 refine c_t (by rw [decide_eq_true (show (tlZ (bz s) 48).length ≤ 9223372036854775807 by omega), Bool.true_and]; kernel_rfl) ?_
 rw [empty_iff, bz_szO (isB_tr iA 48), szO_size]
 refine cond_intro (fun h => ?_) (fun h => ?_)
 ·have h : nz (bz s) = [] := of_decide_eq_true h
  rw [normZ, if_pos h]
  show _ = Value.agg ⟨[.bool false, .string (szO []), .int .i64 0]⟩
  rw [szO_nil]
 ·have h : ¬ nz (bz s) = [] := of_decide_eq_false h
  rw [normZ, if_neg h, w64 (n := ((tlZ (bz s) 48).length : Int) - (trZ (tlZ (bz s) 48) 48).length) (by omega), w64 (by omega)]
  rfl
def V78_0 : ByteArray × ByteArray × Int × Int × Int → List Value := fun (s, r, n, L, i) => [S s, S r, C64 n, I L, I i]
def B78_0 : ByteArray × ByteArray × Int × Int × Int → List (Option Blk) := fun _ => []
def S78_0 : LSpec (ByteArray × ByteArray × Int × Int × Int) where
 live := [0, 2, 3, 7, 8]
 mid := []
 n := 60
 dec vs bs := match vs, bs with | [.string s, .string r, .int .u64 n, .int .i64 L, .int .i64 i], [] => some (s, r, n, L, i) | _, _ => none
 pre := fun (s, r, n, L, i) => decide (0 ≤ i ∧ i ≤ L ∧ L = s.size ∧ s.size ≤ 64 ∧ 0 ≤ n ∧ n < 2 ^ i.toNat) && bitsZ (bz s)
 fin := fun (s, r, n, L, i) Z => Z (.exit 0) [S s, S r, C64 (binG ((bz s).drop i.toNat) n), I L, I L] []
theorem r78_0 (s : ByteArray) (r : ByteArray) (n : Int) (L : Int) (i : Int) (jk : Tmps) (R : Exit → List Value → List (Option Blk) → Prop) : (codeQ Tryz.prog H1 noL Tryz.f78.ntmps (loopOf Tryz.f78 0) (tl S78_0.live (V78_0 (s, r, n, L, i)) jk) (ml S78_0.mid (B78_0 (s, r, n, L, i))) S78_0.n fun e t' m' _ => R e (List.map t' S78_0.live) (List.map m' S78_0.mid)) = ( bif decide (i < L) then bif decide (0 ≤ i ∧ i < (↑(ByteArray.size s) : Int)) then R Exit.normal [S s, S r, .int .u64 (IntKind.wrap .u64 (IntKind.wrap .u64 (2 * n) + IntKind.wrap .u64 (IntKind.wrap .u8 (byteAt s (Int.toNat i) - 48)))), I L, I (IntKind.wrap .i64 (i + 1))] [] else False else R (Exit.exit 0) [S s, S r, .int .u64 n, I L, I i] []) := by kernel_rfl
theorem l78_0 : ∀ t m n K, S78_0.h t m n K → Ab.Sem Tryz.prog Tryz.f78.ntmps (.loop (loopOf Tryz.f78 0)) t m n K := by
 refine loop_specQ ok_H1 hmix (by kernel_rfl) (lok_none _) S78_0 V78_0 B78_0 (fun (s, r, n, L, i) => (s.size - i).toNat) ?_ ?_ ?_
 ·intro vs bs s h
  simp only [S78_0] at h
  split at h
  all_goals first | (cases h; exact ⟨rfl, rfl⟩) | cases h | (split at h <;> first | (rename_i hq; cases h; have hq := Nat.eq_of_beq_eq_true hq; subst hq; exact ⟨rfl, rfl⟩) | cases h)
 ·exact fun _ _ _ h => h
 ·intro ⟨s, r, n, L, i⟩ jk Z hp hf
  rw [r78_0]
  simp only [S78_0] at hp hf
  simp only [Bool.and_eq_true, decide_eq_true_eq] at hp
  obtain ⟨hp, hb⟩ := hp
  refine cond_intro (fun h => ?_) (fun h => ?_)
  ·have h := of_decide_eq_true h
   rw [bz_at hp.1 (by omega), binG] at hf
   refine c_t (decide_eq_true (by omega)) ?_
   have hc := bit_cases (s := s) (i := i.toNat) (by omega) hb
   have h2 : (2 : Int) ^ (i + 1).toNat = 2 * 2 ^ i.toNat := by
    rw [show (i + 1).toNat = i.toNat + 1 by omega, Int.pow_succ, Int.mul_comm]
   have h3 : (2 : Int) ^ (i + 1).toNat ≤ 2 ^ 64 := by
    have : (2 : Nat) ^ (i + 1).toNat ≤ 2 ^ 64 := Nat.pow_le_pow_right (by omega) (by omega)
    have h' : ((2 ^ (i + 1).toNat : Nat) : Int) ≤ ((2 ^ 64 : Nat) : Int) := Int.ofNat_le.2 this
    simpa using h'
   have h4 : (2 : Int) ^ 64 = 18446744073709551616 := by decide
   rw [w64 (n := i + 1) (by omega), w8s (by omega), wu64 (n := byteAt s i.toNat - 48) (by omega), wu64 (n := 2 * n) (by omega), wu64 (by omega)]
   exact ⟨(s, r, 2 * n + (byteAt s i.toNat - 48), L, i + 1), rfl, rfl, by simp only [S78_0, Bool.and_eq_true, decide_eq_true_eq]; exact ⟨by omega, hb⟩, by simp only; omega, hf⟩
  ·have h := of_decide_eq_false h
   rw [bz_end (by omega)] at hf
   obtain rfl : i = L := by omega
   exact hf
def V78_2 : Int × Rw → List Value := fun (n, o) => [C64 n, o.v 200]
def B78_2 : Int × Rw → List (Option Blk) := fun (n, o) => [o.b]
def S78_2 : LSpecA (Int × Rw) where
 live := [3, 5]
 mid := [200]
 n := 210
 ap := [(.tmp 5, 200)]
 dec vs bs := match vs, bs with
  | [.int .u64 n, .slice none 0 0], [none] => some (n, .nil)
  | [.int .u64 n, .slice (some ⟨200, 0, some 1⟩) m cap], [some ⟨d, 5, true⟩] => some (n, .own d m cap)
  | _, _ => none
 pre := fun (n, o) => o.ok && decide (0 ≤ n ∧ (o.is = true → o.z ≠ []) ∧ o.z.length ≤ 20 ∧ n < 10 ^ (20 - o.z.length))
 fin := fun (n, o) Z => (dz n ++ o.z = [] → Z (.exit 2) [C64 0, .slice none 0 0] [none]) ∧ (∀ d' m' cap', rowOK d' m' cap' = true → zc d' m' = dz n ++ o.z → dz n ++ o.z ≠ [] → Z (.exit 2) [C64 0, .slice (some ⟨200, 0, some 1⟩) m' cap'] [some ⟨d', 5, true⟩])
theorem r78_2n (n : Int) (jk : Tmps) (R : Exit → List Value → List (Option Blk) → Prop) : (codeQ Tryz.prog H1 noL Tryz.f78.ntmps (loopOf Tryz.f78 2) (tl S78_2.live (V78_2 (n, .nil)) jk) (ml S78_2.mid (B78_2 (n, .nil))) S78_2.n fun e t' m' _ => S78_2.out R e t' m') = ( bif decide (n > 0) then ∀ (cap : Nat) (tail : List Value), tailOK tail cap (1 + 0) 1 = true → bif goodL [(218, 200)] (.int .u8 (IntKind.wrap .u8 (IntKind.wrap .u64 (48 + Int.tmod n 10))) :: tail) && true && true then R Exit.normal [.int .u64 (IntKind.wrap .u64 (Int.tdiv n 10)), .slice (some (.mk 200 0 (some 1))) 1 cap] [some (.mk (rlbL [(218, 200)] (.int .u8 (IntKind.wrap .u8 (IntKind.wrap .u64 (48 + Int.tmod n 10))) :: tail)) 5 true)] else False else R (Exit.exit 2) [.int .u64 n, .slice none 0 0] [none]) := by kernel_rfl
theorem r78_2o (n : Int) (d : List Value) (m : Nat) (cap : Nat) (jk : Tmps) (R : Exit → List Value → List (Option Blk) → Prop) : (codeQ Tryz.prog H1 noL Tryz.f78.ntmps (loopOf Tryz.f78 2) (tl S78_2.live (V78_2 (n, .own d m cap)) jk) (ml S78_2.mid (B78_2 (n, .own d m cap))) S78_2.n fun e t' m' _ => S78_2.out R e t' m') = ( bif decide (n > 0) then bif Nat.ble (0 + m * 1) (List.length d) && List.all (List.take (m * 1) (List.drop 0 d)) cellOk && fitsA (1 + m) 1 then ∀ (cap : Nat) (tail : List Value), tailOK tail cap (1 + m) 1 = true → bif goodL [(218, 200)] (.int .u8 (IntKind.wrap .u8 (IntKind.wrap .u64 (48 + Int.tmod n 10))) :: (List.take (m * 1) (List.drop 0 d) ++ tail)) && true && true then R Exit.normal [.int .u64 (IntKind.wrap .u64 (Int.tdiv n 10)), .slice (some (.mk 200 0 (some 1))) (1 + m) cap] [some (.mk (rlbL [(218, 200)] (.int .u8 (IntKind.wrap .u8 (IntKind.wrap .u64 (48 + Int.tmod n 10))) :: (List.take (m * 1) (List.drop 0 d) ++ tail))) 5 true)] else False else False else bif goodL [(200, 200)] d && true && true then R (Exit.exit 2) [.int .u64 n, .slice (some (.mk 200 0 (some 1))) m cap] [some (.mk (rlbL [(200, 200)] d) 5 true)] else False) := by kernel_rfl
theorem l78_2 : ∀ t m n K, S78_2.hA t m n K → Ab.Sem Tryz.prog Tryz.f78.ntmps (.loop (loopOf Tryz.f78 2)) t m n K := by
 refine loop_specA ok_H1 hmix (by kernel_rfl) (lok_none _) S78_2 V78_2 B78_2 (fun (n, o) => n.toNat) ?_ ?_ ?_
 ·intro vs bs s h
  simp only [S78_2] at h
  split at h
  all_goals first | (cases h; exact ⟨rfl, rfl⟩) | cases h | (split at h <;> first | (rename_i hq; cases h; have hq := Nat.eq_of_beq_eq_true hq; subst hq; exact ⟨rfl, rfl⟩) | cases h)
 ·exact fun ⟨n, o⟩ hp => by
   simp only [S78_2, Bool.and_eq_true] at hp
   cases o with
   | nil => simp [V78_2, B78_2, S78_2, idsLt, idsLtB, idsL, ids, Rw.v, Rw.b]
   | own d m cap => simp [V78_2, B78_2, S78_2, idsLt, idsLtB, idsL, ids, Rw.v, Rw.b, ids_plainL (rowOK_iff.1 hp.1).plain]
 ·intro ⟨n, o⟩ jk Z hp hf
  simp only [S78_2] at hp hf
  simp only [Bool.and_eq_true, decide_eq_true_eq] at hp
  obtain ⟨hr, h0, his, h20, hlt⟩ := hp
  have hten : 0 < n → o.z.length < 20 ∧ n / 10 < 10 ^ (20 - (o.z.length + 1)) := fun hn => by
   rcases Nat.lt_or_ge o.z.length 20 with q | q
   ·refine ⟨q, ?_⟩
    rw [show 20 - o.z.length = (20 - (o.z.length + 1)) + 1 by omega, Int.pow_succ] at hlt
    omega
   ·rw [show 20 - o.z.length = 0 by omega] at hlt
    omega
  have hw : IntKind.u8.wrap (IntKind.u64.wrap (48 + n.tmod 10)) = 48 + n % 10 := by
   rw [Int.tmod_eq_emod_of_nonneg h0, wu64 (by omega), w8 (by omega)]
  have hq : n < 18446744073709551616 * 10 → IntKind.u64.wrap (n.tdiv 10) = n / 10 := fun h => by
   rw [Int.tdiv_eq_ediv_of_nonneg h0, wu64 (by omega)]
  have h64 : n < 18446744073709551616 * 10 := by
   have : (10 : Int) ^ (20 - o.z.length) ≤ 10 ^ 20 := by
    have : (10 : Nat) ^ (20 - o.z.length) ≤ 10 ^ 20 := Nat.pow_le_pow_right (by omega) (by omega)
    have h' : ((10 ^ (20 - o.z.length) : Nat) : Int) ≤ ((10 ^ 20 : Nat) : Int) := Int.ofNat_le.2 this
    simpa using h'
   have h5 : (10 : Int) ^ 20 = 100000000000000000000 := by decide
   omega
  cases o with
  | nil =>
   rw [r78_2n, hw, hq h64]
   refine cond_intro (fun h => ?_) (fun h => ?_)
   ·have h : n > 0 := of_decide_eq_true h
    intro cap tail ht
    obtain ⟨g1, g2⟩ := row_new [48 + n % 10] (tail := tail) (cap' := cap) ht
    have g1 : RowP (.int .u8 (48 + n % 10) :: tail) 1 cap := g1
    have g2 : zc (.int .u8 (48 + n % 10) :: tail) 1 = [48 + n % 10] := g2
    rw [g1.good, g1.rlb]
    refine c_t rfl ⟨(n / 10, .own _ 1 cap), rfl, rfl, ?_, by simp only; omega, ?_⟩
    ·simp only [S78_2, Bool.and_eq_true, decide_eq_true_eq]
     refine ⟨rowOK_iff.2 g1, by omega, ?_⟩
     simp only [Rw.z, g2]
     exact ⟨fun _ => by simp, by simp, (hten h).2⟩
    ·have e : dz (n / 10) ++ (Rw.own (.int .u8 (48 + n % 10) :: tail) 1 cap).z = dz n ++ Rw.nil.z := by
      rw [dz_step h]; simp only [Rw.z, g2, List.append_nil]
     simp only [S78_2]
     rw [e]
     exact hf
   ·have h : n = 0 := by have := of_decide_eq_false h; omega
    subst h
    exact hf.1 rfl
  | own d m cap =>
   rw [r78_2o, hw, hq h64]
   have hr : RowP d m cap := rowOK_iff.1 hr
   have hzl := zc_length hr
   have hm : m ≤ 20 := by rw [← hzl]; exact h20
   refine cond_intro (fun h => ?_) (fun h => ?_)
   ·have h : n > 0 := of_decide_eq_true h
    refine c_t (by
     have e1 : Nat.ble (0 + m * 1) d.length = true := by rw [Nat.ble_eq]; have := hr.len; have := hr.le; omega
     have e2 : (List.take (m * 1) (List.drop 0 d)).all cellOk = true := by
      rw [Nat.mul_one, List.drop_zero, hr.take]; exact cz_cell _
     have e3 : fitsA (1 + m) 1 = true := by simp only [fitsA, Bool.and_eq_true, Nat.ble_eq]; omega
     rw [e1, e2, e3]; rfl) fun cap1 tail ht => ?_
    obtain ⟨g1, g2⟩ := row_pre hr (48 + n % 10) ht
    have g1 : RowP (.int .u8 (48 + n % 10) :: (List.take (m * 1) (List.drop 0 d) ++ tail)) (1 + m) cap1 := by rw [Nat.mul_one]; exact g1
    have g2 : zc (.int .u8 (48 + n % 10) :: (List.take (m * 1) (List.drop 0 d) ++ tail)) (1 + m) = (48 + n % 10) :: zc d m := by rw [Nat.mul_one]; exact g2
    rw [g1.good, g1.rlb]
    refine c_t rfl ⟨(n / 10, .own _ (1 + m) cap1), rfl, rfl, ?_, by simp only; omega, ?_⟩
    ·simp only [S78_2, Bool.and_eq_true, decide_eq_true_eq]
     refine ⟨rowOK_iff.2 g1, by omega, ?_⟩
     simp only [Rw.z, g2, List.length_cons]
     exact ⟨fun _ => by simp, by have := (hten h).1; simp only [Rw.z] at this; omega, (hten h).2⟩
    ·have e : dz (n / 10) ++ (Rw.own (.int .u8 (48 + n % 10) :: (List.take (m * 1) (List.drop 0 d) ++ tail)) (1 + m) cap1).z = dz n ++ (Rw.own d m cap).z := by
      rw [dz_step h]; simp only [Rw.z, g2, List.append_assoc, List.cons_append, List.nil_append]
     simp only [S78_2]
     rw [e]
     exact hf
   ·have h : n = 0 := by have := of_decide_eq_false h; omega
    subst h
    rw [hr.good, hr.rlb]
    refine c_t rfl ?_
    exact hf.2 d m cap (rowOK_iff.2 hr) rfl (his rfl)
theorem bin_lt : ∀ (l : List Int) (a : Int), bitsZ l = true → 0 ≤ a → 0 ≤ binG l a ∧ binG l a < (a + 1) * 2 ^ l.length
 | [], a, _, h => by simp [binG]; omega
 | c :: r, a, hb, h => by
  simp only [bitsZ, List.all_cons, Bool.and_eq_true, decide_eq_true_eq] at hb
  obtain ⟨h1, h2⟩ := bin_lt r (2 * a + (c - 48)) hb.2 (by omega)
  rw [binG]
  refine ⟨h1, Int.lt_of_lt_of_le h2 ?_⟩
  rw [List.length_cons, Int.pow_succ, Int.mul_comm (2 ^ r.length) 2, ← Int.mul_assoc]
  exact Int.mul_le_mul_of_nonneg_right (by omega) (Int.le_of_lt (Int.pow_pos (by omega)))
theorem bin_64 {l : List Int} (hb : bitsZ l = true) (h : l.length ≤ 64) : 0 ≤ binG l 0 ∧ binG l 0 < 18446744073709551616 := by
 obtain ⟨h1, h2⟩ := bin_lt l 0 hb (by omega)
 refine ⟨h1, Int.lt_of_lt_of_le h2 ?_⟩
 have : (2 : Nat) ^ l.length ≤ 2 ^ 64 := Nat.pow_le_pow_right (by omega) h
 have h' : ((2 ^ l.length : Nat) : Int) ≤ ((2 ^ 64 : Nat) : Int) := Int.ofNat_le.2 this
 have h4 : (2 : Int) ^ 64 = 18446744073709551616 := by decide
 simp at h'
 omega
theorem lok78 : LOKf Tryz.prog (twoL 0 S78_0.h 2 S78_2.hA) Tryz.f78 := lokf_two (by kernel_rfl) (by kernel_rfl) l78_0 l78_2
def s78 (s : ByteArray) : Bool × Value := (bitsZ (bz s) && decide (s.size ≤ 64), S (szO (dz (binG (bz s) 0))))
theorem fn78 : Fn1 Tryz.prog 78 Tryz.f78 := ⟨Tryz.func78, by kernel_rfl, by kernel_rfl, by kernel_rfl⟩
theorem v78 (s : ByteArray) (R : Value → Prop) : bodyQ Tryz.prog H1 (twoL 0 S78_0.h 2 S78_2.hA) Tryz.f78 [Enc.enc s] (fun _ => none) 0 (fun v _ _ => R v) = ( bif LSpec.pre S78_0 (s, ByteArray.mk #[], 0, (↑(ByteArray.size s) : Int), 0) then ∀ (x : Tmps), bif LSpec.pre (LSpecA.toLSpec S78_2) (binG (List.drop (Int.toNat 0) (bz s)) 0, Rw.nil) then (Decidable.rec (fun h => decZ (binG (List.drop (Int.toNat 0) (bz s)) 0)) (fun h => []) (Int.instDecidableEq (binG (List.drop (Int.toNat 0) (bz s)) 0) 0) ++ [] = [] → ∀ (x : Tmps), R (S ByteArray.empty)) ∧ ∀ (d' : List Value) (m' cap' : Nat), rowOK d' m' cap' = true → zc d' m' = dz (binG (List.drop (Int.toNat 0) (bz s)) 0) ++ Rw.z Rw.nil → Decidable.rec (fun h => decZ (binG (List.drop (Int.toNat 0) (bz s)) 0)) (fun h => []) (Int.instDecidableEq (binG (List.drop (Int.toNat 0) (bz s)) 0) 0) ++ [] ≠ [] → bif idsLt 210 d' && true then ∀ (x : Tmps), bif bytesOK d' 0 m' then R (S (bytesOf d' 0 m')) else False else False else False else False) := by kernel_rfl
theorem ok78 : PureOK Tryz.prog 78 (sp1 s78) := by
 refine qure1 ok_H1 hmix fn78 lok78 (Nat.le_of_ble_eq_true (by kernel_rfl)) fun s hc => ?_
 rw [DoesQ, v78]
 try dsimp only [s78]
 simp only [s78, Bool.and_eq_true, decide_eq_true_eq] at hc
 obtain ⟨hb, hl⟩ := hc
 obtain ⟨b1, b2⟩ := bin_64 (l := bz s) hb (by rw [bz_length]; exact hl)
 refine c_t (by simp only [S78_0, Bool.and_eq_true, decide_eq_true_eq]; exact ⟨by simp; omega, hb⟩) fun _ => ?_
 refine c_t ?_ ⟨fun hz _ => ?_, fun d' m' cap' hr hz hne => ?_⟩
 ·simp only [S78_2, Bool.and_eq_true, decide_eq_true_eq]
  refine ⟨rfl, b1, ⟨(fun h => by cases h), ⟨by simp [Rw.z], ?_⟩⟩⟩
  have h5 : (10 : Int) ^ 20 = 100000000000000000000 := by decide
  show binG (bz s) 0 < 10 ^ 20
  omega
 ·have hz : dz (binG (bz s) 0) ++ [] = [] := hz
  rw [List.append_nil] at hz
  rw [hz, szO_nil]
  rfl
 ·have hr := rowOK_iff.1 hr
  have hz : zc d' m' = dz (binG (bz s) 0) ++ [] := hz
  rw [List.append_nil] at hz
  refine c_t (by rw [ids_plainB hr.plain]; rfl) fun _ => c_t hr.str.1 ?_
  rw [hr.str.2, hz, szO_eq]
end Go.Cx
end
section
namespace Go.Cv
def isDed : St → Bool
 | .ded => true
 | _ => false
def runQ : List Int → St → Rd → Option (St × Rd)
 | [], st, r => some (st, r)
 | c :: l, st, r => if isDed (stepP st r c).1 = true then none else runQ l (stepP st r c).1 (stepP st r c).2
theorem run_Q : ∀ (l : List Int) (st : St) (r : Rd), isDed st = false → runP l st r = (runQ l st r).bind fun x => if endP x.1 = true then some x.2 else none
 | [], st, r, _ => rfl
 | c :: l, st, r, _ => by
  rw [runP, runQ]
  by_cases h : isDed (stepP st r c).1 = true
  ·rw [if_pos h]
   cases hs : (stepP st r c).1 with
   | ded => rw [run_ded]; rfl
   | _ => rw [hs] at h; cases h
  ·rw [if_neg h]
   exact run_Q l _ _ (by simpa using h)
section
variable {l : List Int} {r : Rd} {c : Int}
theorem q_beg1 (h : c = 32) : runQ (c :: l) .beg r = runQ l .beg r := by simp [runQ, stepP, h, isDed]
theorem q_beg2 (h : c = 43 ∨ c = 45) : runQ (c :: l) .beg r = runQ l (.bod false false) { r with neg := decide (c = 45) } := by
 have h1 : ¬ c = 32 := by omega
 simp [runQ, stepP, h, h1, isDed]
theorem q_beg3 (h1 : ¬ c = 32) (h : ¬ (c = 43 ∨ c = 45)) : runQ (c :: l) .beg r = runQ (c :: l) (.bod false false) r := by
 simp only [runQ, stepP, if_neg h, if_neg h1]
 rfl
variable {s p : Bool}
theorem q_bod1 (h : dig c = true) : runQ (c :: l) (.bod s p) r = runQ l (.bod true p) { r with ds := r.ds ++ [c], sc := if p = true then r.sc + 1 else r.sc } := by
 simp [runQ, stepP, bodN, h, isDed]
theorem q_bod2 (h : c = 46) : runQ (c :: l) (.bod s false) r = runQ l (.bod s true) r := by
 subst h
 simp [runQ, stepP, bodN, dig, isDed]
theorem q_bod3 (h : dig c = false) (h2 : ¬ (c = 46 ∧ p = false)) : runQ (c :: l) (.bod false p) r = none := by
 simp only [runQ, stepP, bodN, h, h2]
 simp [isDed]
theorem q_bod4 (h : c = 69) : runQ (c :: l) (.bod true p) r = runQ l (.exq false 0) r := by
 subst h
 simp [runQ, stepP, bodN, dig, isDed]
theorem q_bod5 (h : c = 66) : runQ (c :: l) (.bod true false) r = runQ l .beh { r with bin := true } := by
 subst h
 simp [runQ, stepP, bodN, dig, isDed]
theorem q_bod6 (h : c = 32) : runQ (c :: l) (.bod true p) r = runQ l .beh r := by
 subst h
 simp [runQ, stepP, bodN, dig, isDed]
theorem q_bod7 (h : dig c = false) (h2 : ¬ (c = 46 ∧ p = false)) (h3 : ¬ c = 69) (h4 : ¬ (c = 66 ∧ p = false)) (h5 : ¬ c = 32) : runQ (c :: l) (.bod true p) r = none := by
 simp only [runQ, stepP, bodN, h, h2, h3, h4, h5]
 simp [isDed]
variable {g : Bool} {m : Nat}
theorem q_ex1 (h : dig c = true) (hm : m < 2) : runQ (c :: l) (.exq g m) r = runQ l (.exq true (m + 1)) { r with pw := 10 * r.pw + (c - 48) } := by
 simp [runQ, stepP, h, hm, isDed]
theorem q_ex2 (h : c = 43 ∨ c = 45) : runQ (c :: l) (.exq false m) r = runQ l (.exq true 0) { r with down := decide (c = 45) } := by
 have h1 : dig c = false := by rcases h with h | h <;> subst h <;> rfl
 simp [runQ, stepP, h1, h, isDed]
theorem q_ex3 (h : c = 32) (hm : 0 < m) : runQ (c :: l) (.exq g m) r = runQ l .beh r := by
 subst h
 simp [runQ, stepP, dig, hm, isDed]
theorem q_ex4 (h : ¬ (dig c = true ∧ m < 2)) (h2 : ¬ ((c = 43 ∨ c = 45) ∧ g = false)) (h3 : ¬ (c = 32 ∧ 0 < m)) : runQ (c :: l) (.exq g m) r = none := by
 simp only [runQ, stepP, h, h2, h3]
 simp [isDed]
theorem q_beh1 (h : c = 32) : runQ (c :: l) .beh r = runQ l .beh r := by simp [runQ, stepP, h, isDed]
theorem q_beh2 (h : ¬ c = 32) : runQ (c :: l) .beh r = none := by simp [runQ, stepP, h, isDed]
end
end Go.Cv
end
noncomputable section
set_option maxHeartbeats 3200000
namespace Go.Cx
open Go Go.Ab Go.Proofs Go.Shelf Go.Px Go.Cv
open Go.Fx (Ty Vl check Valid most base pw bnd Fit fits tv vv tup V0 T0 pw_zero pw_succ wrap_mul pw_w64 str0)
def H2 : Env := ((H1.add 77 (sp3 s77)).add 78 (sp1 s78))
theorem ok_H2 : EnvOK Tryz.prog H2 := env_add (env_add (ok_H1) ok77) ok78
theorem fn153 : Fn1 Tryz.prog 153 Tryz.f153 := ⟨Tryz.func153, by kernel_rfl, by kernel_rfl, by kernel_rfl⟩
theorem fn214 : Fn1 Tryz.prog 214 Tryz.f214 := ⟨Tryz.func214, by kernel_rfl, by kernel_rfl, by kernel_rfl⟩
theorem fn215 : Fn1 Tryz.prog 215 Tryz.f215 := ⟨Tryz.func215, by kernel_rfl, by kernel_rfl, by kernel_rfl⟩
theorem fn76 : Fn1 Tryz.prog 76 Tryz.f76 := ⟨Tryz.func76, by kernel_rfl, by kernel_rfl, by kernel_rfl⟩
theorem fn212 : Fn1 Tryz.prog 212 Tryz.f212 := ⟨Tryz.func212, by kernel_rfl, by kernel_rfl, by kernel_rfl⟩
theorem fn263 : Fn1 Tryz.prog 263 Tryz.f263 := ⟨Tryz.func263, by kernel_rfl, by kernel_rfl, by kernel_rfl⟩
theorem fn264 : Fn1 Tryz.prog 264 Tryz.f264 := ⟨Tryz.func264, by kernel_rfl, by kernel_rfl, by kernel_rfl⟩
theorem fn151 : Fn1 Tryz.prog 151 Tryz.f151 := ⟨Tryz.func151, by kernel_rfl, by kernel_rfl, by kernel_rfl⟩
noncomputable def G7 : Env := ((((H2.addG 153 (inlQ Tryz.prog H2 noL Tryz.f153)).addG 214 (inlQ Tryz.prog H2 noL Tryz.f214)).addG 215 (inlQ Tryz.prog H2 noL Tryz.f215)).addG 76 (inlQ Tryz.prog H2 noL Tryz.f76))
theorem ok_G7 : EnvOK Tryz.prog G7 := env_addG (env_addG (env_addG (env_addG (ok_H2) (gen_inlQ ok_H2 hmix fn153 lokf_none)) (gen_inlQ ok_H2 hmix fn214 lokf_none)) (gen_inlQ ok_H2 hmix fn215 lokf_none)) (gen_inlQ ok_H2 hmix fn76 lokf_none)
noncomputable def G8 : Env := (((G7.addG 212 (inlQ Tryz.prog G7 noL Tryz.f212)).addG 263 (inlQ Tryz.prog G7 noL Tryz.f263)).addG 264 (inlQ Tryz.prog G7 noL Tryz.f264))
theorem ok_G8 : EnvOK Tryz.prog G8 := env_addG (env_addG (env_addG (ok_G7) (gen_inlQ ok_G7 hmix fn212 lokf_none)) (gen_inlQ ok_G7 hmix fn263 lokf_none)) (gen_inlQ ok_G7 hmix fn264 lokf_none)
noncomputable def G9 : Env := (G8.addG 151 (inlQ Tryz.prog G8 noL Tryz.f151))
theorem ok_G9 : EnvOK Tryz.prog G9 := env_addG (ok_G8) (gen_inlQ ok_G8 hmix fn151 lokf_none)
inductive Ms where
 | beg | bod (s p : Bool) | exq (g : Bool) (m : Int) | beh
def Ms.v : Ms → Value
 | .beg => .func (.func 151) ⟨[]⟩ ⟨[]⟩
 | .bod _ _ => .func (.func 212) ⟨[]⟩ ⟨[.pointer (some ⟨200, 0, some 0⟩), .pointer (some ⟨201, 0, some 0⟩)]⟩
 | .exq _ _ => .func (.func 263) ⟨[]⟩ ⟨[.pointer (some ⟨200, 0, some 0⟩), .pointer (some ⟨201, 0, some 0⟩)]⟩
 | .beh => .func (.func 264) ⟨[]⟩ ⟨[]⟩
def Ms.b0 : Ms → Option Blk
 | .bod _ p => some ⟨[.bool p], 4, true⟩
 | .exq _ m => some ⟨[.int .i64 m], 3, true⟩
 | _ => none
def Ms.b1 : Ms → Option Blk
 | .bod s _ => some ⟨[.bool s], 4, true⟩
 | .exq g _ => some ⟨[.bool g], 4, true⟩
 | _ => none
def Ms.st : Ms → St
 | .beg => .beg
 | .bod s p => .bod s p
 | .exq g m => .exq g m.toNat
 | .beh => .beh
def Ms.ok (M : Ms) (e : Bool) (pw sc : Int) : Bool := match M with
 | .beg => e && decide (pw = 0)
 | .bod s _ => e == s && decide (pw = 0)
 | .exq g m => e == decide (0 < m) && decide (0 ≤ m ∧ m ≤ 2 ∧ (g = false → m = 0) ∧ 0 ≤ pw ∧ (m = 0 → pw = 0) ∧ (m = 1 → pw < 10) ∧ pw < 100)
 | .beh => e && decide (0 ≤ pw ∧ pw < 100)
structure RunIs (l : List Int) (st : St) (r : Rd) (x : Option (St × Rd)) : Prop where
 h : runQ l st r = x
structure MsIs (M : Ms) (mv : Value) (b0 b1 : Option Blk) : Prop where
 v : mv = M.v
 b0 : b0 = M.b0
 b1 : b1 = M.b1
def FinN (l : List Int) (st : St) (r : Rd) (A : Prop) (B : Bool → Bool → Bool → ByteArray → Int → Int → Bool → Value → Option Blk → Option Blk → Prop) : Prop :=
 (RunIs l st r none → A) ∧ (∀ (ng bn dn : Bool) (ds : ByteArray) (sc pw : Int) (M : Ms) (e : Bool) (mv : Value), (M.ok e pw sc && decide (ds.size ≤ 255 ∧ 0 ≤ sc ∧ sc ≤ 255)) = true → MsIs M mv none none → RunIs l st r (some (M.st, ⟨ng, bn, dn, bz ds, sc, pw⟩)) → B ng bn dn ds sc pw e mv none none) ∧
   (∀ (ng bn dn : Bool) (ds : ByteArray) (sc pw : Int) (M : Ms) (e : Bool) (mv x y : Value) (tx ty : TypeId), (M.ok e pw sc && decide (ds.size ≤ 255 ∧ 0 ≤ sc ∧ sc ≤ 255)) = true → MsIs M mv (some ⟨[x], tx, true⟩) (some ⟨[y], ty, true⟩) → RunIs l st r (some (M.st, ⟨ng, bn, dn, bz ds, sc, pw⟩)) → B ng bn dn ds sc pw e mv (some ⟨[x], tx, true⟩) (some ⟨[y], ty, true⟩))
theorem fin_iff {l : List Int} {st : St} {r : Rd} {A : Prop} {B : Bool → Bool → Bool → ByteArray → Int → Int → Bool → Value → Option Blk → Option Blk → Prop} : FinN l st r A B ↔
  ((runQ l st r = none → A) ∧ (∀ (ng bn dn : Bool) (ds : ByteArray) (sc pw : Int) (M : Ms) (e : Bool), (M.ok e pw sc && decide (ds.size ≤ 255 ∧ 0 ≤ sc ∧ sc ≤ 255)) = true → runQ l st r = some (M.st, ⟨ng, bn, dn, bz ds, sc, pw⟩) → B ng bn dn ds sc pw e M.v M.b0 M.b1)) := by
 unfold FinN
 refine ⟨fun ⟨h1, h2, h3⟩ => ⟨fun h => h1 ⟨h⟩, fun ng bn dn ds sc pw M e ho h => ?_⟩, fun ⟨h1, h2⟩ => ⟨fun h => h1 h.h, fun ng bn dn ds sc pw M e mv ho hm h => ?_, fun ng bn dn ds sc pw M e mv x y tx ty ho hm h => ?_⟩⟩
 ·cases M with
  | beg => exact h2 ng bn dn ds sc pw _ e _ ho ⟨rfl, rfl, rfl⟩ ⟨h⟩
  | bod q p => exact h3 ng bn dn ds sc pw _ e _ _ _ _ _ ho ⟨rfl, rfl, rfl⟩ ⟨h⟩
  | exq q m => exact h3 ng bn dn ds sc pw _ e _ _ _ _ _ ho ⟨rfl, rfl, rfl⟩ ⟨h⟩
  | beh => exact h2 ng bn dn ds sc pw _ e _ ho ⟨rfl, rfl, rfl⟩ ⟨h⟩
 ·have := h2 ng bn dn ds sc pw M e ho h.h
  rw [← hm.v, ← hm.b0, ← hm.b1] at this
  exact this
 ·have := h2 ng bn dn ds sc pw M e ho h.h
  rw [← hm.v, ← hm.b0, ← hm.b1] at this
  exact this
theorem enc_dig {c : Int} (h : dig c = true) : bz (Utf8.encode (IntKind.wrap .i32 c)) = [c] ∧ (Utf8.encode (IntKind.wrap .i32 c)).size = 1 := by
 unfold dig at h
 have h := of_decide_eq_true h
 have : c = 48 ∨ c = 49 ∨ c = 50 ∨ c = 51 ∨ c = 52 ∨ c = 53 ∨ c = 54 ∨ c = 55 ∨ c = 56 ∨ c = 57 := by omega
 rcases this with h | h | h | h | h | h | h | h | h | h <;> subst h <;> exact ⟨by kernel_rfl, by kernel_rfl⟩
theorem enc_app {c : Int} {ds : ByteArray} (h : dig c = true) (hs : ds.size ≤ 255) : bz (ds ++ Utf8.encode (IntKind.wrap .i32 c)) = bz ds ++ [c] ∧ (ds ++ Utf8.encode (IntKind.wrap .i32 c)).size = ds.size + 1 ∧ strFit (ds.size + (Utf8.encode (IntKind.wrap .i32 c)).size) = true := by
 obtain ⟨h1, h2⟩ := enc_dig h
 refine ⟨by rw [bz_append, h1], by rw [ByteArray.size_append, h2], ?_⟩
 rw [h2]
 simp only [strFit, Nat.ble_eq]
 omega
def V24_0 : ByteArray × Bool × ByteArray × Int × Bool × Bool × Bool × Bool × ByteArray × Int × Int × Ms × Bool × Int × Int → List Value := fun (s, zb, zs, zi, f, ng, bn, dn, ds, sc, pw, M, e, L, i) => [S s, .pointer (some ⟨0, 0, some 0⟩), B f, .pointer (some ⟨6, 0, some 0⟩), .pointer (some ⟨11, 0, some 0⟩), I L, I i]
def B24_0 : ByteArray × Bool × ByteArray × Int × Bool × Bool × Bool × Bool × ByteArray × Int × Int × Ms × Bool × Int × Int → List (Option Blk) := fun (s, zb, zs, zi, f, ng, bn, dn, ds, sc, pw, M, e, L, i) => [some ⟨[B zb, S zs, I zi], 33, true⟩, some ⟨[B ng, B bn, B dn, S ds, I sc, I pw], 83, true⟩, some ⟨[M.v, B e], 86, true⟩, M.b0, M.b1]
def S24_0 : LSpecA (ByteArray × Bool × ByteArray × Int × Bool × Bool × Bool × Bool × ByteArray × Int × Int × Ms × Bool × Int × Int) where
 live := [0, 2, 3, 4, 5, 15, 16]
 mid := [0, 6, 11, 200, 201]
 n := 210
 ap := [(.cap 11 0 0 9000000, 200), (.cap 11 0 1 9000001, 201)]
 dec vs bs := match vs, bs with
  | [.string s, .pointer (some ⟨0, 0, some 0⟩), .bool f, .pointer (some ⟨6, 0, some 0⟩), .pointer (some ⟨11, 0, some 0⟩), .int .i64 L, .int .i64 i], [some ⟨[.bool zb, .string zs, .int .i64 zi], 33, true⟩, some ⟨[.bool ng, .bool bn, .bool dn, .string ds, .int .i64 sc, .int .i64 pw], 83, true⟩, some ⟨[.func (.func 151) ⟨[]⟩ ⟨[]⟩, .bool e], 86, true⟩, none, none] => some (s, zb, zs, zi, f, ng, bn, dn, ds, sc, pw, .beg, e, L, i)
  | [.string s, .pointer (some ⟨0, 0, some 0⟩), .bool f, .pointer (some ⟨6, 0, some 0⟩), .pointer (some ⟨11, 0, some 0⟩), .int .i64 L, .int .i64 i], [some ⟨[.bool zb, .string zs, .int .i64 zi], 33, true⟩, some ⟨[.bool ng, .bool bn, .bool dn, .string ds, .int .i64 sc, .int .i64 pw], 83, true⟩, some ⟨[.func (.func 264) ⟨[]⟩ ⟨[]⟩, .bool e], 86, true⟩, none, none] => some (s, zb, zs, zi, f, ng, bn, dn, ds, sc, pw, .beh, e, L, i)
  | [.string s, .pointer (some ⟨0, 0, some 0⟩), .bool f, .pointer (some ⟨6, 0, some 0⟩), .pointer (some ⟨11, 0, some 0⟩), .int .i64 L, .int .i64 i], [some ⟨[.bool zb, .string zs, .int .i64 zi], 33, true⟩, some ⟨[.bool ng, .bool bn, .bool dn, .string ds, .int .i64 sc, .int .i64 pw], 83, true⟩, some ⟨[.func (.func 212) ⟨[]⟩ ⟨[.pointer (some ⟨200, 0, some 0⟩), .pointer (some ⟨201, 0, some 0⟩)]⟩, .bool e], 86, true⟩, some ⟨[.bool p], 4, true⟩, some ⟨[.bool q], 4, true⟩] => some (s, zb, zs, zi, f, ng, bn, dn, ds, sc, pw, .bod q p, e, L, i)
  | [.string s, .pointer (some ⟨0, 0, some 0⟩), .bool f, .pointer (some ⟨6, 0, some 0⟩), .pointer (some ⟨11, 0, some 0⟩), .int .i64 L, .int .i64 i], [some ⟨[.bool zb, .string zs, .int .i64 zi], 33, true⟩, some ⟨[.bool ng, .bool bn, .bool dn, .string ds, .int .i64 sc, .int .i64 pw], 83, true⟩, some ⟨[.func (.func 263) ⟨[]⟩ ⟨[.pointer (some ⟨200, 0, some 0⟩), .pointer (some ⟨201, 0, some 0⟩)]⟩, .bool e], 86, true⟩, some ⟨[.int .i64 m], 3, true⟩, some ⟨[.bool q], 4, true⟩] => some (s, zb, zs, zi, f, ng, bn, dn, ds, sc, pw, .exq q m, e, L, i)
  | _, _ => none
 pre := fun (s, zb, zs, zi, f, ng, bn, dn, ds, sc, pw, M, e, L, i) => M.ok e pw sc && decide (0 ≤ i ∧ i ≤ L ∧ L = s.size ∧ L ≤ 255 ∧ (ds.size : Int) ≤ i ∧ 0 ≤ sc ∧ sc ≤ i)
 fin := fun (s, zb, zs, zi, f, ng, bn, dn, ds, sc, pw, M, e, L, i) Z => FinN ((bz s).drop i.toNat) M.st ⟨ng, bn, dn, bz ds, sc, pw⟩ (∀ (ng' bn' dn' : Bool) (ds' : ByteArray) (sc' pw' j : Int), Z .ret [S s, .pointer (some ⟨0, 0, some 0⟩), B false, .pointer (some ⟨6, 0, some 0⟩), .pointer (some ⟨11, 0, some 0⟩), I L, I j] [some ⟨[B false, S e0, I 0], 33, true⟩, some ⟨[B ng', B bn', B dn', S ds', I sc', I pw'], 83, true⟩, some ⟨[.nilFunc, B false], 86, true⟩, none, none]) (fun ng' bn' dn' ds' sc' pw' e' mv b0 b1 => Z (.exit 0) [S s, .pointer (some ⟨0, 0, some 0⟩), B f, .pointer (some ⟨6, 0, some 0⟩), .pointer (some ⟨11, 0, some 0⟩), I L, I L] [some ⟨[B zb, S zs, I zi], 33, true⟩, some ⟨[B ng', B bn', B dn', S ds', I sc', I pw'], 83, true⟩, some ⟨[mv, B e'], 86, true⟩, b0, b1])
theorem r24_0b (s : ByteArray) (zb : Bool) (zs : ByteArray) (zi : Int) (f : Bool) (ng : Bool) (bn : Bool) (dn : Bool) (ds : ByteArray) (sc : Int) (pw : Int) (e : Bool) (L : Int) (i : Int) (jk : Tmps) (R : Exit → List Value → List (Option Blk) → Prop) : (codeQ Tryz.prog G9 noL Tryz.f24.ntmps (loopOf Tryz.f24 0) (tl S24_0.live (V24_0 (s, zb, zs, zi, f, ng, bn, dn, ds, sc, pw, .beg, e, L, i)) jk) (ml S24_0.mid (B24_0 (s, zb, zs, zi, f, ng, bn, dn, ds, sc, pw, .beg, e, L, i))) S24_0.n fun e t' m' _ => S24_0.out R e t' m') = ( bif decide (i < L) then bif decide (0 ≤ i ∧ i < (↑(ByteArray.size s) : Int)) then bif byteAt s (Int.toNat i) == 32 then R Exit.normal [S s, .pointer (some (.mk 0 0 (some 0))), B f, .pointer (some (.mk 6 0 (some 0))), .pointer (some (.mk 11 0 (some 0))), I L, I (IntKind.wrap .i64 (i + 1))] [some (.mk [B zb, S zs, I zi] 33 true), some (.mk [B ng, B bn, B dn, S ds, I sc, I pw] 83 true), some (.mk [Value.func (Fn.func 151) (.mk []) (.mk []), B true] 86 true), none, none] else bif byteAt s (Int.toNat i) == 43 || true then bif byteAt s (Int.toNat i) == 43 || byteAt s (Int.toNat i) == 45 then R Exit.normal [S s, .pointer (some (.mk 0 0 (some 0))), B f, .pointer (some (.mk 6 0 (some 0))), .pointer (some (.mk 11 0 (some 0))), I L, I (IntKind.wrap .i64 (i + 1))] [some (.mk [B zb, S zs, I zi] 33 true), some (.mk [B (byteAt s (Int.toNat i) == 45), B bn, B dn, S ds, I sc, I pw] 83 true), some (.mk [Value.func (Fn.func 212) (.mk []) (.mk [.pointer (some (.mk 200 0 (some 0))), .pointer (some (.mk 201 0 (some 0)))]), B false] 86 true), some (.mk [B false] 4 true), some (.mk [B false] 4 true)] else bif dig (byteAt s (Int.toNat i)) then bif strFit (ByteArray.size ds + ByteArray.size (Utf8.encode (IntKind.wrap .i32 (byteAt s (Int.toNat i))))) then R Exit.normal [S s, .pointer (some (.mk 0 0 (some 0))), B f, .pointer (some (.mk 6 0 (some 0))), .pointer (some (.mk 11 0 (some 0))), I L, I (IntKind.wrap .i64 (i + 1))] [some (.mk [B zb, S zs, I zi] 33 true), some (.mk [B ng, B bn, B dn, S (ds ++ Utf8.encode (IntKind.wrap .i32 (byteAt s (Int.toNat i)))), I sc, I pw] 83 true), some (.mk [Value.func (Fn.func 212) (.mk []) (.mk [.pointer (some (.mk 200 0 (some 0))), .pointer (some (.mk 201 0 (some 0)))]), B true] 86 true), some (.mk [B false] 4 true), some (.mk [B true] 4 true)] else False else bif byteAt s (Int.toNat i) == 46 || true then bif byteAt s (Int.toNat i) == 46 && !false then R Exit.normal [S s, .pointer (some (.mk 0 0 (some 0))), B f, .pointer (some (.mk 6 0 (some 0))), .pointer (some (.mk 11 0 (some 0))), I L, I (IntKind.wrap .i64 (i + 1))] [some (.mk [B zb, S zs, I zi] 33 true), some (.mk [B ng, B bn, B dn, S ds, I sc, I pw] 83 true), some (.mk [Value.func (Fn.func 212) (.mk []) (.mk [.pointer (some (.mk 200 0 (some 0))), .pointer (some (.mk 201 0 (some 0)))]), B false] 86 true), some (.mk [B true] 4 true), some (.mk [B false] 4 true)] else R Exit.ret [S s, .pointer (some (.mk 0 0 (some 0))), B false, .pointer (some (.mk 6 0 (some 0))), .pointer (some (.mk 11 0 (some 0))), I L, I i] [some (.mk [B false, S (ByteArray.mk #[]), I 0] 33 true), some (.mk [B ng, B bn, B dn, S ds, I sc, I pw] 83 true), some (.mk [Value.nilFunc, B false] 86 true), none, none] else False else False else False else R (Exit.exit 0) [S s, .pointer (some (.mk 0 0 (some 0))), B f, .pointer (some (.mk 6 0 (some 0))), .pointer (some (.mk 11 0 (some 0))), I L, I i] [some (.mk [B zb, S zs, I zi] 33 true), some (.mk [B ng, B bn, B dn, S ds, I sc, I pw] 83 true), some (.mk [Value.func (Fn.func 151) (.mk []) (.mk []), B e] 86 true), none, none]) := by kernel_rfl
theorem r24_0d (s : ByteArray) (zb : Bool) (zs : ByteArray) (zi : Int) (f : Bool) (ng : Bool) (bn : Bool) (dn : Bool) (ds : ByteArray) (sc : Int) (pw : Int) (q : Bool) (p : Bool) (e : Bool) (L : Int) (i : Int) (jk : Tmps) (R : Exit → List Value → List (Option Blk) → Prop) : (codeQ Tryz.prog G9 noL Tryz.f24.ntmps (loopOf Tryz.f24 0) (tl S24_0.live (V24_0 (s, zb, zs, zi, f, ng, bn, dn, ds, sc, pw, (.bod q p), e, L, i)) jk) (ml S24_0.mid (B24_0 (s, zb, zs, zi, f, ng, bn, dn, ds, sc, pw, (.bod q p), e, L, i))) S24_0.n fun e t' m' _ => S24_0.out R e t' m') = ( bif decide (i < L) then bif decide (0 ≤ i ∧ i < (↑(ByteArray.size s) : Int)) then bif dig (byteAt s (Int.toNat i)) then bif strFit (ByteArray.size ds + ByteArray.size (Utf8.encode (IntKind.wrap .i32 (byteAt s (Int.toNat i))))) then bif p then R Exit.normal [S s, .pointer (some (.mk 0 0 (some 0))), B f, .pointer (some (.mk 6 0 (some 0))), .pointer (some (.mk 11 0 (some 0))), I L, I (IntKind.wrap .i64 (i + 1))] [some (.mk [B zb, S zs, I zi] 33 true), some (.mk [B ng, B bn, B dn, S (ds ++ Utf8.encode (IntKind.wrap .i32 (byteAt s (Int.toNat i)))), I (IntKind.wrap .i64 (sc + 1)), I pw] 83 true), some (.mk [Value.func (Fn.func 212) (.mk []) (.mk [.pointer (some (.mk 200 0 (some 0))), .pointer (some (.mk 201 0 (some 0)))]), B true] 86 true), some (.mk [B p] 4 true), some (.mk [B true] 4 true)] else R Exit.normal [S s, .pointer (some (.mk 0 0 (some 0))), B f, .pointer (some (.mk 6 0 (some 0))), .pointer (some (.mk 11 0 (some 0))), I L, I (IntKind.wrap .i64 (i + 1))] [some (.mk [B zb, S zs, I zi] 33 true), some (.mk [B ng, B bn, B dn, S (ds ++ Utf8.encode (IntKind.wrap .i32 (byteAt s (Int.toNat i)))), I sc, I pw] 83 true), some (.mk [Value.func (Fn.func 212) (.mk []) (.mk [.pointer (some (.mk 200 0 (some 0))), .pointer (some (.mk 201 0 (some 0)))]), B true] 86 true), some (.mk [B p] 4 true), some (.mk [B true] 4 true)] else False else bif byteAt s (Int.toNat i) == 46 || true then bif byteAt s (Int.toNat i) == 46 && !p then R Exit.normal [S s, .pointer (some (.mk 0 0 (some 0))), B f, .pointer (some (.mk 6 0 (some 0))), .pointer (some (.mk 11 0 (some 0))), I L, I (IntKind.wrap .i64 (i + 1))] [some (.mk [B zb, S zs, I zi] 33 true), some (.mk [B ng, B bn, B dn, S ds, I sc, I pw] 83 true), some (.mk [Value.func (Fn.func 212) (.mk []) (.mk [.pointer (some (.mk 200 0 (some 0))), .pointer (some (.mk 201 0 (some 0)))]), B q] 86 true), some (.mk [B true] 4 true), some (.mk [B q] 4 true)] else bif !q then R Exit.ret [S s, .pointer (some (.mk 0 0 (some 0))), B false, .pointer (some (.mk 6 0 (some 0))), .pointer (some (.mk 11 0 (some 0))), I L, I i] [some (.mk [B false, S (ByteArray.mk #[]), I 0] 33 true), some (.mk [B ng, B bn, B dn, S ds, I sc, I pw] 83 true), some (.mk [Value.nilFunc, B false] 86 true), none, none] else bif byteAt s (Int.toNat i) == 69 then R Exit.normal [S s, .pointer (some (.mk 0 0 (some 0))), B f, .pointer (some (.mk 6 0 (some 0))), .pointer (some (.mk 11 0 (some 0))), I L, I (IntKind.wrap .i64 (i + 1))] [some (.mk [B zb, S zs, I zi] 33 true), some (.mk [B ng, B bn, B dn, S ds, I sc, I pw] 83 true), some (.mk [Value.func (Fn.func 263) (.mk []) (.mk [.pointer (some (.mk 200 0 (some 0))), .pointer (some (.mk 201 0 (some 0)))]), B (decide (0 > 0))] 86 true), some (.mk [I 0] 3 true), some (.mk [B false] 4 true)] else bif byteAt s (Int.toNat i) == 66 || true then bif byteAt s (Int.toNat i) == 66 && !p then R Exit.normal [S s, .pointer (some (.mk 0 0 (some 0))), B f, .pointer (some (.mk 6 0 (some 0))), .pointer (some (.mk 11 0 (some 0))), I L, I (IntKind.wrap .i64 (i + 1))] [some (.mk [B zb, S zs, I zi] 33 true), some (.mk [B ng, B true, B dn, S ds, I sc, I pw] 83 true), some (.mk [Value.func (Fn.func 264) (.mk []) (.mk []), B true] 86 true), none, none] else bif byteAt s (Int.toNat i) == 32 then R Exit.normal [S s, .pointer (some (.mk 0 0 (some 0))), B f, .pointer (some (.mk 6 0 (some 0))), .pointer (some (.mk 11 0 (some 0))), I L, I (IntKind.wrap .i64 (i + 1))] [some (.mk [B zb, S zs, I zi] 33 true), some (.mk [B ng, B bn, B dn, S ds, I sc, I pw] 83 true), some (.mk [Value.func (Fn.func 264) (.mk []) (.mk []), B true] 86 true), none, none] else R Exit.ret [S s, .pointer (some (.mk 0 0 (some 0))), B false, .pointer (some (.mk 6 0 (some 0))), .pointer (some (.mk 11 0 (some 0))), I L, I i] [some (.mk [B false, S (ByteArray.mk #[]), I 0] 33 true), some (.mk [B ng, B bn, B dn, S ds, I sc, I pw] 83 true), some (.mk [Value.nilFunc, B false] 86 true), none, none] else False else False else False else R (Exit.exit 0) [S s, .pointer (some (.mk 0 0 (some 0))), B f, .pointer (some (.mk 6 0 (some 0))), .pointer (some (.mk 11 0 (some 0))), I L, I i] [some (.mk [B zb, S zs, I zi] 33 true), some (.mk [B ng, B bn, B dn, S ds, I sc, I pw] 83 true), some (.mk [Value.func (Fn.func 212) (.mk []) (.mk [.pointer (some (.mk 200 0 (some 0))), .pointer (some (.mk 201 0 (some 0)))]), B e] 86 true), some (.mk [B p] 4 true), some (.mk [B q] 4 true)]) := by kernel_rfl
theorem r24_0x (s : ByteArray) (zb : Bool) (zs : ByteArray) (zi : Int) (f : Bool) (ng : Bool) (bn : Bool) (dn : Bool) (ds : ByteArray) (sc : Int) (pw : Int) (q : Bool) (m : Int) (e : Bool) (L : Int) (i : Int) (jk : Tmps) (R : Exit → List Value → List (Option Blk) → Prop) : (codeQ Tryz.prog G9 noL Tryz.f24.ntmps (loopOf Tryz.f24 0) (tl S24_0.live (V24_0 (s, zb, zs, zi, f, ng, bn, dn, ds, sc, pw, (.exq q m), e, L, i)) jk) (ml S24_0.mid (B24_0 (s, zb, zs, zi, f, ng, bn, dn, ds, sc, pw, (.exq q m), e, L, i))) S24_0.n fun e t' m' _ => S24_0.out R e t' m') = ( bif decide (i < L) then bif decide (0 ≤ i ∧ i < (↑(ByteArray.size s) : Int)) then bif dig (byteAt s (Int.toNat i)) || true then bif dig (byteAt s (Int.toNat i)) && decide (m < 2) then R Exit.normal [S s, .pointer (some (.mk 0 0 (some 0))), B f, .pointer (some (.mk 6 0 (some 0))), .pointer (some (.mk 11 0 (some 0))), I L, I (IntKind.wrap .i64 (i + 1))] [some (.mk [B zb, S zs, I zi] 33 true), some (.mk [B ng, B bn, B dn, S ds, I sc, I (IntKind.wrap .i64 (IntKind.wrap .i64 (10 * pw) + IntKind.wrap .i64 (IntKind.wrap .u8 (byteAt s (Int.toNat i) - 48))))] 83 true), some (.mk [Value.func (Fn.func 263) (.mk []) (.mk [.pointer (some (.mk 200 0 (some 0))), .pointer (some (.mk 201 0 (some 0)))]), B (decide (IntKind.wrap .i64 (m + 1) > 0))] 86 true), some (.mk [I (IntKind.wrap .i64 (m + 1))] 3 true), some (.mk [B true] 4 true)] else bif byteAt s (Int.toNat i) == 43 || (byteAt s (Int.toNat i) == 45 || true) then bif bif byteAt s (Int.toNat i) == 43 then !q else byteAt s (Int.toNat i) == 45 && !q then R Exit.normal [S s, .pointer (some (.mk 0 0 (some 0))), B f, .pointer (some (.mk 6 0 (some 0))), .pointer (some (.mk 11 0 (some 0))), I L, I (IntKind.wrap .i64 (i + 1))] [some (.mk [B zb, S zs, I zi] 33 true), some (.mk [B ng, B bn, B (byteAt s (Int.toNat i) == 45), S ds, I sc, I pw] 83 true), some (.mk [Value.func (Fn.func 263) (.mk []) (.mk [.pointer (some (.mk 200 0 (some 0))), .pointer (some (.mk 201 0 (some 0)))]), B (decide (0 > 0))] 86 true), some (.mk [I 0] 3 true), some (.mk [B true] 4 true)] else bif byteAt s (Int.toNat i) == 32 || true then bif byteAt s (Int.toNat i) == 32 && decide (m > 0) then R Exit.normal [S s, .pointer (some (.mk 0 0 (some 0))), B f, .pointer (some (.mk 6 0 (some 0))), .pointer (some (.mk 11 0 (some 0))), I L, I (IntKind.wrap .i64 (i + 1))] [some (.mk [B zb, S zs, I zi] 33 true), some (.mk [B ng, B bn, B dn, S ds, I sc, I pw] 83 true), some (.mk [Value.func (Fn.func 264) (.mk []) (.mk []), B true] 86 true), none, none] else R Exit.ret [S s, .pointer (some (.mk 0 0 (some 0))), B false, .pointer (some (.mk 6 0 (some 0))), .pointer (some (.mk 11 0 (some 0))), I L, I i] [some (.mk [B false, S (ByteArray.mk #[]), I 0] 33 true), some (.mk [B ng, B bn, B dn, S ds, I sc, I pw] 83 true), some (.mk [Value.nilFunc, B false] 86 true), none, none] else False else False else False else False else R (Exit.exit 0) [S s, .pointer (some (.mk 0 0 (some 0))), B f, .pointer (some (.mk 6 0 (some 0))), .pointer (some (.mk 11 0 (some 0))), I L, I i] [some (.mk [B zb, S zs, I zi] 33 true), some (.mk [B ng, B bn, B dn, S ds, I sc, I pw] 83 true), some (.mk [Value.func (Fn.func 263) (.mk []) (.mk [.pointer (some (.mk 200 0 (some 0))), .pointer (some (.mk 201 0 (some 0)))]), B e] 86 true), some (.mk [I m] 3 true), some (.mk [B q] 4 true)]) := by kernel_rfl
theorem r24_0h (s : ByteArray) (zb : Bool) (zs : ByteArray) (zi : Int) (f : Bool) (ng : Bool) (bn : Bool) (dn : Bool) (ds : ByteArray) (sc : Int) (pw : Int) (e : Bool) (L : Int) (i : Int) (jk : Tmps) (R : Exit → List Value → List (Option Blk) → Prop) : (codeQ Tryz.prog G9 noL Tryz.f24.ntmps (loopOf Tryz.f24 0) (tl S24_0.live (V24_0 (s, zb, zs, zi, f, ng, bn, dn, ds, sc, pw, .beh, e, L, i)) jk) (ml S24_0.mid (B24_0 (s, zb, zs, zi, f, ng, bn, dn, ds, sc, pw, .beh, e, L, i))) S24_0.n fun e t' m' _ => S24_0.out R e t' m') = ( bif decide (i < L) then bif decide (0 ≤ i ∧ i < (↑(ByteArray.size s) : Int)) then bif byteAt s (Int.toNat i) == 32 then R Exit.normal [S s, .pointer (some (.mk 0 0 (some 0))), B f, .pointer (some (.mk 6 0 (some 0))), .pointer (some (.mk 11 0 (some 0))), I L, I (IntKind.wrap .i64 (i + 1))] [some (.mk [B zb, S zs, I zi] 33 true), some (.mk [B ng, B bn, B dn, S ds, I sc, I pw] 83 true), some (.mk [Value.func (Fn.func 264) (.mk []) (.mk []), B true] 86 true), none, none] else R Exit.ret [S s, .pointer (some (.mk 0 0 (some 0))), B false, .pointer (some (.mk 6 0 (some 0))), .pointer (some (.mk 11 0 (some 0))), I L, I i] [some (.mk [B false, S (ByteArray.mk #[]), I 0] 33 true), some (.mk [B ng, B bn, B dn, S ds, I sc, I pw] 83 true), some (.mk [Value.nilFunc, B false] 86 true), none, none] else False else R (Exit.exit 0) [S s, .pointer (some (.mk 0 0 (some 0))), B f, .pointer (some (.mk 6 0 (some 0))), .pointer (some (.mk 11 0 (some 0))), I L, I i] [some (.mk [B zb, S zs, I zi] 33 true), some (.mk [B ng, B bn, B dn, S ds, I sc, I pw] 83 true), some (.mk [Value.func (Fn.func 264) (.mk []) (.mk []), B e] 86 true), none, none]) := by kernel_rfl
theorem l24_0 : LOKf Tryz.prog (oneL 0 S24_0.hA) Tryz.f24 := by
 refine lokf_one (h := S24_0.hA) (by kernel_rfl) (loop_specA ok_G9 hmix (by kernel_rfl) (lok_none _) S24_0 V24_0 B24_0 (fun (s, zb, zs, zi, f, ng, bn, dn, ds, sc, pw, M, e, L, i) => (L - i).toNat) ?_ ?_ ?_)
 ·intro vs bs s h
  simp only [S24_0] at h
  split at h
  all_goals first | (cases h; exact ⟨rfl, rfl⟩) | cases h | (split at h <;> first | (rename_i hq; cases h; have hq := Nat.eq_of_beq_eq_true hq; subst hq; exact ⟨rfl, rfl⟩) | cases h)
 ·exact fun ⟨s, zb, zs, zi, f, ng, bn, dn, ds, sc, pw, M, e, L, i⟩ hp => by cases M <;> rfl
 ·intro ⟨s, zb, zs, zi, f, ng, bn, dn, ds, sc, pw, M, e, L, i⟩ jk Z hp hf
  simp only [S24_0] at hp hf
  rw [fin_iff] at hf
  simp only [Bool.and_eq_true, decide_eq_true_eq] at hp
  obtain ⟨hM, hi0, hiL, hLs, hL, hds, hsc0, hsci⟩ := hp
  have hw : i < L → IntKind.i64.wrap (i + 1) = i + 1 := fun h => w64 (by omega)
  have hin : i < L → decide (0 ≤ i ∧ i < (s.size : Int)) = true := fun h => decide_eq_true (by omega)
  have hex : ¬ i < L → i = L := fun h => by omega
  have hxr : ¬ i < L → runQ ((bz s).drop i.toNat) M.st ⟨ng, bn, dn, bz ds, sc, pw⟩ = some (M.st, ⟨ng, bn, dn, bz ds, sc, pw⟩) := fun h => by rw [bz_end (by omega)]; rfl
  have hxe : (M.ok e pw sc && decide (ds.size ≤ 255 ∧ 0 ≤ sc ∧ sc ≤ 255)) = true := by rw [hM, decide_eq_true (show ds.size ≤ 255 ∧ 0 ≤ sc ∧ sc ≤ 255 by omega)]; rfl
  by_cases hlt : i < L
  case neg =>
   have hz := hf.2 ng bn dn ds sc pw M e hxe (hxr hlt)
   obtain rfl := hex hlt
   cases M with
   | beg =>
    rw [r24_0b]
    exact c_f (decide_eq_false hlt) hz
   | bod q p =>
    rw [r24_0d]
    exact c_f (decide_eq_false hlt) hz
   | exq q m =>
    rw [r24_0x]
    exact c_f (decide_eq_false hlt) hz
   | beh =>
    rw [r24_0h]
    exact c_f (decide_eq_false hlt) hz
  rw [bz_at hi0 (by omega)] at hf
  cases M with
  | beg =>
   rw [r24_0b, hw hlt]
   simp only [Ms.ok, Bool.and_eq_true, decide_eq_true_eq] at hM
   have hpw := hM.2
   refine c_t (decide_eq_true hlt) (c_t (hin hlt) (cond_intro (fun hg => ?_) (fun hg => ?_)))
   ·have hg : byteAt s i.toNat = 32 := eq_of_beq hg
    rw [show Ms.beg.st = St.beg from rfl, q_beg1 hg] at hf
    refine ⟨(s, zb, zs, zi, f, ng, bn, dn, ds, sc, pw, .beg, true, L, i + 1), rfl, rfl, ?_, by simp only; omega, (by simp only [S24_0]; exact fin_iff.2 hf)⟩
    simp only [S24_0, Bool.and_eq_true, decide_eq_true_eq]
    exact ⟨by simp [Ms.ok, hpw], by omega, by omega, by omega, by omega, by omega, by omega, by omega⟩
   have h32 : ¬ byteAt s i.toNat = 32 := by simpa using hg
   refine c_t (by simp) (cond_intro (fun hg => ?_) (fun hg => ?_))
   ·have hg : byteAt s i.toNat = 43 ∨ byteAt s i.toNat = 45 := by simpa using hg
    have e45 : decide (byteAt s i.toNat = 45) = (byteAt s i.toNat == 45) := rfl
    rw [show Ms.beg.st = St.beg from rfl, q_beg2 hg] at hf
    refine ⟨(s, zb, zs, zi, f, (byteAt s i.toNat == 45), bn, dn, ds, sc, pw, (.bod false false), false, L, i + 1), rfl, rfl, ?_, by simp only; omega, (by simp only [S24_0]; exact fin_iff.2 hf)⟩
    simp only [S24_0, Bool.and_eq_true, decide_eq_true_eq]
    exact ⟨by simp [Ms.ok, hpw], by omega, by omega, by omega, by omega, by omega, by omega, by omega⟩
   have hsg : ¬ (byteAt s i.toNat = 43 ∨ byteAt s i.toNat = 45) := by
    intro q
    have : (byteAt s i.toNat == 43 || byteAt s i.toNat == 45) = true := by simpa using q
    rw [this] at hg
    cases hg
   rw [show Ms.beg.st = St.beg from rfl, q_beg3 h32 hsg] at hf
   refine cond_intro (fun hg => ?_) (fun hg => ?_)
   ·obtain ⟨e1, e2, e3⟩ := enc_app (ds := ds) hg (by omega)
    refine c_t e3 ?_
    rw [q_bod1 hg] at hf
    refine ⟨(s, zb, zs, zi, f, ng, bn, dn, ds ++ Utf8.encode (IntKind.wrap .i32 (byteAt s i.toNat)), sc, pw, (.bod true false), true, L, i + 1), rfl, rfl, ?_, by simp only; omega, ?_⟩
    ·simp only [S24_0, Bool.and_eq_true, decide_eq_true_eq]
     exact ⟨by simp [Ms.ok, hpw], by omega, by omega, by omega, by omega, by rw [e2]; omega, by omega, by omega⟩
    ·simp only [S24_0]
     rw [e1]
     exact fin_iff.2 hf
   refine c_t (by simp) (cond_intro (fun h46 => ?_) (fun h46 => ?_))
   ·have h46 : byteAt s i.toNat = 46 := by simpa using h46
    rw [q_bod2 h46] at hf
    refine ⟨(s, zb, zs, zi, f, ng, bn, dn, ds, sc, pw, (.bod false true), false, L, i + 1), rfl, rfl, ?_, by simp only; omega, (by simp only [S24_0]; exact fin_iff.2 hf)⟩
    simp only [S24_0, Bool.and_eq_true, decide_eq_true_eq]
    exact ⟨by simp [Ms.ok, hpw], by omega, by omega, by omega, by omega, by omega, by omega, by omega⟩
   ·have h46 : ¬ byteAt s i.toNat = 46 := by simpa using h46
    exact hf.1 (by rw [q_bod3 hg (fun q => h46 q.1)]) ng bn dn ds sc pw i
  | bod q p =>
   rw [r24_0d, hw hlt]
   simp only [Ms.ok, Bool.and_eq_true, decide_eq_true_eq] at hM
   obtain ⟨heq, hpw⟩ := hM
   rw [show (Ms.bod q p).st = St.bod q p from rfl] at hf
   refine c_t (decide_eq_true hlt) (c_t (hin hlt) (cond_intro (fun hg => ?_) (fun hg => ?_)))
   ·obtain ⟨e1, e2, e3⟩ := enc_app (ds := ds) hg (by omega)
    refine c_t e3 ?_
    rw [q_bod1 hg] at hf
    cases p with
    | true =>
     rw [w64 (n := sc + 1) (by omega)]
     refine ⟨(s, zb, zs, zi, f, ng, bn, dn, ds ++ Utf8.encode (IntKind.wrap .i32 (byteAt s i.toNat)), sc + 1, pw, (.bod true true), true, L, i + 1), rfl, rfl, ?_, by simp only; omega, ?_⟩
     ·simp only [S24_0, Bool.and_eq_true, decide_eq_true_eq]
      exact ⟨by simp [Ms.ok, hpw], by omega, by omega, by omega, by omega, by rw [e2]; omega, by omega, by omega⟩
     ·simp only [S24_0]
      rw [e1]
      exact fin_iff.2 hf
    | false =>
     refine ⟨(s, zb, zs, zi, f, ng, bn, dn, ds ++ Utf8.encode (IntKind.wrap .i32 (byteAt s i.toNat)), sc, pw, (.bod true false), true, L, i + 1), rfl, rfl, ?_, by simp only; omega, ?_⟩
     ·simp only [S24_0, Bool.and_eq_true, decide_eq_true_eq]
      exact ⟨by simp [Ms.ok, hpw], by omega, by omega, by omega, by omega, by rw [e2]; omega, by omega, by omega⟩
     ·simp only [S24_0]
      rw [e1]
      exact fin_iff.2 hf
   refine c_t (by simp) (cond_intro (fun h46 => ?_) (fun h46 => ?_))
   ·obtain ⟨h46x, hp⟩ : byteAt s i.toNat = 46 ∧ p = false := by simpa using h46
    subst hp
    rw [q_bod2 h46x] at hf
    refine ⟨(s, zb, zs, zi, f, ng, bn, dn, ds, sc, pw, (.bod q true), q, L, i + 1), rfl, rfl, ?_, by simp only; omega, (by simp only [S24_0]; exact fin_iff.2 hf)⟩
    simp only [S24_0, Bool.and_eq_true, decide_eq_true_eq]
    exact ⟨by simp [Ms.ok, hpw], by omega, by omega, by omega, by omega, by omega, by omega, by omega⟩
   have h46' : ¬ (byteAt s i.toNat = 46 ∧ p = false) := by
    intro z
    have : (byteAt s i.toNat == 46 && !p) = true := by simpa using z
    rw [this] at h46
    cases h46
   cases q with
   | false =>
    refine c_t rfl ?_
    exact hf.1 (by rw [q_bod3 hg h46']) ng bn dn ds sc pw i
   | true =>
    refine c_f rfl (cond_intro (fun h69 => ?_) (fun h69 => ?_))
    ·have h69 : byteAt s i.toNat = 69 := eq_of_beq h69
     rw [q_bod4 h69] at hf
     refine ⟨(s, zb, zs, zi, f, ng, bn, dn, ds, sc, pw, (.exq false 0), false, L, i + 1), rfl, rfl, ?_, by simp only; omega, (by simp only [S24_0]; exact fin_iff.2 hf)⟩
     simp only [S24_0, Bool.and_eq_true, decide_eq_true_eq]
     exact ⟨by simp [Ms.ok, hpw], by omega, by omega, by omega, by omega, by omega, by omega, by omega⟩
    have h69 : ¬ byteAt s i.toNat = 69 := by simpa using h69
    refine c_t (by simp) (cond_intro (fun h66 => ?_) (fun h66 => ?_))
    ·obtain ⟨h66x, hp⟩ : byteAt s i.toNat = 66 ∧ p = false := by simpa using h66
     subst hp
     rw [q_bod5 h66x] at hf
     refine ⟨(s, zb, zs, zi, f, ng, true, dn, ds, sc, pw, .beh, true, L, i + 1), rfl, rfl, ?_, by simp only; omega, (by simp only [S24_0]; exact fin_iff.2 hf)⟩
     simp only [S24_0, Bool.and_eq_true, decide_eq_true_eq]
     exact ⟨by simp [Ms.ok, hpw], by omega, by omega, by omega, by omega, by omega, by omega, by omega⟩
    have h66' : ¬ (byteAt s i.toNat = 66 ∧ p = false) := by
     intro z
     have : (byteAt s i.toNat == 66 && !p) = true := by simpa using z
     rw [this] at h66
     cases h66
    refine cond_intro (fun h32 => ?_) (fun h32 => ?_)
    ·have h32 : byteAt s i.toNat = 32 := eq_of_beq h32
     rw [q_bod6 h32] at hf
     refine ⟨(s, zb, zs, zi, f, ng, bn, dn, ds, sc, pw, .beh, true, L, i + 1), rfl, rfl, ?_, by simp only; omega, (by simp only [S24_0]; exact fin_iff.2 hf)⟩
     simp only [S24_0, Bool.and_eq_true, decide_eq_true_eq]
     exact ⟨by simp [Ms.ok, hpw], by omega, by omega, by omega, by omega, by omega, by omega, by omega⟩
    ·have h32 : ¬ byteAt s i.toNat = 32 := by simpa using h32
     exact hf.1 (by rw [q_bod7 hg h46' h69 h66' h32]) ng bn dn ds sc pw i
  | exq q m =>
   rw [r24_0x, hw hlt]
   simp only [Ms.ok, Bool.and_eq_true, decide_eq_true_eq] at hM
   obtain ⟨heq, hm0, hm2, hq, hp0, hp1, hp2, hp3⟩ := hM
   rw [show (Ms.exq q m).st = St.exq q m.toNat from rfl] at hf
   have hrng := byte_rng s i.toNat
   refine c_t (decide_eq_true hlt) (c_t (hin hlt) (c_t (by simp) (cond_intro (fun hg => ?_) (fun hg => ?_))))
   ·obtain ⟨hg, hm⟩ : dig (byteAt s i.toNat) = true ∧ m < 2 := by simpa using hg
    have hg2 : 48 ≤ byteAt s i.toNat ∧ byteAt s i.toNat ≤ 57 := by unfold dig at hg; exact of_decide_eq_true hg
    have hpb : pw < 10 := by
     rcases (show m = 0 ∨ m = 1 by omega) with z | z
     ·rw [hp1 z]; omega
     ·exact hp2 z
    rw [q_ex1 hg (by omega), show m.toNat + 1 = (m + 1).toNat by omega] at hf
    rw [w64 (n := 10 * pw) (by omega), w8 (n := byteAt s i.toNat - 48) (by omega), w64 (n := byteAt s i.toNat - 48) (by omega), w64 (n := 10 * pw + (byteAt s i.toNat - 48)) (by omega), w64 (n := m + 1) (by omega)]
    refine ⟨(s, zb, zs, zi, f, ng, bn, dn, ds, sc, 10 * pw + (byteAt s i.toNat - 48), (.exq true (m + 1)), decide (m + 1 > 0), L, i + 1), rfl, rfl, ?_, by simp only; omega, (by simp only [S24_0]; exact fin_iff.2 hf)⟩
    simp only [S24_0, Bool.and_eq_true, decide_eq_true_eq]
    refine ⟨?_, by omega, by omega, by omega, by omega, by omega, by omega, by omega⟩
    simp only [Ms.ok, Bool.and_eq_true, decide_eq_true_eq, beq_iff_eq]
    refine ⟨trivial, by omega, by omega, (fun h => by cases h), by omega, by omega, ?_, by omega⟩
    intro h1
    rw [hp1 (by omega)]
    omega
   have hg' : ¬ (dig (byteAt s i.toNat) = true ∧ m.toNat < 2) := by
    intro z
    have : (dig (byteAt s i.toNat) && decide (m < 2)) = true := by rw [z.1, decide_eq_true (show m < 2 by omega)]; rfl
    rw [this] at hg
    cases hg
   refine c_t (by simp) (cond_intro (fun hs => ?_) (fun hs => ?_))
   ·have hs2 : (byteAt s i.toNat = 43 ∨ byteAt s i.toNat = 45) ∧ q = false := by
     by_cases z : byteAt s i.toNat = 43
     ·simp [z] at hs; exact ⟨.inl z, hs⟩
     ·simp [z] at hs; exact ⟨.inr hs.1, hs.2⟩
    obtain ⟨hs2, rfl⟩ := hs2
    have hm := hq rfl
    subst hm
    rw [q_ex2 hs2] at hf
    refine ⟨(s, zb, zs, zi, f, ng, bn, (byteAt s i.toNat == 45), ds, sc, pw, (.exq true 0), (decide ((0 : Int) > 0)), L, i + 1), rfl, rfl, ?_, by simp only; omega, (by simp only [S24_0]; exact fin_iff.2 hf)⟩
    simp only [S24_0, Bool.and_eq_true, decide_eq_true_eq]
    refine ⟨?_, by omega, by omega, by omega, by omega, by omega, by omega, by omega⟩
    simp only [Ms.ok, Bool.and_eq_true, decide_eq_true_eq, beq_iff_eq]
    exact ⟨trivial, by omega, by omega, (fun h => by cases h), by omega, (fun _ => hp1 rfl), (fun h => by cases h), by omega⟩
   have hs' : ¬ ((byteAt s i.toNat = 43 ∨ byteAt s i.toNat = 45) ∧ q = false) := by
    rintro ⟨z | z, rfl⟩ <;> simp [z] at hs
   refine c_t (by simp) (cond_intro (fun h32 => ?_) (fun h32 => ?_))
   ·obtain ⟨h32, hm⟩ : byteAt s i.toNat = 32 ∧ m > 0 := by simpa using h32
    rw [q_ex3 h32 (by omega)] at hf
    refine ⟨(s, zb, zs, zi, f, ng, bn, dn, ds, sc, pw, .beh, true, L, i + 1), rfl, rfl, ?_, by simp only; omega, (by simp only [S24_0]; exact fin_iff.2 hf)⟩
    simp only [S24_0, Bool.and_eq_true, decide_eq_true_eq]
    exact ⟨by simp only [Ms.ok, Bool.true_and, decide_eq_true_eq]; omega, by omega, by omega, by omega, by omega, by omega, by omega, by omega⟩
   ·have h32 : ¬ (byteAt s i.toNat = 32 ∧ 0 < m.toNat) := by
     intro z
     have : (byteAt s i.toNat == 32 && decide (m > 0)) = true := by rw [z.1, decide_eq_true (show m > 0 by omega)]; rfl
     rw [this] at h32
     cases h32
    exact hf.1 (by rw [q_ex4 hg' hs' h32]) ng bn dn ds sc pw i
  | beh =>
   rw [r24_0h, hw hlt]
   simp only [Ms.ok, Bool.and_eq_true, decide_eq_true_eq] at hM
   rw [show Ms.beh.st = St.beh from rfl] at hf
   refine c_t (decide_eq_true hlt) (c_t (hin hlt) (cond_intro (fun h32 => ?_) (fun h32 => ?_)))
   ·have h32 : byteAt s i.toNat = 32 := eq_of_beq h32
    rw [q_beh1 h32] at hf
    refine ⟨(s, zb, zs, zi, f, ng, bn, dn, ds, sc, pw, .beh, true, L, i + 1), rfl, rfl, ?_, by simp only; omega, (by simp only [S24_0]; exact fin_iff.2 hf)⟩
    simp only [S24_0, Bool.and_eq_true, decide_eq_true_eq]
    exact ⟨by simp only [Ms.ok, Bool.true_and, decide_eq_true_eq]; omega, by omega, by omega, by omega, by omega, by omega, by omega, by omega⟩
   ·have h32 : ¬ byteAt s i.toNat = 32 := by simpa using h32
    exact hf.1 (by rw [q_beh2 h32]) ng bn dn ds sc pw i
theorem zl_isB (l : List UInt8) : IsB (zl l) := fun c hc => by
 obtain ⟨b, _, rfl⟩ := List.mem_map.1 hc
 have := b.toNat_lt
 omega
theorem dz_isB (n : Int) : IsB (dz n) := by
 unfold dz
 split
 ·exact IsB.nil
 ·exact zl_isB _
theorem dz_len : ∀ (k : Nat) (n : Int), 0 ≤ n → n < 10 ^ k → (dz n).length ≤ k
 | 0, n, h, h1 => by
  have : n = 0 := by simp at h1; omega
  rw [dz, if_pos this]; simp
 | k + 1, n, h, h1 => by
  by_cases h0 : n = 0
  ·rw [dz, if_pos h0]; simp
  ·rw [dz_step (by omega), List.length_append]
   rw [Int.pow_succ] at h1
   have := dz_len k (n / 10) (by omega) (by omega)
   simp
   omega
theorem norm_dz (g : Bool) (l : List Int) : normZ g (dz (binG l 0)) 0 = normZ g (binD l) 0 := by
 unfold binD
 by_cases h : binG l 0 = 0
 ·rw [h]
  have e : decZ 0 = [48] := by rw [decZ, Int.toNat_zero, Lib.decDigits_one (by decide)]; rfl
  rw [e]; rfl
 ·rw [dz, if_neg h]
theorem trim_isB {l c : List Int} (h : IsB l) : IsB (trimZ l c) := fun x hx => by
 refine h x ?_
 have := (List.dropWhile_sublist _).subset hx
 exact List.mem_reverse.1 ((List.dropWhile_sublist _).subset (List.mem_reverse.1 this))
theorem dropW_all {p : Int → Bool} : ∀ {l : List Int}, (∀ c ∈ l, p c = true) → l.dropWhile p = []
 | [], _ => rfl
 | c :: l, h => by rw [List.dropWhile_cons_of_pos (h c (List.mem_cons_self ..))]; exact dropW_all fun d hd => h d (List.mem_cons_of_mem _ hd)
theorem dropW_head {p : Int → Bool} {l : List Int} {c : Int} (hc : c ∈ l) (hp : p c = false) : ∃ d r, l.dropWhile p = d :: r ∧ p d = false := by
 induction l with
 | nil => cases hc
 | cons a l ih =>
  cases ha : p a with
  | false => exact ⟨a, l, by rw [List.dropWhile_cons_of_neg (by simp [ha])], ha⟩
  | true =>
   rw [List.dropWhile_cons_of_pos ha]
   rcases List.mem_cons.1 hc with rfl | hc
   ·rw [ha] at hp; cases hp
   ·exact ih hc
theorem trim_bits (l : List Int) : decide (trimZ l (bz ⟨#[48, 49]⟩) = []) = bitsZ l := by
 have e : bz ⟨#[48, 49]⟩ = [48, 49] := rfl
 have hh : ∀ c : Int, hasZ [48, 49] c = decide (c = 48 ∨ c = 49) := fun c => by
  rw [Bool.eq_iff_iff, hasZ_iff, decide_eq_true_eq]
  simp
 rw [e, Bool.eq_iff_iff, decide_eq_true_eq]
 constructor
 ·intro h
  unfold bitsZ
  refine List.all_eq_true.2 fun c hc => ?_
  cases q : decide (c = 48 ∨ c = 49) with
  | true => rfl
  | false =>
   exfalso
   rw [← hh] at q
   obtain ⟨d, r, h1, h2⟩ := dropW_head (List.mem_reverse.2 hc) q
   have hm : d ∈ (l.reverse.dropWhile (hasZ [48, 49])).reverse := by rw [h1]; simp
   obtain ⟨d', r', h3, _⟩ := dropW_head hm h2
   unfold trimZ at h
   rw [h3] at h
   cases h
 ·intro h
  have ha : ∀ c ∈ l, hasZ [48, 49] c = true := fun c hc => by rw [hh]; exact List.all_eq_true.1 h c hc
  unfold trimZ
  rw [dropW_all (l := l.reverse) fun c hc => ha c (List.mem_reverse.1 hc)]
  rfl
abbrev onV (x : Option Num) : Value := .tuple ⟨[numV (x.getD num0), .bool x.isSome]⟩
def s24 (s : ByteArray) : Bool × Value := (decide (s.size ≤ 9223372036854775807), onV (rdN (bz s)))
theorem fn24 : Fn1 Tryz.prog 24 Tryz.f24 := ⟨Tryz.func24, by kernel_rfl, by kernel_rfl, by kernel_rfl⟩
theorem v24 (s : ByteArray) (R : Value → Prop) : bodyQ Tryz.prog G9 (oneL 0 S24_0.hA) Tryz.f24 [Enc.enc s] (fun _ => none) 0 (fun v _ _ => R v) = ( bif decide ((↑(ByteArray.size s) : Int) > 255) then R (.tuple (.mk [.agg (.mk [B false, S (ByteArray.mk #[]), I 0]), B false])) else bif LSpec.pre (LSpecA.toLSpec S24_0) (s, false, ByteArray.mk #[], 0, false, false, false, false, ByteArray.mk #[], 0, 0, Ms.beg, true, (↑(ByteArray.size s) : Int), 0) then (RunIs (List.drop (Int.toNat 0) (bz s)) (Ms.st Ms.beg) (Rd.mk false false false (bz (ByteArray.mk #[])) 0 0) none → ∀ (ng' bn' dn' : Bool) (ds' : ByteArray) (sc' pw' j : Int) (x : Tmps), R (.tuple (.mk [.agg (.mk [B false, S e0, I 0]), B false]))) ∧ (∀ (ng bn dn : Bool) (ds : ByteArray) (sc pw : Int) (M : Ms) (e : Bool) (mv : Value), (Ms.ok M e pw sc && decide (ByteArray.size ds ≤ 255 ∧ 0 ≤ sc ∧ sc ≤ 255)) = true → MsIs M mv none none → RunIs (List.drop (Int.toNat 0) (bz s)) (Ms.st Ms.beg) (Rd.mk false false false (bz (ByteArray.mk #[])) 0 0) (some (Ms.st M, Rd.mk ng bn dn (bz ds) sc pw)) → bif idsLt 210 [mv, B e] && true then ∀ (x : Tmps), bif !e then R (.tuple (.mk [.agg (.mk [B false, S (ByteArray.mk #[]), I 0]), B false])) else bif bn then bif decide ((↑(ByteArray.size ds) : Int) > 31) || decide (ByteArray.size ds ≤ 9223372036854775807) && (decide (ByteArray.size (ByteArray.mk #[48, 49]) ≤ 1000) && asc (bz (ByteArray.mk #[48, 49]))) && true then bif decide ((↑(ByteArray.size ds) : Int) > 31) || !ByteArray.toList (szO (trimZ (bz ds) (bz (ByteArray.mk #[48, 49])))) == ByteArray.toList (ByteArray.mk #[]) then R (.tuple (.mk [.agg (.mk [B false, S (ByteArray.mk #[]), I 0]), B false])) else bif bitsZ (bz ds) && decide (ByteArray.size ds ≤ 64) then bif decide (ByteArray.size (szO (dz (binG (bz ds) 0))) ≤ 100000 ∧ -100000 ≤ 0 ∧ (0 : Int) ≤ 100000) then R (.tuple (.mk [.agg (.mk [B (Prod.fst (normZ ng (bz (szO (dz (binG (bz ds) 0)))) 0)), S (szO (Prod.fst (Prod.snd (normZ ng (bz (szO (dz (binG (bz ds) 0)))) 0)))), I (Prod.snd (Prod.snd (normZ ng (bz (szO (dz (binG (bz ds) 0)))) 0)))]), B true])) else False else False else False else bif dn then bif decide (ByteArray.size ds ≤ 100000 ∧ -100000 ≤ IntKind.wrap .i64 (sc - IntKind.wrap .i64 (0 - pw)) ∧ IntKind.wrap .i64 (sc - IntKind.wrap .i64 (0 - pw)) ≤ 100000) then R (.tuple (.mk [.agg (.mk [B (Prod.fst (normZ ng (bz ds) (IntKind.wrap .i64 (sc - IntKind.wrap .i64 (0 - pw))))), S (szO (Prod.fst (Prod.snd (normZ ng (bz ds) (IntKind.wrap .i64 (sc - IntKind.wrap .i64 (0 - pw))))))), I (Prod.snd (Prod.snd (normZ ng (bz ds) (IntKind.wrap .i64 (sc - IntKind.wrap .i64 (0 - pw))))))]), B true])) else False else bif decide (ByteArray.size ds ≤ 100000 ∧ -100000 ≤ IntKind.wrap .i64 (sc - pw) ∧ IntKind.wrap .i64 (sc - pw) ≤ 100000) then R (.tuple (.mk [.agg (.mk [B (Prod.fst (normZ ng (bz ds) (IntKind.wrap .i64 (sc - pw)))), S (szO (Prod.fst (Prod.snd (normZ ng (bz ds) (IntKind.wrap .i64 (sc - pw)))))), I (Prod.snd (Prod.snd (normZ ng (bz ds) (IntKind.wrap .i64 (sc - pw)))))]), B true])) else False else False) ∧ ∀ (ng bn dn : Bool) (ds : ByteArray) (sc pw : Int) (M : Ms) (e : Bool) (mv x y : Value) (tx ty : TypeId), (Ms.ok M e pw sc && decide (ByteArray.size ds ≤ 255 ∧ 0 ≤ sc ∧ sc ≤ 255)) = true → MsIs M mv (some (.mk [x] tx true)) (some (.mk [y] ty true)) → RunIs (List.drop (Int.toNat 0) (bz s)) (Ms.st Ms.beg) (Rd.mk false false false (bz (ByteArray.mk #[])) 0 0) (some (Ms.st M, Rd.mk ng bn dn (bz ds) sc pw)) → bif idsLt 210 [mv, B e] && (idsLt 210 [x] && (idsLt 210 [y] && true)) then ∀ (x : Tmps), bif !e then R (.tuple (.mk [.agg (.mk [B false, S (ByteArray.mk #[]), I 0]), B false])) else bif bn then bif decide ((↑(ByteArray.size ds) : Int) > 31) || decide (ByteArray.size ds ≤ 9223372036854775807) && (decide (ByteArray.size (ByteArray.mk #[48, 49]) ≤ 1000) && asc (bz (ByteArray.mk #[48, 49]))) && true then bif decide ((↑(ByteArray.size ds) : Int) > 31) || !ByteArray.toList (szO (trimZ (bz ds) (bz (ByteArray.mk #[48, 49])))) == ByteArray.toList (ByteArray.mk #[]) then R (.tuple (.mk [.agg (.mk [B false, S (ByteArray.mk #[]), I 0]), B false])) else bif bitsZ (bz ds) && decide (ByteArray.size ds ≤ 64) then bif decide (ByteArray.size (szO (dz (binG (bz ds) 0))) ≤ 100000 ∧ -100000 ≤ 0 ∧ (0 : Int) ≤ 100000) then R (.tuple (.mk [.agg (.mk [B (Prod.fst (normZ ng (bz (szO (dz (binG (bz ds) 0)))) 0)), S (szO (Prod.fst (Prod.snd (normZ ng (bz (szO (dz (binG (bz ds) 0)))) 0)))), I (Prod.snd (Prod.snd (normZ ng (bz (szO (dz (binG (bz ds) 0)))) 0)))]), B true])) else False else False else False else bif dn then bif decide (ByteArray.size ds ≤ 100000 ∧ -100000 ≤ IntKind.wrap .i64 (sc - IntKind.wrap .i64 (0 - pw)) ∧ IntKind.wrap .i64 (sc - IntKind.wrap .i64 (0 - pw)) ≤ 100000) then R (.tuple (.mk [.agg (.mk [B (Prod.fst (normZ ng (bz ds) (IntKind.wrap .i64 (sc - IntKind.wrap .i64 (0 - pw))))), S (szO (Prod.fst (Prod.snd (normZ ng (bz ds) (IntKind.wrap .i64 (sc - IntKind.wrap .i64 (0 - pw))))))), I (Prod.snd (Prod.snd (normZ ng (bz ds) (IntKind.wrap .i64 (sc - IntKind.wrap .i64 (0 - pw))))))]), B true])) else False else bif decide (ByteArray.size ds ≤ 100000 ∧ -100000 ≤ IntKind.wrap .i64 (sc - pw) ∧ IntKind.wrap .i64 (sc - pw) ≤ 100000) then R (.tuple (.mk [.agg (.mk [B (Prod.fst (normZ ng (bz ds) (IntKind.wrap .i64 (sc - pw)))), S (szO (Prod.fst (Prod.snd (normZ ng (bz ds) (IntKind.wrap .i64 (sc - pw)))))), I (Prod.snd (Prod.snd (normZ ng (bz ds) (IntKind.wrap .i64 (sc - pw)))))]), B true])) else False else False else False) := by kernel_rfl
theorem ok24 : PureOK Tryz.prog 24 (sp1 s24) := by
 refine qure1 ok_G9 hmix fn24 l24_0 (Nat.le_of_ble_eq_true (by kernel_rfl)) fun s hc => ?_
 rw [DoesQ, v24]
 have hc : (s.size ≤ 9223372036854775807) := of_decide_eq_true hc
 try dsimp only [s24]
 have hN : ∀ x : Value, x = Value.tuple ⟨[.agg ⟨[.bool false, .string ⟨#[]⟩, .int .i64 0]⟩, .bool false]⟩ → rdN (bz s) = none → x = onV (rdN (bz s)) := fun x hx h => by
  rw [h, hx]
  show _ = Value.tuple ⟨[.agg ⟨[.bool false, .string (szO []), .int .i64 0]⟩, .bool false]⟩
  rw [szO_nil]
 refine cond_intro (fun h => ?_) (fun h => ?_)
 ·have h := of_decide_eq_true h
  exact hN _ rfl (by rw [rdN, if_pos (by rw [bz_length]; omega)])
 have h := of_decide_eq_false h
 have hn : ∀ neg, normZ neg [] 0 = (false, [], 0) := fun neg => rfl
 have hq := num_eq (normZ := normZ) (binD := binD) hn (bz s)
 have hrd : rdN (bz s) = (((runQ (bz s) .beg {}).bind fun x => if endP x.1 = true then some x.2 else none).bind (finP normZ binD)) := by
  rw [rdN, if_neg (by rw [bz_length]; omega), ← hq, numP, run_Q _ _ _ rfl]
 have hbody : ∀ (ng bn dn : Bool) (ds : ByteArray) (sc pw : Int) (M : Ms) (e : Bool), (M.ok e pw sc && decide (ds.size ≤ 255 ∧ 0 ≤ sc ∧ sc ≤ 255)) = true → runQ (bz s) .beg {} = some (M.st, ⟨ng, bn, dn, bz ds, sc, pw⟩) →
   rdN (bz s) = (if e = true then finP normZ binD ⟨ng, bn, dn, bz ds, sc, pw⟩ else none) ∧ ds.size ≤ 255 ∧ 0 ≤ sc ∧ sc ≤ 255 ∧ 0 ≤ pw ∧ pw < 100 := fun ng bn dn ds sc pw M e hok hr => by
  simp only [Bool.and_eq_true, decide_eq_true_eq] at hok
  obtain ⟨hM, h1, h2, h3⟩ := hok
  have he : endP M.st = e ∧ 0 ≤ pw ∧ pw < 100 := by
   cases M with
   | beg => simp only [Ms.ok, Bool.and_eq_true, decide_eq_true_eq] at hM; rw [hM.1, hM.2]; exact ⟨rfl, by omega, by omega⟩
   | bod q p => simp only [Ms.ok, Bool.and_eq_true, decide_eq_true_eq, beq_iff_eq] at hM; rw [hM.1, hM.2]; exact ⟨rfl, by omega, by omega⟩
   | exq q m =>
    simp only [Ms.ok, Bool.and_eq_true, decide_eq_true_eq, beq_iff_eq] at hM
    refine ⟨?_, by omega, by omega⟩
    rw [hM.1]
    show decide (0 < m.toNat) = decide (0 < m)
    rw [decide_eq_decide]; omega
   | beh => simp only [Ms.ok, Bool.and_eq_true, decide_eq_true_eq] at hM; rw [hM.1]; exact ⟨rfl, by omega, by omega⟩
  rw [hrd, hr]
  refine ⟨?_, h1, h2, h3, he.2.1, he.2.2⟩
  show (if endP M.st = true then some _ else none).bind _ = _
  rw [he.1]
  cases e <;> rfl
 refine c_t (by simp only [S24_0, Bool.and_eq_true, decide_eq_true_eq]; refine ⟨by simp [Ms.ok], ?_, ?_, ?_, ?_, ?_, ?_, ?_⟩ <;> first | omega | exact Int.le_refl _ | rfl | (simp; done) | (simp; omega)) ⟨fun hr _ _ _ _ _ _ _ _ => ?_, ?_, ?_⟩
 ·have hr : runQ (bz s) .beg {} = none := hr.h
  exact hN _ rfl (by rw [hrd, hr]; rfl)
 all_goals
  first | intro ng bn dn ds sc pw M e mv x y tx ty hok hms hr | intro ng bn dn ds sc pw M e mv hok hms hr
  have hr : runQ (bz s) .beg {} = some (M.st, ⟨ng, bn, dn, bz ds, sc, pw⟩) := hr.h
  obtain ⟨g1, g2, g3, g4, g5, g6⟩ := hbody ng bn dn ds sc pw M e hok hr
  refine c_t (by
   obtain ⟨m1, m2, m3⟩ := hms
   subst m1
   cases M <;> first
    | rfl
    | (cases m2; done)
    | (cases m2; cases m3; rfl)) fun _ => ?_
  refine cond_intro (fun he => ?_) (fun he => ?_)
  ·have he : e = false := by simpa using he
   exact hN _ rfl (by rw [g1, he]; rfl)
  have he : e = true := by simpa using he
  subst he
  rw [if_pos rfl] at g1
  refine cond_intro (fun hb => ?_) (fun hb => ?_)
  ·subst hb
   rw [finP, if_pos rfl] at g1
   have hT : ((szO (trimZ (bz ds) (bz ⟨#[48, 49]⟩))).toList == (⟨#[]⟩ : ByteArray).toList) = bitsZ (bz ds) := by
    rw [empty_iff, bz_szO (trim_isB (bz_isB ds))]
    exact trim_bits (bz ds)
   rw [hT]
   refine c_t (by rw [decide_eq_true (show ds.size ≤ 9223372036854775807 by omega)]; exact (congrArg (decide ((ds.size : Int) > 31) || ·) (show (true && (decide ((⟨#[48, 49]⟩ : ByteArray).size ≤ 1000) && asc (bz ⟨#[48, 49]⟩)) && true) = true by kernel_rfl)).trans (Bool.or_true _)) ?_
   refine cond_intro (fun h => ?_) (fun h => ?_)
   ·refine hN _ rfl (g1.trans (if_neg fun q => ?_))
    simp only [Bool.or_eq_true, decide_eq_true_eq, Bool.not_eq_true'] at h
    rw [bz_length] at q
    rcases h with h | h
    ·omega
    ·rw [q.2] at h; cases h
   ·simp only [Bool.or_eq_false_iff, decide_eq_false_iff_not, Bool.not_eq_false'] at h
    have hl : (bz ds).length ≤ 31 := by rw [bz_length]; omega
    rw [if_pos ⟨hl, h.2⟩] at g1
    have hb64 := bin_64 h.2 (by omega)
    have hd := dz_len 20 (binG (bz ds) 0) hb64.1 (Int.lt_of_lt_of_le hb64.2 (by decide))
    refine c_t (by rw [h.2, decide_eq_true (show ds.size ≤ 64 by omega)]; rfl) (c_t (decide_eq_true ⟨by rw [szO_size]; omega, by omega, by omega⟩) ?_)
    rw [bz_szO (dz_isB _), norm_dz, g1]
    rfl
  ·subst hb
   rw [finP, if_neg (fun h => by cases h)] at g1
   cases dn with
   | true =>
    rw [w64 (n := 0 - pw) (by omega), w64 (n := sc - (0 - pw)) (by omega)]
    refine c_t rfl (c_t (decide_eq_true (by omega)) ?_)
    rw [g1, show sc - (0 - pw) = sc - -pw by omega]
    rfl
   | false =>
    rw [w64 (n := sc - pw) (by omega)]
    refine c_f rfl (c_t (decide_eq_true (by omega)) ?_)
    rw [g1]
    rfl
end Go.Cx
end
section
namespace Go.Px
open Go Go.Ab Go.Proofs
def G0 : Env := Env.nil
theorem ok_G0 : EnvOK Tryz.prog G0 := env_nil
def s82 (c : U8) : Bool × Value := (decide (0 ≤ c.n ∧ c.n < 256), .int .u8 (upZ c.n))
theorem fn82 : Fn1 Tryz.prog 211 Tryz.f211 := ⟨Tryz.func211, by kernel_rfl, by kernel_rfl, by kernel_rfl⟩
theorem v82 (c : U8) (R : Value → Prop) : bodyQ Tryz.prog G0 noL Tryz.f211 [Enc.enc c] (fun _ => none) 0 (fun v _ _ => R v) = ( bif decide (U8.n c ≥ 97) || true then bif decide (U8.n c ≥ 97) && decide (U8.n c ≤ 122) then R (.int .u8 (IntKind.wrap .u8 (IntKind.wrap .u8 (U8.n c - 97) + 65))) else R (.int .u8 (U8.n c)) else False) := by kernel_rfl
theorem ok82 : PureOK Tryz.prog 211 (sp1 s82) := by
 refine qure1 ok_G0 hmix fn82 lokf_none (Nat.le_of_ble_eq_true (by kernel_rfl)) fun c hc => ?_
 rw [DoesQ, v82]
 have hc : (0 ≤ c.n ∧ c.n < 256) := of_decide_eq_true hc
 dsimp only [s82]
 unfold upZ
 refine c_t (by simp) ?_
 refine cond_intro (fun h => ?_) (fun h => ?_)
 ·have h : 97 ≤ c.n ∧ c.n ≤ 122 := by simpa using h
  rw [if_pos h, w8 (n := c.n - 97) (by omega), w8 (by omega), show c.n - 97 + 65 = c.n - 32 by omega]
 ·have h : ¬ (97 ≤ c.n ∧ c.n ≤ 122) := by simpa using h
  rw [if_neg h]
def V40_0 : ByteArray × Int × Bool × Int → List Value := fun (s, c, b, i) => [S s, C8 c, B b, I i]
def B40_0 : ByteArray × Int × Bool × Int → List (Option Blk) := fun _ => []
def S40_0 : LSpec (ByteArray × Int × Bool × Int) where
 live := [0, 1, 4, 5]
 mid := []
 n := 60
 dec vs bs := match vs, bs with | [.string s, .int .u8 c, .bool b, .int .i64 i], [] => some (s, c, b, i) | _, _ => none
 pre := fun (s, c, b, i) => decide (0 ≤ i ∧ i ≤ s.size ∧ s.size ≤ 9223372036854775807)
 fin := fun (s, c, b, i) Z => (bif hasZ ((bz s).drop i.toNat) c then (∀ i', Z .ret [S s, C8 c, B true, I i'] []) else Z (.exit 0) [S s, C8 c, B b, I s.size] [])
theorem r40_0 (s : ByteArray) (c : Int) (b : Bool) (i : Int) (jk : Tmps) (R : Exit → List Value → List (Option Blk) → Prop) : (codeQ Tryz.prog G0 noL Tryz.f202.ntmps (loopOf Tryz.f202 0) (tl S40_0.live (V40_0 (s, c, b, i)) jk) (ml S40_0.mid (B40_0 (s, c, b, i))) S40_0.n fun e t' m' _ => R e (List.map t' S40_0.live) (List.map m' S40_0.mid)) = ( bif decide (i < (↑(ByteArray.size s) : Int)) then bif decide (0 ≤ i ∧ i < (↑(ByteArray.size s) : Int)) then bif byteAt s (Int.toNat i) == c then R Exit.ret [S s, .int .u8 c, B true, I i] [] else R Exit.normal [S s, .int .u8 c, B b, I (IntKind.wrap .i64 (i + 1))] [] else False else R (Exit.exit 0) [S s, .int .u8 c, B b, I i] []) := by kernel_rfl
theorem l40_0 : LOKf Tryz.prog (oneL 0 S40_0.h) Tryz.f202 := by
 refine lokf_one (h := S40_0.h) (by kernel_rfl) (loop_specQ ok_G0 hmix (by kernel_rfl) (lok_none _) S40_0 V40_0 B40_0 (fun (s, c, b, i) => (s.size - i).toNat) ?_ ?_ ?_)
 ·intro vs bs s h
  simp only [S40_0] at h
  split at h
  all_goals first | (cases h; exact ⟨rfl, rfl⟩) | cases h
 ·exact fun _ _ _ h => h
 ·intro ⟨s, c, b, i⟩ jk Z hp hf
  rw [r40_0]
  simp only [S40_0] at hp hf
  simp only [decide_eq_true_eq] at hp
  refine cond_intro (fun h => ?_) (fun h => ?_)
  ·have h := of_decide_eq_true h
   rw [bz_at hp.1 h] at hf
   refine c_t (decide_eq_true (by omega)) ?_
   simp only [hasZ, List.any_cons] at hf
   refine cond_intro (fun hb => ?_) (fun hb => ?_)
   ·rw [hb] at hf
    exact hf i
   ·rw [hb, Bool.false_or] at hf
    rw [w64 (by omega)]
    exact ⟨(s, c, b, i + 1), rfl, rfl, by simp only [S40_0, decide_eq_true_eq]; omega, by simp only; omega, hf⟩
  ·have h := of_decide_eq_false h
   rw [bz_end (by omega)] at hf
   obtain rfl : i = s.size := by omega
   exact hf
def s40 (s : ByteArray) (c : U8) : Bool × Value := (decide (s.size ≤ 9223372036854775807), .bool (hasZ (bz s) c.n))
theorem fn40 : Fn1 Tryz.prog 202 Tryz.f202 := ⟨Tryz.func202, by kernel_rfl, by kernel_rfl, by kernel_rfl⟩
theorem v40 (s : ByteArray) (c : U8) (R : Value → Prop) : bodyQ Tryz.prog G0 (oneL 0 S40_0.h) Tryz.f202 [Enc.enc s, Enc.enc c] (fun _ => none) 0 (fun v _ _ => R v) = ( bif LSpec.pre S40_0 (s, U8.n c, false, 0) then bif hasZ (List.drop (Int.toNat 0) (bz s)) (U8.n c) then ∀ (i' : Int) (x : Tmps), R (B true) else ∀ (x : Tmps), R (B false) else False) := by kernel_rfl
theorem ok40 : PureOK Tryz.prog 202 (sp2 s40) := by
 refine qure2 ok_G0 hmix fn40 l40_0 (Nat.le_of_ble_eq_true (by kernel_rfl)) fun s c hc => ?_
 rw [DoesQ, v40]
 have hc : (s.size ≤ 9223372036854775807) := of_decide_eq_true hc
 dsimp only [s40]
 refine c_t (by simp only [S40_0, decide_eq_true_eq]; omega) ?_
 rw [show List.drop (Int.toNat 0) (bz s) = bz s from rfl]
 exact cond_intro (fun h _ _ => by rw [h]) (fun h _ => by rw [h])
def V75_0 : ByteArray × Int × Int × Int → List Value := fun (s, c, n, i) => [S s, C8 c, I n, I i]
def B75_0 : ByteArray × Int × Int × Int → List (Option Blk) := fun _ => []
def S75_0 : LSpec (ByteArray × Int × Int × Int) where
 live := [0, 1, 5, 6]
 mid := []
 n := 60
 dec vs bs := match vs, bs with | [.string s, .int .u8 c, .int .i64 n, .int .i64 i], [] => some (s, c, n, i) | _, _ => none
 pre := fun (s, c, n, i) => decide (0 ≤ i ∧ i ≤ s.size ∧ s.size ≤ 9223372036854775807 ∧ 0 ≤ n ∧ n ≤ i)
 fin := fun (s, c, n, i) Z => Z (.exit 0) [S s, C8 c, I (n + cntZ ((bz s).drop i.toNat) c), I s.size] []
theorem r75_0 (s : ByteArray) (c : Int) (n : Int) (i : Int) (jk : Tmps) (R : Exit → List Value → List (Option Blk) → Prop) : (codeQ Tryz.prog G0 noL Tryz.f199.ntmps (loopOf Tryz.f199 0) (tl S75_0.live (V75_0 (s, c, n, i)) jk) (ml S75_0.mid (B75_0 (s, c, n, i))) S75_0.n fun e t' m' _ => R e (List.map t' S75_0.live) (List.map m' S75_0.mid)) = ( bif decide (i < (↑(ByteArray.size s) : Int)) then bif decide (0 ≤ i ∧ i < (↑(ByteArray.size s) : Int)) then bif byteAt s (Int.toNat i) == c then R Exit.normal [S s, .int .u8 c, I (IntKind.wrap .i64 (n + 1)), I (IntKind.wrap .i64 (i + 1))] [] else R Exit.normal [S s, .int .u8 c, I n, I (IntKind.wrap .i64 (i + 1))] [] else False else R (Exit.exit 0) [S s, .int .u8 c, I n, I i] []) := by kernel_rfl
theorem l75_0 : LOKf Tryz.prog (oneL 0 S75_0.h) Tryz.f199 := by
 refine lokf_one (h := S75_0.h) (by kernel_rfl) (loop_specQ ok_G0 hmix (by kernel_rfl) (lok_none _) S75_0 V75_0 B75_0 (fun (s, c, n, i) => (s.size - i).toNat) ?_ ?_ ?_)
 ·intro vs bs s h
  simp only [S75_0] at h
  split at h
  all_goals first | (cases h; exact ⟨rfl, rfl⟩) | cases h
 ·exact fun _ _ _ h => h
 ·intro ⟨s, c, n, i⟩ jk Z hp hf
  rw [r75_0]
  simp only [S75_0] at hp hf
  simp only [decide_eq_true_eq] at hp
  refine cond_intro (fun h => ?_) (fun h => ?_)
  ·have h := of_decide_eq_true h
   rw [bz_at hp.1 h] at hf
   refine c_t (decide_eq_true (by omega)) ?_
   simp only [cntZ, List.filter_cons] at hf
   refine cond_intro (fun hb => ?_) (fun hb => ?_)
   ·rw [hb] at hf
    rw [w64 (n := n + 1) (by omega), w64 (by omega)]
    refine ⟨(s, c, n + 1, i + 1), rfl, rfl, by simp only [S75_0, decide_eq_true_eq]; omega, by simp only; omega, ?_⟩
    simp only [S75_0, cntZ]
    simp only [if_true, List.length_cons] at hf
    rw [show n + 1 + ((List.filter (fun x => x == c) (List.drop (Int.toNat (i + 1)) (bz s))).length : Int) = n + ((List.filter (fun x => x == c) (List.drop (Int.toNat (i + 1)) (bz s))).length + 1 : Nat) by omega]
    exact hf
   ·rw [hb] at hf
    rw [w64 (by omega)]
    exact ⟨(s, c, n, i + 1), rfl, rfl, by simp only [S75_0, decide_eq_true_eq]; omega, by simp only; omega, hf⟩
  ·have h := of_decide_eq_false h
   rw [bz_end (by omega)] at hf
   obtain rfl : i = s.size := by omega
   simp only [cntZ, List.filter_nil, List.length_nil] at hf
   rw [show n + ((0 : Nat) : Int) = n by omega] at hf
   exact hf
def s75 (s : ByteArray) (c : U8) : Bool × Value := (decide (s.size ≤ 9223372036854775807), .int .i64 (cntZ (bz s) c.n))
theorem fn75 : Fn1 Tryz.prog 199 Tryz.f199 := ⟨Tryz.func199, by kernel_rfl, by kernel_rfl, by kernel_rfl⟩
theorem v75 (s : ByteArray) (c : U8) (R : Value → Prop) : bodyQ Tryz.prog G0 (oneL 0 S75_0.h) Tryz.f199 [Enc.enc s, Enc.enc c] (fun _ => none) 0 (fun v _ _ => R v) = ( bif LSpec.pre S75_0 (s, U8.n c, 0, 0) then ∀ (x : Tmps), R (I (0 + (↑(cntZ (List.drop (Int.toNat 0) (bz s)) (U8.n c)) : Int))) else False) := by kernel_rfl
theorem ok75 : PureOK Tryz.prog 199 (sp2 s75) := by
 refine qure2 ok_G0 hmix fn75 l75_0 (Nat.le_of_ble_eq_true (by kernel_rfl)) fun s c hc => ?_
 rw [DoesQ, v75]
 have hc : (s.size ≤ 9223372036854775807) := of_decide_eq_true hc
 dsimp only [s75]
 refine c_t (by simp only [S75_0, decide_eq_true_eq]; omega) ?_
 rw [show List.drop (Int.toNat 0) (bz s) = bz s from rfl, Int.zero_add]
 exact fun _ => rfl
def rep1 (c : Int) (n : Nat) : List Int := List.replicate n c
theorem rep1_succ (c : Int) (n : Nat) : [c] ++ rep1 c n = rep1 c (n + 1) := rfl
def V57_0 : Int × Int × List Value × Nat × Nat × Int → List Value := fun (c, n, d, m, cap, i) => [C8 c, I n, .slice (some ⟨200, 0, some 1⟩) m cap, I i]
def B57_0 : Int × Int × List Value × Nat × Nat × Int → List (Option Blk) := fun (c, n, d, m, cap, i) => [some ⟨d, 5, true⟩]
def S57_0 : LSpecA (Int × Int × List Value × Nat × Nat × Int) where
 live := [0, 1, 5, 6]
 mid := [200]
 n := 210
 ap := [(.tmp 5, 200)]
 dec vs bs := match vs, bs with | [.int .u8 c, .int .i64 n, .slice (some ⟨200, 0, some 1⟩) m cap, .int .i64 i], [some ⟨d, 5, true⟩] => some (c, n, d, m, cap, i) | _, _ => none
 pre := fun (c, n, d, m, cap, i) => rowOK d m cap && decide (0 ≤ i ∧ i ≤ n ∧ n ≤ 1000 ∧ i = m)
 fin := fun (c, n, d, m, cap, i) Z => ∀ d' cap', rowOK d' n.toNat cap' = true → zc d' n.toNat = zc d m ++ rep1 c (n - i).toNat → Z (.exit 0) [C8 c, I n, .slice (some ⟨200, 0, some 1⟩) n.toNat cap', I n] [some ⟨d', 5, true⟩]
theorem r57_0 (c : Int) (n : Int) (d : List Value) (m : Nat) (cap : Nat) (i : Int) (jk : Tmps) (R : Exit → List Value → List (Option Blk) → Prop) : (codeQ Tryz.prog G0 noL Tryz.f229.ntmps (loopOf Tryz.f229 0) (tl S57_0.live (V57_0 (c, n, d, m, cap, i)) jk) (ml S57_0.mid (B57_0 (c, n, d, m, cap, i))) S57_0.n fun e t' m' _ => S57_0.out R e t' m') = ( bif decide (i < n) then bif Nat.beq (List.length d) (cap * 1) && Nat.ble m cap && Nat.ble cap 9223372036854775807 && true && fitsA (m + 1) 1 then ∀ (cap : Nat) (tail : List Value), tailOK tail cap (m + 1) 1 = true → bif goodL [(216, 200)] (List.take (m * 1) d ++ [.int .u8 c] ++ tail) && true && true then R Exit.normal [.int .u8 c, I n, .slice (some (.mk 200 0 (some 1))) (m + 1) cap, I (IntKind.wrap .i64 (i + 1))] [some (.mk (rlbL [(216, 200)] (List.take (m * 1) d ++ [.int .u8 c] ++ tail)) 5 true)] else False else False else bif goodL [(200, 200)] d && true && true then R (Exit.exit 0) [.int .u8 c, I n, .slice (some (.mk 200 0 (some 1))) m cap, I i] [some (.mk (rlbL [(200, 200)] d) 5 true)] else False) := by kernel_rfl
theorem l57_0 : LOKf Tryz.prog (oneL 0 S57_0.hA) Tryz.f229 := by
 refine lokf_one (h := S57_0.hA) (by kernel_rfl) (loop_specA ok_G0 hmix (by kernel_rfl) (lok_none _) S57_0 V57_0 B57_0 (fun (c, n, d, m, cap, i) => (n - i).toNat) ?_ ?_ ?_)
 ·intro vs bs s h
  simp only [S57_0] at h
  split at h
  all_goals first | (cases h; exact ⟨rfl, rfl⟩) | cases h
 ·exact fun ⟨c, n, d, m, cap, i⟩ hp => by
   simp only [S57_0, Bool.and_eq_true] at hp
   simp [V57_0, B57_0, S57_0, idsLt, idsLtB, idsL, ids, ids_plainL (rowOK_iff.1 hp.1).plain]
 ·intro ⟨c, n, d, m, cap, i⟩ jk Z hp hf
  rw [r57_0]
  simp only [S57_0] at hp hf
  simp only [Bool.and_eq_true, decide_eq_true_eq] at hp
  obtain ⟨hr, hp⟩ := hp
  have hr := rowOK_iff.1 hr
  refine cond_intro (fun h => ?_) (fun h => ?_)
  ·have h := of_decide_eq_true h
   refine c_t (hr.ask (by omega)) (fun cap1 tail ht => ?_)
   obtain ⟨h1, h2⟩ := hr.app1 c ht
   refine c_t (by rw [h1.good]; rfl) ?_
   rw [h1.rlb, w64 (by omega)]
   refine ⟨(c, n, _, m + 1, cap1, i + 1), rfl, rfl, by simp only [S57_0, Bool.and_eq_true, decide_eq_true_eq]; exact ⟨rowOK_iff.2 h1, by omega⟩, by simp only; omega, ?_⟩
   intro d' cap' g1 g2
   refine hf d' cap' g1 ?_
   rw [g2, h2, show (n - i).toNat = (n - (i + 1)).toNat + 1 by omega, ← rep1_succ, List.append_assoc]
  ·have h := of_decide_eq_false h
   refine c_t (by rw [hr.good]; rfl) ?_
   rw [hr.rlb]
   obtain rfl : i = n := by omega
   have e : i.toNat = m := by omega
   have := hf d cap (by rw [e]; exact rowOK_iff.2 hr) (by rw [e]; simp [rep1])
   rw [e] at this
   exact this
def s57 (c : U8) (n : Int) : Bool × Value := (decide (0 ≤ n ∧ n ≤ 1000), .string (sz (rep1 c.n n.toNat)))
theorem fn57 : Fn1 Tryz.prog 229 Tryz.f229 := ⟨Tryz.func229, by kernel_rfl, by kernel_rfl, by kernel_rfl⟩
theorem v57 (c : U8) (n : Int) (R : Value → Prop) : bodyQ Tryz.prog G0 (oneL 0 S57_0.hA) Tryz.f229 [Enc.enc c, Enc.enc n] (fun _ => none) 0 (fun v _ _ => R v) = ( bif LSpec.pre (LSpecA.toLSpec S57_0) (U8.n c, n, [], 0, 0, 0) then ∀ (d' : List Value) (cap' : Nat), rowOK d' (Int.toNat n) cap' = true → zc d' (Int.toNat n) = zc [] 0 ++ rep1 (U8.n c) (Int.toNat (n - 0)) → bif idsLt 210 d' && true then ∀ (x : Tmps), bif bytesOK d' 0 (Int.toNat n) then R (S (bytesOf d' 0 (Int.toNat n))) else False else False else False) := by kernel_rfl
theorem ok57 : PureOK Tryz.prog 229 (sp2 s57) := by
 refine qure2 ok_G0 hmix fn57 l57_0 (Nat.le_of_ble_eq_true (by kernel_rfl)) fun c n hc => ?_
 rw [DoesQ, v57]
 have hc : (0 ≤ n ∧ n ≤ 1000) := of_decide_eq_true hc
 dsimp only [s57]
 refine c_t ?_ (fun d' cap' h1 h2 => ?_)
 ·simp only [S57_0, Bool.and_eq_true, decide_eq_true_eq]
  exact ⟨rfl, by omega⟩
 have h1 := rowOK_iff.1 h1
 refine c_t (by rw [ids_plainB h1.plain]; rfl) (fun _ => c_t h1.str.1 ?_)
 rw [h1.str.2, h2, show (n - 0).toNat = n.toNat by omega]
 rfl
def tenZ (n : Nat) : Int := 10 ^ n
theorem tenZ_succ (n : Nat) : tenZ (n + 1) = tenZ n * 10 := Int.pow_succ ..
theorem tenZ_le {n : Nat} (h : n ≤ 18) : 1 ≤ tenZ n ∧ tenZ n ≤ 1000000000000000000 := by
 have : n = 0 ∨ n = 1 ∨ n = 2 ∨ n = 3 ∨ n = 4 ∨ n = 5 ∨ n = 6 ∨ n = 7 ∨ n = 8 ∨ n = 9 ∨ n = 10 ∨ n = 11 ∨ n = 12 ∨ n = 13 ∨ n = 14 ∨ n = 15 ∨ n = 16 ∨ n = 17 ∨ n = 18 := by omega
 rcases this with rfl | rfl | rfl | rfl | rfl | rfl | rfl | rfl | rfl | rfl | rfl | rfl | rfl | rfl | rfl | rfl | rfl | rfl | rfl <;> decide
def V52_0 : Int × Int × Int → List Value := fun (n, t, i) => [I n, I t, I i]
def B52_0 : Int × Int × Int → List (Option Blk) := fun _ => []
def S52_0 : LSpec (Int × Int × Int) where
 live := [0, 3, 4]
 mid := []
 n := 60
 dec vs bs := match vs, bs with | [.int .i64 n, .int .i64 t, .int .i64 i], [] => some (n, t, i) | _, _ => none
 pre := fun (n, t, i) => decide (0 ≤ i ∧ i ≤ n ∧ n ≤ 18 ∧ t = tenZ i.toNat)
 fin := fun (n, t, i) Z => Z (.exit 0) [I n, I (tenZ n.toNat), I n] []
theorem r52_0 (n : Int) (t : Int) (i : Int) (jk : Tmps) (R : Exit → List Value → List (Option Blk) → Prop) : (codeQ Tryz.prog G0 noL Tryz.f271.ntmps (loopOf Tryz.f271 0) (tl S52_0.live (V52_0 (n, t, i)) jk) (ml S52_0.mid (B52_0 (n, t, i))) S52_0.n fun e t' m' _ => R e (List.map t' S52_0.live) (List.map m' S52_0.mid)) = ( bif decide (i < n) then R Exit.normal [I n, I (IntKind.wrap .i64 (t * 10)), I (IntKind.wrap .i64 (i + 1))] [] else R (Exit.exit 0) [I n, I t, I i] []) := by kernel_rfl
theorem l52_0 : LOKf Tryz.prog (oneL 0 S52_0.h) Tryz.f271 := by
 refine lokf_one (h := S52_0.h) (by kernel_rfl) (loop_specQ ok_G0 hmix (by kernel_rfl) (lok_none _) S52_0 V52_0 B52_0 (fun (n, t, i) => (n - i).toNat) ?_ ?_ ?_)
 ·intro vs bs s h
  simp only [S52_0] at h
  split at h
  all_goals first | (cases h; exact ⟨rfl, rfl⟩) | cases h
 ·exact fun _ _ _ h => h
 ·intro ⟨n, t, i⟩ jk Z hp hf
  rw [r52_0]
  simp only [S52_0] at hp hf
  simp only [decide_eq_true_eq] at hp
  obtain ⟨h0, h1, h2, rfl⟩ := hp
  have hb := tenZ_le (n := i.toNat) (by omega)
  refine cond_intro (fun h => ?_) (fun h => ?_)
  ·have h := of_decide_eq_true h
   have hb2 := tenZ_le (n := i.toNat + 1) (by omega)
   rw [tenZ_succ] at hb2
   rw [w64 (n := i + 1) (by omega), w64 (by omega)]
   refine ⟨(n, _, i + 1), rfl, rfl, ?_, by simp only; omega, hf⟩
   simp only [S52_0, decide_eq_true_eq]
   exact ⟨by omega, by omega, by omega, by rw [show (i + 1).toNat = i.toNat + 1 by omega, tenZ_succ]⟩
  ·have h := of_decide_eq_false h
   obtain rfl : i = n := by omega
   exact hf
def s52 (n : Int) : Bool × Value := (decide (0 ≤ n ∧ n ≤ 18), .int .i64 (tenZ n.toNat))
theorem fn52 : Fn1 Tryz.prog 271 Tryz.f271 := ⟨Tryz.func271, by kernel_rfl, by kernel_rfl, by kernel_rfl⟩
theorem v52 (n : Int) (R : Value → Prop) : bodyQ Tryz.prog G0 (oneL 0 S52_0.h) Tryz.f271 [Enc.enc n] (fun _ => none) 0 (fun v _ _ => R v) = ( bif LSpec.pre S52_0 (n, 1, 0) then ∀ (x : Tmps), R (I (tenZ (Int.toNat n))) else False) := by kernel_rfl
theorem ok52 : PureOK Tryz.prog 271 (sp1 s52) := by
 refine qure1 ok_G0 hmix fn52 l52_0 (Nat.le_of_ble_eq_true (by kernel_rfl)) fun n hc => ?_
 rw [DoesQ, v52]
 have hc : (0 ≤ n ∧ n ≤ 18) := of_decide_eq_true hc
 dsimp only [s52]
 refine c_t ?_ (fun _ => rfl)
 simp only [S52_0, decide_eq_true_eq]
 exact ⟨by omega, by omega, by omega, rfl⟩
def unK (c : Int) : Bool := hasZ punchedZ c
def unD (c : Int) : Int := if unK c then (idxZ punchedZ c) % 10 else 0
def unM (c : Int) : Bool := if unK c then decide (10 ≤ idxZ punchedZ c) else false
def puZ (d : Int) (m : Bool) : Int := if 0 ≤ d ∧ d ≤ 9 then punchedZ.getD (if m then d + 10 else d).toNat 0 else 0
def sgZ (c : Int) (m : Bool) : Int := if c = 36 then 36 else if m then (if c = 43 then 32 else 45) else if c = 45 then 32 else 43
def fmZ (c d : Int) (m : Bool) : Int := if c = 89 ∧ d = 48 then 32 else if c = 84 ∨ (c = 73 ∧ m = false) ∨ (c = 82 ∧ m = true) then puZ (d - 48) m else d
def letZ (b : Int) : Bool := decide (65 ≤ b ∧ b ≤ 90 ∨ 97 ≤ b ∧ b ≤ 122)
def oneZ (c b : Int) : Bool := if c = 88 ∨ b = 32 then true else if c = 57 then isDig b else letZ b
theorem dig_cases {d : Int} (h : 0 ≤ d ∧ d ≤ 9) : d = 0 ∨ d = 1 ∨ d = 2 ∨ d = 3 ∨ d = 4 ∨ d = 5 ∨ d = 6 ∨ d = 7 ∨ d = 8 ∨ d = 9 := by omega
def s29 (c : U8) : Bool × Value := (true, .tuple ⟨[.int .i64 (unD c.n), .bool (unM c.n), .bool (unK c.n)]⟩)
theorem fn29 : Fn1 Tryz.prog 209 Tryz.f209 := ⟨Tryz.func209, by kernel_rfl, by kernel_rfl, by kernel_rfl⟩
theorem v29 (c : U8) (R : Value → Prop) : bodyQ Tryz.prog G0 noL Tryz.f209 [Enc.enc c] (fun _ => none) 0 (fun v _ _ => R v) = ( bif 123 == U8.n c then R (.tuple (.mk [I 0, B false, B true])) else bif 125 == U8.n c then R (.tuple (.mk [I 0, B true, B true])) else bif 65 == U8.n c then R (.tuple (.mk [I 1, B false, B true])) else bif 74 == U8.n c then R (.tuple (.mk [I 1, B true, B true])) else bif 66 == U8.n c then R (.tuple (.mk [I 2, B false, B true])) else bif 75 == U8.n c then R (.tuple (.mk [I 2, B true, B true])) else bif 67 == U8.n c then R (.tuple (.mk [I 3, B false, B true])) else bif 76 == U8.n c then R (.tuple (.mk [I 3, B true, B true])) else bif 68 == U8.n c then R (.tuple (.mk [I 4, B false, B true])) else bif 77 == U8.n c then R (.tuple (.mk [I 4, B true, B true])) else bif 69 == U8.n c then R (.tuple (.mk [I 5, B false, B true])) else bif 78 == U8.n c then R (.tuple (.mk [I 5, B true, B true])) else bif 70 == U8.n c then R (.tuple (.mk [I 6, B false, B true])) else bif 79 == U8.n c then R (.tuple (.mk [I 6, B true, B true])) else bif 71 == U8.n c then R (.tuple (.mk [I 7, B false, B true])) else bif 80 == U8.n c then R (.tuple (.mk [I 7, B true, B true])) else bif 72 == U8.n c then R (.tuple (.mk [I 8, B false, B true])) else bif 81 == U8.n c then R (.tuple (.mk [I 8, B true, B true])) else bif 73 == U8.n c then R (.tuple (.mk [I 9, B false, B true])) else bif 82 == U8.n c then R (.tuple (.mk [I 9, B true, B true])) else R (.tuple (.mk [I 0, B false, B false]))) := by kernel_rfl
theorem ok29 : PureOK Tryz.prog 209 (sp1 s29) := by
 refine qure1 ok_G0 hmix fn29 lokf_none (Nat.le_of_ble_eq_true (by kernel_rfl)) fun c hc => ?_
 rw [DoesQ, v29]
 dsimp only [s29]
 obtain ⟨c⟩ := c
 dsimp only
 repeat' (refine cond_intro (fun h => ?_) (fun h => ?_))
 all_goals first
  | (have h := eq_of_beq h; subst h; rfl)
  | (have hk : unK c = false := by simp_all [unK, hasZ, punchedZ]
     simp [unD, unM, hk])
def s28 (c : U8) : Bool × Value := (true, .tuple ⟨[.int .i64 (unD c.n), .bool (unM c.n), .bool (unK c.n)]⟩)
theorem fn28 : Fn1 Tryz.prog 248 Tryz.f248 := ⟨Tryz.func248, by kernel_rfl, by kernel_rfl, by kernel_rfl⟩
theorem v28 (c : U8) (R : Value → Prop) : bodyQ Tryz.prog G0 noL Tryz.f248 [Enc.enc c] (fun _ => none) 0 (fun v _ _ => R v) = ( bif 123 == U8.n c then R (.tuple (.mk [I 0, B (decide (0 ≥ 10)), B true])) else bif 65 == U8.n c then R (.tuple (.mk [I 1, B (decide (1 ≥ 10)), B true])) else bif 66 == U8.n c then R (.tuple (.mk [I 2, B (decide (2 ≥ 10)), B true])) else bif 67 == U8.n c then R (.tuple (.mk [I 3, B (decide (3 ≥ 10)), B true])) else bif 68 == U8.n c then R (.tuple (.mk [I 4, B (decide (4 ≥ 10)), B true])) else bif 69 == U8.n c then R (.tuple (.mk [I 5, B (decide (5 ≥ 10)), B true])) else bif 70 == U8.n c then R (.tuple (.mk [I 6, B (decide (6 ≥ 10)), B true])) else bif 71 == U8.n c then R (.tuple (.mk [I 7, B (decide (7 ≥ 10)), B true])) else bif 72 == U8.n c then R (.tuple (.mk [I 8, B (decide (8 ≥ 10)), B true])) else bif 73 == U8.n c then R (.tuple (.mk [I 9, B (decide (9 ≥ 10)), B true])) else bif 125 == U8.n c then R (.tuple (.mk [I 0, B (decide (10 ≥ 10)), B true])) else bif 74 == U8.n c then R (.tuple (.mk [I 1, B (decide (11 ≥ 10)), B true])) else bif 75 == U8.n c then R (.tuple (.mk [I 2, B (decide (12 ≥ 10)), B true])) else bif 76 == U8.n c then R (.tuple (.mk [I 3, B (decide (13 ≥ 10)), B true])) else bif 77 == U8.n c then R (.tuple (.mk [I 4, B (decide (14 ≥ 10)), B true])) else bif 78 == U8.n c then R (.tuple (.mk [I 5, B (decide (15 ≥ 10)), B true])) else bif 79 == U8.n c then R (.tuple (.mk [I 6, B (decide (16 ≥ 10)), B true])) else bif 80 == U8.n c then R (.tuple (.mk [I 7, B (decide (17 ≥ 10)), B true])) else bif 81 == U8.n c then R (.tuple (.mk [I 8, B (decide (18 ≥ 10)), B true])) else bif 82 == U8.n c then R (.tuple (.mk [I 9, B (decide (19 ≥ 10)), B true])) else R (.tuple (.mk [I 0, B false, B false]))) := by kernel_rfl
theorem ok28 : PureOK Tryz.prog 248 (sp1 s28) := by
 refine qure1 ok_G0 hmix fn28 lokf_none (Nat.le_of_ble_eq_true (by kernel_rfl)) fun c hc => ?_
 rw [DoesQ, v28]
 dsimp only [s28]
 obtain ⟨c⟩ := c
 dsimp only
 repeat' (refine cond_intro (fun h => ?_) (fun h => ?_))
 all_goals first
  | (have h := eq_of_beq h; subst h; rfl)
  | (have hk : unK c = false := by simp_all [unK, hasZ, punchedZ]
     simp [unD, unM, hk])
def s27 (d : Int) (m : Bool) : Bool × Value := (true, .tuple ⟨[.int .u8 (puZ d m), .bool (decide (0 ≤ d ∧ d ≤ 9))]⟩)
theorem fn27 : Fn1 Tryz.prog 289 Tryz.f289 := ⟨Tryz.func289, by kernel_rfl, by kernel_rfl, by kernel_rfl⟩
theorem v27 (d : Int) (m : Bool) (R : Value → Prop) : bodyQ Tryz.prog G0 noL Tryz.f289 [Enc.enc d, Enc.enc m] (fun _ => none) 0 (fun v _ _ => R v) = ( bif decide (d < 0) || true then bif decide (d < 0) || decide (d > 9) then R (.tuple (.mk [.int .u8 0, B false])) else bif m then bif decide (0 ≤ d ∧ d < 10) then R (.tuple (.mk [.int .u8 (byteAt (ByteArray.mk #[125, 74, 75, 76, 77, 78, 79, 80, 81, 82]) (Int.toNat d)), B true])) else False else bif decide (0 ≤ d ∧ d < 10) then R (.tuple (.mk [.int .u8 (byteAt (ByteArray.mk #[123, 65, 66, 67, 68, 69, 70, 71, 72, 73]) (Int.toNat d)), B true])) else False else False) := by kernel_rfl
theorem ok27 : PureOK Tryz.prog 289 (sp2 s27) := by
 refine qure2 ok_G0 hmix fn27 lokf_none (Nat.le_of_ble_eq_true (by kernel_rfl)) fun d m hc => ?_
 rw [DoesQ, v27]
 dsimp only [s27]
 refine c_t (by simp) ?_
 refine cond_intro (fun h => ?_) (fun h => ?_)
 ·have h : ¬ (0 ≤ d ∧ d ≤ 9) := by
   simp only [Bool.or_eq_true, decide_eq_true_eq] at h
   omega
  simp [puZ, h]
 ·have h : 0 ≤ d ∧ d ≤ 9 := by
   simp only [Bool.or_eq_false_iff, decide_eq_false_iff_not] at h
   omega
  rcases dig_cases h with rfl | rfl | rfl | rfl | rfl | rfl | rfl | rfl | rfl | rfl <;> cases m <;> exact rfl
def s26 (d : Int) (m : Bool) : Bool × Value := (true, .tuple ⟨[.int .u8 (puZ d m), .bool (decide (0 ≤ d ∧ d ≤ 9))]⟩)
theorem fn26 : Fn1 Tryz.prog 288 Tryz.f288 := ⟨Tryz.func288, by kernel_rfl, by kernel_rfl, by kernel_rfl⟩
theorem v26 (d : Int) (m : Bool) (R : Value → Prop) : bodyQ Tryz.prog G0 noL Tryz.f288 [Enc.enc d, Enc.enc m] (fun _ => none) 0 (fun v _ _ => R v) = ( bif decide (d < 0) || true then bif decide (d < 0) || decide (d > 9) then R (.tuple (.mk [.int .u8 0, B false])) else bif m then bif decide (0 ≤ IntKind.wrap .i64 (d + 10) ∧ IntKind.wrap .i64 (d + 10) < 20) then bif isIntAt IntKind.u8 [.int .u8 123, .int .u8 65, .int .u8 66, .int .u8 67, .int .u8 68, .int .u8 69, .int .u8 70, .int .u8 71, .int .u8 72, .int .u8 73, .int .u8 125, .int .u8 74, .int .u8 75, .int .u8 76, .int .u8 77, .int .u8 78, .int .u8 79, .int .u8 80, .int .u8 81, .int .u8 82] (0 + Int.toNat (IntKind.wrap .i64 (d + 10)) * 1) then R (.tuple (.mk [.int .u8 (intAt [.int .u8 123, .int .u8 65, .int .u8 66, .int .u8 67, .int .u8 68, .int .u8 69, .int .u8 70, .int .u8 71, .int .u8 72, .int .u8 73, .int .u8 125, .int .u8 74, .int .u8 75, .int .u8 76, .int .u8 77, .int .u8 78, .int .u8 79, .int .u8 80, .int .u8 81, .int .u8 82] (0 + Int.toNat (IntKind.wrap .i64 (d + 10)) * 1)), B true])) else False else False else bif decide (0 ≤ d ∧ d < 20) then bif isIntAt IntKind.u8 [.int .u8 123, .int .u8 65, .int .u8 66, .int .u8 67, .int .u8 68, .int .u8 69, .int .u8 70, .int .u8 71, .int .u8 72, .int .u8 73, .int .u8 125, .int .u8 74, .int .u8 75, .int .u8 76, .int .u8 77, .int .u8 78, .int .u8 79, .int .u8 80, .int .u8 81, .int .u8 82] (0 + Int.toNat d * 1) then R (.tuple (.mk [.int .u8 (intAt [.int .u8 123, .int .u8 65, .int .u8 66, .int .u8 67, .int .u8 68, .int .u8 69, .int .u8 70, .int .u8 71, .int .u8 72, .int .u8 73, .int .u8 125, .int .u8 74, .int .u8 75, .int .u8 76, .int .u8 77, .int .u8 78, .int .u8 79, .int .u8 80, .int .u8 81, .int .u8 82] (0 + Int.toNat d * 1)), B true])) else False else False else False) := by kernel_rfl
theorem ok26 : PureOK Tryz.prog 288 (sp2 s26) := by
 refine qure2 ok_G0 hmix fn26 lokf_none (Nat.le_of_ble_eq_true (by kernel_rfl)) fun d m hc => ?_
 rw [DoesQ, v26]
 dsimp only [s26]
 refine c_t (by simp) ?_
 refine cond_intro (fun h => ?_) (fun h => ?_)
 ·have h : ¬ (0 ≤ d ∧ d ≤ 9) := by
   simp only [Bool.or_eq_true, decide_eq_true_eq] at h
   omega
  simp [puZ, h]
 ·have h : 0 ≤ d ∧ d ≤ 9 := by
   simp only [Bool.or_eq_false_iff, decide_eq_false_iff_not] at h
   omega
  rcases dig_cases h with rfl | rfl | rfl | rfl | rfl | rfl | rfl | rfl | rfl | rfl <;> cases m <;> exact rfl
def G1 : Env := (((((((((G0.add 211 (sp1 s82)).add 202 (sp2 s40)).add 199 (sp2 s75)).add 229 (sp2 s57)).add 271 (sp1 s52)).add 209 (sp1 s29)).add 248 (sp1 s28)).add 289 (sp2 s27)).add 288 (sp2 s26))
theorem ok_G1 : EnvOK Tryz.prog G1 := env_add (env_add (env_add (env_add (env_add (env_add (env_add (env_add (env_add (ok_G0) ok82) ok40) ok75) ok57) ok52) ok29) ok28) ok27) ok26
def s77 (n : Int) : Bool × Value := (decide (-9223372036854775808 ≤ n ∧ n ≤ 9223372036854775807), .int .u64 n.natAbs)
theorem fn77 : Fn1 Tryz.prog 270 Tryz.f270 := ⟨Tryz.func270, by kernel_rfl, by kernel_rfl, by kernel_rfl⟩
theorem v77 (n : Int) (R : Value → Prop) : bodyQ Tryz.prog G1 noL Tryz.f270 [Enc.enc n] (fun _ => none) 0 (fun v _ _ => R v) = ( bif decide (n < 0) then R (.int .u64 (IntKind.wrap .u64 (IntKind.wrap .u64 (IntKind.wrap .i64 (0 - IntKind.wrap .i64 (n + 1))) + 1))) else R (.int .u64 (IntKind.wrap .u64 n))) := by kernel_rfl
theorem ok77 : PureOK Tryz.prog 270 (sp1 s77) := by
 refine qure1 ok_G1 hmix fn77 lokf_none (Nat.le_of_ble_eq_true (by kernel_rfl)) fun n hc => ?_
 rw [DoesQ, v77]
 have hc : (-9223372036854775808 ≤ n ∧ n ≤ 9223372036854775807) := of_decide_eq_true hc
 dsimp only [s77]
 refine cond_intro (fun h => ?_) (fun h => ?_)
 ·have h := of_decide_eq_true h
  rw [w64 (n := n + 1) (by omega), w64 (by omega), wu64 (n := 0 - (n + 1)) (by omega), wu64 (by omega)]
  congr 1
  omega
 ·have h := of_decide_eq_false h
  rw [wu64 (by omega)]
  congr 1
  omega
def s58 (s : ByteArray) : Bool × Value := (decide (s.size ≤ 9223372036854775807), .int .u8 (if hasZ (bz s) 42 then 42 else 32))
theorem fn58 : Fn1 Tryz.prog 259 Tryz.f259 := ⟨Tryz.func259, by kernel_rfl, by kernel_rfl, by kernel_rfl⟩
theorem v58 (s : ByteArray) (R : Value → Prop) : bodyQ Tryz.prog G1 noL Tryz.f259 [Enc.enc s] (fun _ => none) 0 (fun v _ _ => R v) = ( bif decide (ByteArray.size s ≤ 9223372036854775807) then bif hasZ (bz s) 42 then R (.int .u8 42) else R (.int .u8 32) else False) := by kernel_rfl
theorem ok58 : PureOK Tryz.prog 259 (sp1 s58) := by
 refine qure1 ok_G1 hmix fn58 lokf_none (Nat.le_of_ble_eq_true (by kernel_rfl)) fun s hc => ?_
 rw [DoesQ, v58]
 have hc : (s.size ≤ 9223372036854775807) := of_decide_eq_true hc
 dsimp only [s58]
 exact c_t (decide_eq_true hc) (by cases hasZ (bz s) 42 <;> rfl)
def s85 (c : U8) (m : Bool) : Bool × Value := (true, .int .u8 (sgZ c.n m))
theorem fn85 : Fn1 Tryz.prog 262 Tryz.f262 := ⟨Tryz.func262, by kernel_rfl, by kernel_rfl, by kernel_rfl⟩
theorem v85 (c : U8) (m : Bool) (R : Value → Prop) : bodyQ Tryz.prog G1 noL Tryz.f262 [Enc.enc c, Enc.enc m] (fun _ => none) 0 (fun v _ _ => R v) = ( bif U8.n c == 36 then R (.int .u8 36) else bif m then bif U8.n c == 43 then R (.int .u8 32) else R (.int .u8 45) else bif U8.n c == 45 then R (.int .u8 32) else R (.int .u8 43)) := by kernel_rfl
theorem ok85 : PureOK Tryz.prog 262 (sp2 s85) := by
 refine qure2 ok_G1 hmix fn85 lokf_none (Nat.le_of_ble_eq_true (by kernel_rfl)) fun c m hc => ?_
 rw [DoesQ, v85]
 dsimp only [s85]
 obtain ⟨c⟩ := c
 dsimp only
 simp only [sgZ]
 cases m <;> by_cases h1 : c = 36 <;> by_cases h2 : c = 43 <;> by_cases h3 : c = 45 <;> simp [h1, h2, h3]
def s97 (c : U8) (d : U8) (m : Bool) : Bool × Value := (decide (48 ≤ d.n ∧ d.n ≤ 57), .int .u8 (fmZ c.n d.n m))
theorem fn97 : Fn1 Tryz.prog 260 Tryz.f260 := ⟨Tryz.func260, by kernel_rfl, by kernel_rfl, by kernel_rfl⟩
theorem v97 (c : U8) (d : U8) (m : Bool) (R : Value → Prop) : bodyQ Tryz.prog G1 noL Tryz.f260 [Enc.enc c, Enc.enc d, Enc.enc m] (fun _ => none) 0 (fun v _ _ => R v) = ( bif U8.n c == 89 || true then bif U8.n c == 89 && U8.n d == 48 then R (.int .u8 32) else bif U8.n c == 84 || bif U8.n c == 73 then !m || (U8.n c == 82 || true) else U8.n c == 82 || true then bif U8.n c == 84 || bif U8.n c == 73 then !m || U8.n c == 82 && m else U8.n c == 82 && m then R (.int .u8 (puZ (IntKind.wrap .i64 (IntKind.wrap .u8 (U8.n d - 48))) m)) else R (.int .u8 (U8.n d)) else False else False) := by kernel_rfl
theorem ok97 : PureOK Tryz.prog 260 (sp3 s97) := by
 refine qure3 ok_G1 hmix fn97 lokf_none (Nat.le_of_ble_eq_true (by kernel_rfl)) fun c d m hc => ?_
 rw [DoesQ, v97]
 have hc : (48 ≤ d.n ∧ d.n ≤ 57) := of_decide_eq_true hc
 dsimp only [s97]
 obtain ⟨c⟩ := c
 obtain ⟨d⟩ := d
 dsimp only at *
 rw [w8 (n := d - 48) (by omega), w64 (by omega)]
 simp only [fmZ]
 cases m <;> by_cases h1 : c = 89 <;> by_cases h2 : c = 84 <;> by_cases h3 : c = 73 <;> by_cases h4 : c = 82 <;> by_cases h5 : d = 48 <;> simp [h1, h2, h3, h4, h5]
def s72 (c : U8) (b : U8) : Bool × Value := (decide (0 ≤ b.n ∧ b.n < 256), .bool (oneZ c.n b.n))
theorem fn72 : Fn1 Tryz.prog 150 Tryz.f150 := ⟨Tryz.func150, by kernel_rfl, by kernel_rfl, by kernel_rfl⟩
theorem v72 (c : U8) (b : U8) (R : Value → Prop) : bodyQ Tryz.prog G1 noL Tryz.f150 [Enc.enc c, Enc.enc b] (fun _ => none) 0 (fun v _ _ => R v) = ( bif U8.n c == 88 || true then bif U8.n c == 88 || U8.n b == 32 then R (B true) else bif U8.n c == 57 then bif decide (U8.n b ≥ 48) || true then R (B (decide (U8.n b ≥ 48) && decide (U8.n b ≤ 57))) else False else bif decide (0 ≤ U8.n b ∧ U8.n b < 256) && bif decide (upZ (U8.n b) ≥ 65) then decide (0 ≤ U8.n b ∧ U8.n b < 256) && true else true then R (B (decide (upZ (U8.n b) ≥ 65) && decide (upZ (U8.n b) ≤ 90))) else False else False) := by kernel_rfl
theorem ok72 : PureOK Tryz.prog 150 (sp2 s72) := by
 refine qure2 ok_G1 hmix fn72 lokf_none (Nat.le_of_ble_eq_true (by kernel_rfl)) fun c b hc => ?_
 rw [DoesQ, v72]
 have hc : (0 ≤ b.n ∧ b.n < 256) := of_decide_eq_true hc
 dsimp only [s72]
 obtain ⟨hb0, hb1⟩ := hc
 obtain ⟨c⟩ := c
 obtain ⟨b⟩ := b
 dsimp only at *
 have hl : (decide (upZ b ≥ 65) && decide (upZ b ≤ 90)) = letZ b := by
  rw [Bool.eq_iff_iff]
  simp only [letZ, Bool.and_eq_true, decide_eq_true_eq]
  unfold upZ
  by_cases hq : 97 ≤ b ∧ b ≤ 122
  ·simp only [if_pos hq]; constructor <;> intro h <;> omega
  ·simp only [if_neg hq]; constructor <;> intro h <;> omega
 have hd : (decide (b ≥ 48) && decide (b ≤ 57)) = isDig b := by
  rw [Bool.eq_iff_iff]
  simp only [isDig, Bool.and_eq_true, decide_eq_true_eq]
  try omega
 rw [hl, hd]
 all_goals (by_cases h1 : c = 88 <;> by_cases h2 : b = 32 <;> by_cases h3 : c = 57 <;> simp_all [oneZ])
end Go.Px
end
