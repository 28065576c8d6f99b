/-
  The run and the laws that serve these rows (part 1)
-/
import Derived.Test.YtpflidodnhbeoaaGreatDoorSAb1
import Derived.Test.YtpflidodnhbeoaaGreatDoorSAb2
import Derived.Test.YtpflidodnhbeoaaGreatDoorSAb3
import Derived.Test.YtpflidodnhbeoaaGreatDoorSAb4
import Derived.Test.YtpflidodnhbeoaaGreatDoorSAb5
import Derived.Test.YtpflidodnhbeoaaGreatDoorSAb6
import Derived.Test.YtpflidodnhbeoaaGreatDoorSAb7
import Derived.Test.YtpflidodnhbeoaaGreatDoorSAbE
import Derived.Test.YtpflidodnhbeoaaGreatDoorSAb8
import Derived.Test.YtpflidodnhbeoaaGreatDoorSAb9
import Derived.Test.YtpflidodnhbeoaaGreatDoorSAb10
import Derived.Test.YtpflidodnhbeoaaGreatDoorSAb11
import Derived.Test.YtpflidodnhbeoaaGreatDoorSAb12
import Derived.Test.YtpflidodnhbeoaaGreatDoorSAb13
import Derived.Test.YtpflidodnhbeoaaGreatDoorSAb14
import Derived.Test.YtpflidodnhbeoaaGreatDoorSAb15
import Derived.Test.YtpflidodnhbeoaaGreatDoorSAb16
import Derived.Test.YtpflidodnhbeoaaGreatDoorSAb17
import Derived.Test.YtpflidodnhbeoaaGreatDoorSAb18
import Derived.Test.YtpflidodnhbeoaaGreatDoorSAb19
import Derived.WalkKit
import Derived.ProofKit
import Derived.WideKeyArgs
import Derived.Test.YtpflidodnhbeoaaGreatDoorLays
import Derived.Laws.RangeAny
import Derived.Shelf.Strings.LastIndex
import Derived.Shelf.Strconv.Itoa3
import Derived.Shelf.Strconv.AppendUint10
import Derived.Laws.BitsLemmas
import Derived.Lib.Strings
import Derived.Test.YtpflidodnhbeoaaGreatDoorProg
import Derived.LaidEql
import Derived.Stop.Asserts
import Derived.RowKitTokens
import Derived.Shelf.Small.Strs
import Derived.JoinedOf
import Derived.SevenTiedAt
import Derived.Test.YtpflidodnhbeoaaGreatDoorRows
import Derived.Lay
import Derived.LaidHandle
import Derived.LaidSub
import Derived.Lib.LaidTab
import Derived.Lib.LaidU8
import Derived.LaidMore
import Derived.Deep.Slices
set_option linter.unusedVariables false
set_option linter.unusedSimpArgs false
section
namespace Go.Px
open Go Go.Ab
def bz (s : ByteArray) : List Int := s.data.toList.map fun b => (b.toNat : Int)
def sz (l : List Int) : ByteArray := ⟨(l.map fun n => UInt8.ofNat n.toNat).toArray⟩
def IsB (l : List Int) : Prop := ∀ c ∈ l, 0 ≤ c ∧ c < 256
@[simp] theorem bz_length (s : ByteArray) : (bz s).length = s.size := by
 unfold bz
 rw [List.length_map, Array.length_toList]
 rfl
theorem byteAt_eq (s : ByteArray) (i : Nat) : byteAt s i = (bz s).getD i 0 := by
 simp only [byteAt, bz, List.getD_eq_getElem?_getD, List.getElem?_map]
theorem bz_isB (s : ByteArray) : IsB (bz s) := by
 intro c hc
 simp only [bz, List.mem_map] at hc
 obtain ⟨b, _, rfl⟩ := hc
 have := b.toNat_lt
 omega
theorem sz_bz (s : ByteArray) : sz (bz s) = s := by
 simp only [sz, bz, List.map_map]
 have : ((fun n : Int => UInt8.ofNat n.toNat) ∘ fun b : UInt8 => (b.toNat : Int)) = id := by
  funext b
  simp
 rw [this]
 simp
theorem bz_sz {l : List Int} (h : IsB l) : bz (sz l) = l := by
 simp only [sz, bz, List.map_map]
 have : ∀ n ∈ l, ((fun b : UInt8 => (b.toNat : Int)) ∘ fun n : Int => UInt8.ofNat n.toNat) n = n := by
  intro n hn
  have := h n hn
  simp only [Function.comp, UInt8.toNat_ofNat']
  omega
 rw [List.map_congr_left this]
 simp
theorem bz_inj {a b : ByteArray} (h : bz a = bz b) : a = b := by rw [← sz_bz a, ← sz_bz b, h]
theorem bz_append (a b : ByteArray) : bz (a ++ b) = bz a ++ bz b := by
 simp [bz, ByteArray.data_append]
theorem bz_extract (s : ByteArray) (i j : Nat) : bz (s.extract i j) = ((bz s).take j).drop i := by
 simp [bz, ByteArray.data_extract, List.map_drop, List.map_take, Array.toList_extract, List.extract_eq_take_drop, List.drop_take]
theorem sz_append (a b : List Int) : sz (a ++ b) = sz a ++ sz b := by
 apply ByteArray.ext
 simp [sz, ByteArray.data_append]
theorem sz_size (l : List Int) : (sz l).size = l.length := by simp [sz, ByteArray.size]
theorem toList_beq (a b : ByteArray) : (a.toList == b.toList) = decide (bz a = bz b) := by
 rw [ByteArray.toList_eq, ByteArray.toList_eq, Bool.eq_iff_iff, beq_iff_eq, decide_eq_true_eq]
 constructor
 ·intro h; simp [bz, h]
 ·intro h
  have := bz_inj h
  rw [this]
theorem IsB.append {a b : List Int} (ha : IsB a) (hb : IsB b) : IsB (a ++ b) := fun c hc => by
 rcases List.mem_append.1 hc with h | h
 ·exact ha c h
 ·exact hb c h
theorem IsB.take {a : List Int} (ha : IsB a) (n : Nat) : IsB (a.take n) := fun c hc => ha c (List.mem_of_mem_take hc)
theorem IsB.drop {a : List Int} (ha : IsB a) (n : Nat) : IsB (a.drop n) := fun c hc => ha c (List.mem_of_mem_drop hc)
theorem IsB.nil : IsB [] := fun c hc => by cases hc
theorem IsB.cons {c : Int} {a : List Int} (h : 0 ≤ c ∧ c < 256) (ha : IsB a) : IsB (c :: a) := fun d hd => by
 rcases List.mem_cons.1 hd with rfl | hd
 ·exact h
 ·exact ha d hd
def cz (l : List Int) : List Value := l.map fun n => .int .u8 n
@[simp] theorem cz_length (l : List Int) : (cz l).length = l.length := by simp [cz]
theorem cz_append (a b : List Int) : cz (a ++ b) = cz a ++ cz b := by simp [cz]
theorem cz_plain : ∀ l : List Int, plainL (cz l) = true
 | [] => rfl
 | c :: r => by simpa [cz, plainL, plain] using cz_plain r
theorem cz_isBytes : ∀ l : List Int, isBytes (cz l) = true
 | [] => rfl
 | c :: r => by simpa [cz, isBytes] using cz_isBytes r
theorem cz_bytesL : ∀ l : List Int, bytesL (cz l) = l.map fun n => UInt8.ofNat n.toNat
 | [] => rfl
 | c :: r => by
  have := cz_bytesL r
  simp only [cz] at this
  simp only [cz, List.map_cons, bytesL, this]
theorem bytesOf_cz (l : List Int) (tail : List Value) : bytesOf (cz l ++ tail) 0 l.length = sz l := by
 simp only [bytesOf, List.drop_zero]
 rw [List.take_append_of_le_length (by simp), List.take_of_length_le (by simp), cz_bytesL]
 rfl
theorem bytesOK_cz (l : List Int) (tail : List Value) : bytesOK (cz l ++ tail) 0 l.length = true := by
 simp only [bytesOK, List.drop_zero, Bool.and_eq_true, Nat.ble_eq, List.length_append, cz_length]
 rw [List.take_append_of_le_length (by simp), List.take_of_length_le (by simp)]
 exact ⟨cz_isBytes l, by omega⟩
theorem strCells_eq (s : ByteArray) : Lib.strCells s = cz (bz s) := by
 simp [Lib.strCells, cz, bz]
theorem getD_drop (l : List Int) (i : Nat) (h : i < l.length) : l.drop i = l.getD i 0 :: l.drop (i + 1) := by
 rw [List.drop_eq_getElem_cons h]
 simp [List.getD_eq_getElem?_getD, h]
end Go.Px
end
section
namespace Go.Px
open Go Go.Ab Go.Proofs Go.Shelf
def punchedZ : List Int := [123, 65, 66, 67, 68, 69, 70, 71, 72, 73, 125, 74, 75, 76, 77, 78, 79, 80, 81, 82]
def pow10Z : List Int := [1, 10, 100, 1000, 10000, 100000, 1000000, 10000000, 100000000, 1000000000, 10000000000, 100000000000, 1000000000000, 10000000000000, 100000000000000, 1000000000000000, 10000000000000000, 100000000000000000, 1000000000000000000, 10000000000000000000]
def rowsT : Nat → Option (List Value)
 | 5 => some (punchedZ.map fun n => .int .u8 n)
 | 1 => some (pow10Z.map fun n => .int .u64 n)
 | 0 => some [.iface 229 (.agg ⟨[.pointer (some ⟨10, 105, none⟩)]⟩)]
 | _ => none
instance tabs : Tabs where
 row := rowsT
 plain := fun b r h => by
  match b, h with
  | 5, h => cases h; rfl
  | 1, h => cases h; rfl
  | 0, h => cases h; rfl
theorem hmix : Tryz.prog.follows .mixedOrders = true := by kernel_rfl
structure U8 where n : Int
structure R32 where n : Int
structure U64 where n : Int
instance : Enc U8 where
 enc a := .int .u8 a.n
 dec | .int .u8 n => some ⟨n⟩ | _ => none
 dec_some := by
  intro v a h
  split at h
  ·cases h; rfl
  ·cases h
 plain_enc _ := rfl
instance : Enc R32 where
 enc a := .int .i32 a.n
 dec | .int .i32 n => some ⟨n⟩ | _ => none
 dec_some := by
  intro v a h
  split at h
  ·cases h; rfl
  ·cases h
 plain_enc _ := rfl
instance : Enc U64 where
 enc a := .int .u64 a.n
 dec | .int .u64 n => some ⟨n⟩ | _ => none
 dec_some := by
  intro v a h
  split at h
  ·cases h; rfl
  ·cases h
 plain_enc _ := rfl
theorem pure_shelf {P : Program} {f : FuncId} {s : Ab.Spec} (hc : Callable P f)
  (h : ∀ args bs v, s args bs = some (true, v) → plainL args = true ∧ ∀ w, TabsIn w.heap.size w → Calls P f args.toArray w fun e w' => e = .returned v ∧ RowKit.Below w.heap.size w w') : PureOK P f s := by
 refine ⟨hc, fun args v N w0 lk ι w hrel hs hp => ?_⟩
 obtain ⟨h1, h2⟩ := h _ _ _ hs
 have hren : args.map (ren ι) = args := by rw [← renL_eq, renL_plain _ h1]
 rw [hren]
 exact h2 w hrel.tabs
theorem below_of_eq {w w' : World} (h : w' = w) : RowKit.Below w.heap.size w w' := h ▸ RowKit.Below.refl _ _
section
variable {α β : Type} [Enc α] [Enc β] {P : Program} {f : FuncId}
theorem shelf1 (hc : Callable P f) {g : α → Bool × Value} (h : ∀ a, (g a).1 = true → ∀ w, TabsIn w.heap.size w → Calls P f #[Enc.enc a] w fun e w' => e = .returned (g a).2 ∧ RowKit.Below w.heap.size w w') : PureOK P f (sp1 g) := by
 refine pure_shelf hc fun args bs v hs => ?_
 simp only [sp1] at hs
 split at hs
 ·split at hs
  ·rename_i ha
   simp only [Option.some.injEq] at hs
   obtain rfl := Enc.dec_some ha
   exact ⟨by simp [plainL, Enc.plain_enc], by have q := h _ (by rw [hs]); rw [hs] at q; exact q⟩
  ·cases hs
 ·cases hs
theorem shelf2 (hc : Callable P f) {g : α → β → Bool × Value} (h : ∀ a b, (g a b).1 = true → ∀ w, TabsIn w.heap.size w → Calls P f #[Enc.enc a, Enc.enc b] w fun e w' => e = .returned (g a b).2 ∧ RowKit.Below w.heap.size w w') : PureOK P f (sp2 g) := by
 refine pure_shelf hc fun args bs v hs => ?_
 simp only [sp2] at hs
 split at hs
 ·split at hs
  ·rename_i ha hb
   simp only [Option.some.injEq] at hs
   obtain rfl := Enc.dec_some ha
   obtain rfl := Enc.dec_some hb
   exact ⟨by simp [plainL, Enc.plain_enc], by have q := h _ _ (by rw [hs]); rw [hs] at q; exact q⟩
  ·cases hs
 ·cases hs
end
def idxZ : List Int → Int → Int
 | [], _ => -1
 | b :: l, c => if b = c then 0 else if idxZ l c = -1 then -1 else idxZ l c + 1
def cntZ (l : List Int) (c : Int) : Nat := (l.filter (· == c)).length
def sufZ (l p : List Int) : Bool := decide (p.length ≤ l.length ∧ l.drop (l.length - p.length) = p)
def hasZ (l : List Int) (c : Int) : Bool := l.any (· == c)
def anyZ (l cs : List Int) : Bool := l.any (hasZ cs)
def trimZ (l cs : List Int) : List Int := ((l.reverse.dropWhile (hasZ cs)).reverse).dropWhile (hasZ cs)
def repZ (l : List Int) : Nat → List Int
 | 0 => []
 | n + 1 => l ++ repZ l n
def isDig (c : Int) : Bool := decide (48 ≤ c ∧ c ≤ 57)
abbrev zl (l : List UInt8) : List Int := l.map fun b => (b.toNat : Int)
theorem u8_eq {a b : UInt8} : ((a.toNat : Int) = b.toNat) ↔ a = b := by
 rw [Int.natCast_inj, UInt8.toNat_inj]
theorem idx_zl (c : UInt8) : ∀ l : List UInt8, Lib.indexByte l c = idxZ (zl l) c.toNat
 | [] => rfl
 | b :: l => by
  simp only [Lib.indexByte, zl, List.map_cons, idxZ, idx_zl c l, u8_eq, beq_iff_eq]
theorem has_zl (c : UInt8) : ∀ l : List UInt8, l.contains c = hasZ (zl l) c.toNat
 | [] => rfl
 | b :: l => by
  have := has_zl c l
  simp only [hasZ, zl] at this
  rw [List.contains_cons, this]
  simp only [hasZ, zl, List.map_cons, List.any_cons]
  congr 1
  rw [Bool.eq_iff_iff, beq_iff_eq, beq_iff_eq, u8_eq]
  exact eq_comm
theorem hasZ_iff {l : List Int} {c : Int} : hasZ l c = true ↔ c ∈ l := by simp [hasZ]
theorem idx_has (c : Int) : ∀ l : List Int, -1 ≤ idxZ l c ∧ (0 ≤ idxZ l c ↔ c ∈ l)
 | [] => by simp [idxZ]
 | b :: l => by
  obtain ⟨h1, h2⟩ := idx_has c l
  simp only [idxZ, List.mem_cons]
  by_cases hb : b = c
  ·simp [hb]
  ·rw [if_neg hb]
   have hb' : ¬ c = b := fun h => hb h.symm
   split
   ·rename_i h
    rw [h] at h2
    simp only [hb', false_or]
    exact ⟨by omega, by rw [← h2]⟩
   ·exact ⟨by omega, by simp only [hb', false_or]; rw [← h2]; omega⟩
theorem cnt_zl (c : UInt8) : ∀ l : List UInt8, Lib.countByte l c = cntZ (zl l) c.toNat
 | [] => rfl
 | b :: l => by
  have ih := cnt_zl c l
  simp only [Lib.countByte, cntZ, zl] at ih
  simp only [Lib.countByte, cntZ, zl, List.map_cons, List.count_cons, List.filter_cons, ih]
  by_cases hb : b = c
  ·simp [hb]
  ·have : ((b.toNat : Int) == (c.toNat : Int)) = false := by simpa [u8_eq] using hb
   simp [hb, this]
theorem zl_inj {a b : List UInt8} (h : zl a = zl b) : a = b := by
 have := bz_inj (a := ⟨a.toArray⟩) (b := ⟨b.toArray⟩) (by simpa [bz] using h)
 simpa using congrArg (fun s : ByteArray => s.data.toList) this
theorem suf_zl (s p : List UInt8) : Lib.hasSuffix s p = sufZ (zl s) (zl p) := by
 rw [Bool.eq_iff_iff]
 simp only [Lib.hasSuffix, sufZ, List.isSuffixOf_iff_suffix, decide_eq_true_eq, List.length_map]
 constructor
 ·rintro ⟨t, rfl⟩
  exact ⟨by simp, by simp⟩
 ·rintro ⟨h1, h2⟩
  rw [← List.map_drop] at h2
  have e := zl_inj h2
  exact ⟨s.take (s.length - p.length), (congrArg (s.take (s.length - p.length) ++ ·) e.symm).trans (List.take_append_drop ..)⟩
theorem dropW_zl {p : UInt8 → Bool} {q : Int → Bool} (h : ∀ b : UInt8, p b = q b.toNat) : ∀ l : List UInt8, zl (l.dropWhile p) = (zl l).dropWhile q
 | [] => rfl
 | b :: l => by
  simp only [List.dropWhile_cons, zl, List.map_cons, h b]
  split
  ·exact dropW_zl h l
  ·rfl
theorem trim_zl (l cs : List UInt8) : zl (Lib.trimS l cs) = trimZ (zl l) (zl cs) := by
 have h : ∀ b : UInt8, cs.contains b = hasZ (zl cs) b.toNat := fun b => has_zl b cs
 simp only [Lib.trimS, Lib.trimLeftS, Lib.trimRightS, trimZ]
 rw [dropW_zl (q := hasZ (zl cs)) h]
 congr 1
 rw [zl, List.map_reverse, ← List.map_reverse]
 have := dropW_zl (p := (cs.contains ·)) (q := hasZ (zl cs)) h l.reverse
 rw [List.map_reverse]
 simp only [zl, List.map_reverse] at this ⊢
 rw [this]
theorem rep_zl (l : List UInt8) : ∀ n, zl (Lib.repeatL l n) = repZ (zl l) n
 | 0 => rfl
 | n + 1 => by
  have := rep_zl l n
  simp only [zl] at this
  simp [Lib.repeatL, repZ, zl, this]
theorem sz_zl (l : List UInt8) : (⟨l.toArray⟩ : ByteArray) = sz (zl l) := by
 rw [← sz_bz ⟨l.toArray⟩]
 simp [bz]
theorem bz_zl (s : ByteArray) : zl s.data.toList = bz s := rfl
end Go.Px
end
section
namespace Go.Px
open Go Go.Ab Go.Proofs Go.Shelf
theorem cal {P : Program} {f : FuncId} {fn : Func} (h : P.funcs[f]? = some fn) (hn : (fn.name == "runtime.NumGoroutine") = false) (hb : fn.body.isSome = true) : Callable P f := ⟨fn, h, hn, by cases hf : fn.body with | none => rw [hf] at hb; cases hb | some c => rfl⟩
theorem c141 : Callable Tryz.prog 272 := cal Tryz.func272 (by kernel_rfl) (by kernel_rfl)
theorem c157 : Callable Tryz.prog 279 := cal Tryz.func279 (by kernel_rfl) (by kernel_rfl)
theorem c130 : Callable Tryz.prog 130 := cal Tryz.func130 (by kernel_rfl) (by kernel_rfl)
theorem c132 : Callable Tryz.prog 129 := cal Tryz.func129 (by kernel_rfl) (by kernel_rfl)
theorem c102 : Callable Tryz.prog 203 := cal Tryz.func203 (by kernel_rfl) (by kernel_rfl)
theorem c89 : Callable Tryz.prog 55 := cal Tryz.func55 (by kernel_rfl) (by kernel_rfl)
def s141 (s : ByteArray) (c : U8) : Bool × Value := (decide (0 ≤ c.n ∧ c.n < 256), .int .i64 (idxZ (bz s) c.n))
theorem ok141 : PureOK Tryz.prog 272 (sp2 s141) := shelf2 c141 fun s c hc w _ => by
 have hc : 0 ≤ c.n ∧ c.n < 256 := of_decide_eq_true hc
 refine (Any.strings_IndexByte Tryz.lays137 s c.n w).mono fun e w' ⟨h1, h2⟩ => ⟨?_, below_of_eq h2⟩
 rw [h1, idx_zl]
 simp only [s141]
 have : ((c.n.toNat.toUInt8.toNat : Nat) : Int) = c.n := by
  simp only [Nat.toUInt8, UInt8.toNat_ofNat']
  omega
 rw [this, bz_zl]
def oneB (s : ByteArray) : Bool := Nat.beq s.size 1
theorem oneB_spec {s : ByteArray} (h : oneB s = true) : ∃ c : UInt8, s = ⟨#[c]⟩ ∧ (c.toNat : Int) = (bz s).getD 0 0 := by
 have h := Nat.eq_of_beq_eq_true h
 have hl : s.data.toList.length = 1 := by simpa using h
 match hm : s.data.toList, hl with
 | [c], _ =>
  refine ⟨c, ?_, by simp [bz, hm]⟩
  apply ByteArray.ext
  apply Array.ext'
  simpa using hm
def s157 (s t : ByteArray) : Bool × Value := (oneB t, .int .i64 (cntZ (bz s) ((bz t).getD 0 0)))
theorem ok157 : PureOK Tryz.prog 279 (sp2 s157) := shelf2 c157 fun s t hc w _ => by
 obtain ⟨c, h1, h2⟩ := oneB_spec hc
 have e : Enc.enc t = Value.string ⟨#[c]⟩ := congrArg Value.string h1
 rw [e]
 refine (Any.strings_Count_one Tryz.lays138 s c w).mono fun e w' ⟨h3, h4⟩ => ⟨?_, below_of_eq h4⟩
 rw [h3, cnt_zl, h2]
 rfl
def s132 (s t : ByteArray) : Bool × Value := (oneB t, .bool (hasZ (bz s) ((bz t).getD 0 0)))
theorem ok132 : PureOK Tryz.prog 129 (sp2 s132) := shelf2 c132 fun s t hc w _ => by
 obtain ⟨c, h1, h2⟩ := oneB_spec hc
 have e : Enc.enc t = Value.string ⟨#[c]⟩ := congrArg Value.string h1
 rw [e]
 refine (Any.strings_Contains_one Tryz.lays144 s c w).mono fun e w' ⟨h3, h4⟩ => ⟨?_, below_of_eq h4⟩
 rw [h3]
 simp only [s132]
 rw [← h2]
 congr 2
 rw [Bool.eq_iff_iff, decide_eq_true_eq, idx_zl, (idx_has _ _).2, hasZ_iff, bz_zl]
def s130 (s t : ByteArray) : Bool × Value := (decide (s.size ≤ 9223372036854775807), .bool (sufZ (bz s) (bz t)))
theorem ok130 : PureOK Tryz.prog 130 (sp2 s130) := shelf2 c130 fun s t hc w _ => by
 refine (Any.strings_HasSuffix Tryz.lays100 s t w (of_decide_eq_true hc)).mono fun e w' ⟨h3, h4⟩ => ⟨?_, below_of_eq h4⟩
 rw [h3, suf_zl]
 rfl
def asc (l : List Int) : Bool := l.all fun c => decide (c < 128)
theorem asc_spec {s : ByteArray} (h : asc (bz s) = true) : ∀ (j : Nat) b, s.data.toList[j]? = some b → b.toNat < 128 := fun j b hb => by
 simp only [asc, bz, List.all_map, List.all_eq_true] at h
 have := h b (List.mem_of_getElem? hb)
 simp at this
 omega
theorem info128 : (Tryz.prog.info? (Tryz.lays150_ren.t 116)).map (fun i => (i.zero, i.size)) = some (some (.agg (Array.replicate 256 (.bool false))), 256) := by kernel_rfl
theorem info128' : (Tryz.prog.info? (Tryz.lays160_ren.t 116)).map (fun i => (i.zero, i.size)) = some (some (.agg (Array.replicate 256 (.bool false))), 256) := by kernel_rfl
theorem indexAny_zl (cs : List UInt8) : ∀ l : List UInt8, (0 ≤ Lib.indexAny l cs) ↔ anyZ (zl l) (zl cs) = true
 | [] => by simp [Lib.indexAny, anyZ]
 | b :: l => by
  have ih := indexAny_zl cs l
  have g := Lib.indexAny_ge cs l
  have hb : hasZ (zl cs) b.toNat = cs.contains b := (has_zl b cs).symm
  simp only [anyZ, zl, List.map_cons, List.any_cons] at ih hb ⊢
  rw [hb]
  unfold Lib.indexAny
  split
  ·simp_all
  ·rename_i hn
   have hn : cs.contains b = false := by simpa using hn
   rw [hn, Bool.false_or, ← ih]
   split
   ·rename_i h
    have h := eq_of_beq h
    constructor <;> intro <;> omega
   ·rename_i h
    have h : Lib.indexAny l cs ≠ -1 := by simpa using h
    constructor <;> intro <;> omega
def s102 (s t : ByteArray) : Bool × Value := (decide (s.size ≤ 1000) && (decide (t.size ≤ 1000) && (asc (bz s) && asc (bz t))), .bool (anyZ (bz s) (bz t)))
theorem ok102 : PureOK Tryz.prog 203 (sp2 s102) := shelf2 c102 fun s t hc w _ => by
 simp only [s102, Bool.and_eq_true, decide_eq_true_eq] at hc
 obtain ⟨h1, h2, h3, h4⟩ := hc
 refine (Any.strings_ContainsAny_laid Tryz.lays150 info128 s t w (by omega) (by omega) (asc_spec h3) (asc_spec h4)).mono fun e w' ⟨h5, h6⟩ => ⟨?_, h6⟩
 rw [h5]
 simp only [s102]
 congr 2
 rw [Bool.eq_iff_iff, Lib.containsAny, decide_eq_true_eq, indexAny_zl]
 rfl
theorem szO_ex : ∃ f : List Int → ByteArray, f = sz := ⟨_, rfl⟩
noncomputable def szO : List Int → ByteArray := Classical.choose szO_ex
theorem szO_eq (l : List Int) : szO l = sz l := by rw [szO, Classical.choose_spec szO_ex]
noncomputable def s89 (s t : ByteArray) : Bool × Value := (decide (s.size ≤ 1000) && (decide (t.size ≤ 1000) && asc (bz t)), .string (szO (trimZ (bz s) (bz t))))
theorem ok89 : PureOK Tryz.prog 55 (sp2 s89) := shelf2 c89 fun s t hc w _ => by
 simp only [s89, Bool.and_eq_true, decide_eq_true_eq] at hc
 obtain ⟨h1, h2, h3⟩ := hc
 refine (Any.strings_Trim_laid Tryz.lays160 info128' s t w (by omega) (by omega) (asc_spec h3)).mono fun e w' ⟨h5, h6⟩ => ⟨?_, h6⟩
 rw [h5, sz_zl, trim_zl]
 simp only [s89, szO_eq]
 rfl
end Go.Px
end
section
namespace Go.Px
open Go Go.Ab Go.Proofs
abbrev I (n : Int) : Value := .int .i64 n
abbrev B (b : Bool) : Value := .bool b
abbrev C8 (n : Int) : Value := .int .u8 n
abbrev S (s : ByteArray) : Value := .string s
def e0 : ByteArray := ⟨#[]⟩
theorem c_t {b : Bool} {P Q : Prop} (h : b = true) (hp : P) : bif b then P else Q := by rw [h]; exact hp
theorem c_f {b : Bool} {P Q : Prop} (h : b = false) (hq : Q) : bif b then P else Q := by rw [h]; exact hq
theorem w64 {n : Int} (h : -9223372036854775808 ≤ n ∧ n ≤ 9223372036854775807) : IntKind.wrap .i64 n = n := by rw [IntKind.wrap_i64]; omega
theorem w3 {a b c d : Int} (ha : 0 ≤ a ∧ a ≤ 1000) (hb : 0 ≤ b ∧ b ≤ 1000) (hc : 0 ≤ c ∧ c ≤ 1000) (hd : 0 ≤ d ∧ d ≤ 1000) :
  IntKind.wrap .i64 (IntKind.wrap .i64 (IntKind.wrap .i64 (a + b) + c) + d) = a + b + c + d := by
 rw [w64 (n := a + b) (by omega), w64 (n := a + b + c) (by omega), w64 (by omega)]
theorem w8e (n : Int) : IntKind.wrap .u8 n = n % 256 := by
 simp [IntKind.wrap, IntKind.bits, IntKind.signed]
theorem w8 {n : Int} (h : 0 ≤ n ∧ n < 256) : IntKind.wrap .u8 n = n := by rw [w8e]; omega
theorem byte_rng (s : ByteArray) (i : Nat) : 0 ≤ byteAt s i ∧ byteAt s i < 256 := by
 rw [byteAt_eq, List.getD_eq_getElem?_getD]
 cases h : (bz s)[i]? with
 | none => simp
 | some c => exact bz_isB s c (List.mem_of_getElem? h)
theorem bz_at {s : ByteArray} {i : Int} (h0 : 0 ≤ i) (h : i < s.size) : (bz s).drop i.toNat = byteAt s i.toNat :: (bz s).drop (i + 1).toNat := by
 have := getD_drop (bz s) i.toNat (by rw [bz_length]; omega)
 rw [this, byteAt_eq]
 congr 2
 omega
theorem bz_end {s : ByteArray} {i : Int} (h : s.size ≤ i) : (bz s).drop i.toNat = [] := List.drop_eq_nil_of_le (by rw [bz_length]; omega)
def upZ (c : Int) : Int := if 97 ≤ c ∧ c ≤ 122 then c - 32 else c
def twoL (i : Nat) (h : LoopH) (j : Nat) (h' : LoopH) : Nat → Option LoopH := fun k => match Nat.beq k i with | true => some h | false => match Nat.beq k j with | true => some h' | false => none
theorem lokf_two {P : Program} {fn : Func} {i j : Nat} {h h' : LoopH} (hij : Nat.beq j i = false) (hb : (match fn.body with | some c => blks (twoL i h j h') c | none => []) = [(i, .loop (loopOf fn i)), (j, .loop (loopOf fn j))])
  (hs : ∀ t m n K, h t m n K → Ab.Sem P fn.ntmps (.loop (loopOf fn i)) t m n K) (hs' : ∀ t m n K, h' t m n K → Ab.Sem P fn.ntmps (.loop (loopOf fn j)) t m n K) : LOKf P (twoL i h j h') fn := by
 unfold LOKf
 split
 ·rename_i c hc
  simp only [hc] at hb
  refine lok_of c fun p hp k hk => ?_
  rw [hb] at hp
  simp only [List.mem_cons, List.not_mem_nil, or_false] at hp
  have e : Nat.beq i i = true := by simp
  have e' : Nat.beq j j = true := by simp
  rcases hp with rfl | rfl
  ·simp only [twoL, e, Option.some.injEq] at hk
   subst hk
   exact hs
  ·simp only [twoL, hij, e', Option.some.injEq] at hk
   subst hk
   exact hs'
 ·trivial
theorem lok_one {P : Program} {nt : Nat} {c b : Code} {id : Nat} {h : LoopH} (hb : blks (oneL id h) c = [(id, b)]) (hs : ∀ t m n K, h t m n K → Ab.Sem P nt b t m n K) : LOK P (oneL id h) nt c := by
 refine lok_of c fun p hp h' hh => ?_
 rw [hb] at hp
 simp only [List.mem_singleton] at hp
 subst hp
 have : h' = h := by
  simp only [oneL] at hh
  have e : Nat.beq id id = true := by simp
  rw [e] at hh
  simpa using hh.symm
 subst this
 exact hs
theorem bz_take_at {s : ByteArray} {i l : Int} (h0 : 0 ≤ i) (h : i < l) (hl : l ≤ s.size) : ((bz s).take l.toNat).drop i.toNat = byteAt s i.toNat :: ((bz s).take l.toNat).drop (i + 1).toNat := by
 have hlen : ((bz s).take l.toNat).length = l.toNat := by rw [List.length_take, bz_length]; omega
 have := getD_drop ((bz s).take l.toNat) i.toNat (by omega)
 rw [this, byteAt_eq]
 have e : ((bz s).take l.toNat).getD i.toNat 0 = (bz s).getD i.toNat 0 := by
  simp only [List.getD_eq_getElem?_getD]
  rw [List.getElem?_take, if_pos (by omega)]
 rw [e]
 congr 2
 omega
theorem cnt_le (l : List Int) (c : Int) : cntZ l c ≤ l.length := List.length_filter_le ..
def iv : Value → Int
 | .int _ n => n
 | _ => 0
def zc (c : List Value) (n : Nat) : List Int := (c.take n).map iv
def rowOK (c : List Value) (n cap : Nat) : Bool := isBytes (c.take n) && (plainL c && (Nat.beq c.length cap && (Nat.ble n cap && Nat.ble cap 9223372036854775807)))
theorem cz_of : ∀ {l : List Value}, isBytes l = true → cz (l.map iv) = l
 | [], _ => rfl
 | .int .u8 n :: r, h => by
  have := cz_of (l := r) (by simpa [isBytes] using h)
  simp only [cz] at this
  simp only [List.map_cons, cz, iv, this]
structure RowP (c : List Value) (n cap : Nat) : Prop where
 bytes : isBytes (c.take n) = true
 plain : plainL c = true
 len : c.length = cap
 le : n ≤ cap
 cap : cap ≤ 9223372036854775807
theorem rowOK_iff {c : List Value} {n cap : Nat} : rowOK c n cap = true ↔ RowP c n cap := by
 simp only [rowOK, Bool.and_eq_true, Nat.ble_eq, Nat.beq_eq]
 exact ⟨fun ⟨h1, h2, h3, h4, h5⟩ => ⟨h1, h2, h3, h4, h5⟩, fun ⟨h1, h2, h3, h4, h5⟩ => ⟨h1, h2, h3, h4, h5⟩⟩
theorem zc_length {c : List Value} {n cap : Nat} (h : RowP c n cap) : (zc c n).length = n := by
 have h1 := h.len
 have h2 := h.le
 simp only [zc, List.length_map, List.length_take]
 omega
theorem RowP.eq {c : List Value} {n cap : Nat} (h : RowP c n cap) : c = cz (zc c n) ++ c.drop n := by
 rw [zc, cz_of h.bytes, List.take_append_drop]
theorem RowP.take {c : List Value} {n cap : Nat} (h : RowP c n cap) : c.take n = cz (zc c n) := (cz_of h.bytes).symm
theorem RowP.str {c : List Value} {n cap : Nat} (h : RowP c n cap) : bytesOK c 0 n = true ∧ bytesOf c 0 n = sz (zc c n) := by
 have hz := zc_length h
 have e := h.eq
 have h1 := bytesOK_cz (zc c n) (c.drop n)
 have h2 := bytesOf_cz (zc c n) (c.drop n)
 rw [← e, hz] at h1 h2
 exact ⟨h1, h2⟩
theorem plainL_append {a b : List Value} : plainL (a ++ b) = true ↔ plainL a = true ∧ plainL b = true := by
 simp only [plainL_iff, List.mem_append]
 exact ⟨fun h => ⟨fun v hv => h v (.inl hv), fun v hv => h v (.inr hv)⟩, fun ⟨h1, h2⟩ v hv => hv.elim (h1 v) (h2 v)⟩
theorem row_mk (L : List Int) {tail : List Value} {cap : Nat} (ht : plainL tail = true) (hl : L.length + tail.length = cap) (hc : cap ≤ 9223372036854775807) : RowP (cz L ++ tail) L.length cap ∧ zc (cz L ++ tail) L.length = L := by
 have e : (cz L ++ tail).take L.length = cz L := by rw [List.take_append_of_le_length (by simp), List.take_of_length_le (by simp)]
 refine ⟨⟨by rw [e]; exact cz_isBytes L, plainL_append.2 ⟨cz_plain L, ht⟩, by simp [hl], by omega, hc⟩, ?_⟩
 show List.map iv ((cz L ++ tail).take L.length) = L
 rw [e]
 simp only [cz, List.map_map]
 have : (iv ∘ fun n : Int => Value.int .u8 n) = id := by funext n; rfl
 rw [this, List.map_id]
theorem tail_spec {tail : List Value} {cap need size : Nat} (h : tailOK tail cap need size = true) : plainL tail = true ∧ tail.length + need * size = cap * size ∧ need ≤ cap ∧ cap ≤ 9223372036854775807 := by
 simp only [tailOK, Bool.and_eq_true, Nat.ble_eq, Nat.beq_eq] at h
 exact ⟨h.1.1.1, h.1.1.2, h.1.2, h.2⟩
theorem RowP.app {c : List Value} {n cap : Nat} (h : RowP c n cap) (M : List Int) {tail : List Value} {cap' : Nat} (ht : tailOK tail cap' (n + M.length) 1 = true) :
  RowP (c.take n ++ cz M ++ tail) (n + M.length) cap' ∧ zc (c.take n ++ cz M ++ tail) (n + M.length) = zc c n ++ M := by
 obtain ⟨t1, t2, t3, t4⟩ := tail_spec ht
 have hz := zc_length h
 have := row_mk (zc c n ++ M) (tail := tail) (cap := cap') t1 (by simp only [List.length_append, hz]; omega) t4
 simp only [List.length_append, hz, cz_append] at this
 rw [h.take]
 exact this
theorem RowP.app1 {c : List Value} {n cap : Nat} (h : RowP c n cap) (x : Int) {tail : List Value} {cap' : Nat} (ht : tailOK tail cap' (n + 1) 1 = true) :
  RowP (c.take (n * 1) ++ [.int .u8 x] ++ tail) (n + 1) cap' ∧ zc (c.take (n * 1) ++ [.int .u8 x] ++ tail) (n + 1) = zc c n ++ [x] := by
 rw [Nat.mul_one]
 exact h.app [x] ht
theorem RowP.ask {c : List Value} {n cap : Nat} (h : RowP c n cap) {k : Nat} (hk : n + k ≤ 1000000) :
  (Nat.beq c.length (cap * 1) && Nat.ble n cap && Nat.ble cap 9223372036854775807 && true && fitsA (n + k) 1) = true := by
 have h1 := h.len
 have h2 := h.le
 have h3 := h.cap
 simp only [fitsA, Bool.and_eq_true, Nat.ble_eq, Nat.beq_eq, Nat.mul_one]
 exact ⟨⟨⟨⟨h1, h2⟩, h3⟩, trivial⟩, by omega, by omega⟩
theorem row_new (M : List Int) {tail : List Value} {cap' : Nat} (ht : tailOK tail cap' M.length 1 = true) : RowP (cz M ++ tail) M.length cap' ∧ zc (cz M ++ tail) M.length = M := by
 obtain ⟨t1, t2, t3, t4⟩ := tail_spec ht
 exact row_mk M t1 (by omega) t4
theorem RowP.good {c : List Value} {n cap : Nat} (h : RowP c n cap) (ps : List (Nat × Nat)) : goodL ps c = true := goodL_plain h.plain
theorem RowP.rlb {c : List Value} {n cap : Nat} (h : RowP c n cap) (ps : List (Nat × Nat)) : rlbL ps c = c := rlbL_plain ps h.plain
theorem app_step {d : List Value} {m cap : Nat} (hr : RowP d m cap) (hm : m ≤ 100000) (x : Int) (ps : List (Nat × Nat)) (K : Nat → List Value → Prop)
  (h : ∀ (cap' : Nat) (d' : List Value), RowP d' (m + 1) cap' → zc d' (m + 1) = zc d m ++ [x] → K cap' d') :
  bif Nat.beq d.length (cap * 1) && Nat.ble m cap && Nat.ble cap 9223372036854775807 && true && fitsA (m + 1) 1 then
   ∀ (cap1 : Nat) (tail : List Value), tailOK tail cap1 (m + 1) 1 = true →
    bif goodL ps (List.take (m * 1) d ++ [.int .u8 x] ++ tail) && true && true then K cap1 (rlbL ps (List.take (m * 1) d ++ [.int .u8 x] ++ tail)) else False
  else False := by
 rw [hr.ask (k := 1) (by omega)]
 intro cap1 tail ht
 obtain ⟨h1, h2⟩ := hr.app1 x ht
 rw [h1.good, h1.rlb]
 exact h cap1 _ h1 h2
theorem ids_plainB {c : List Value} (h : plainL c = true) (n : Nat) : idsLt n c = true := by
 simp [idsLt, ids_plainL h]
end Go.Px
end
section
namespace Go.Px
open Go Go.Ab Go.Proofs
def G0 : Env := Env.nil
theorem ok_G0 : EnvOK Tryz.prog G0 := env_nil
def s82 (c : U8) : Bool × Value := (decide (0 ≤ c.n ∧ c.n < 256), .int .u8 (upZ c.n))
theorem fn82 : Fn1 Tryz.prog 211 Tryz.f211 := ⟨Tryz.func211, by kernel_rfl, by kernel_rfl, by kernel_rfl⟩
theorem v82 (c : U8) (R : Value → Prop) : bodyQ Tryz.prog G0 noL Tryz.f211 [Enc.enc c] (fun _ => none) 0 (fun v _ _ => R v) = ( bif decide (U8.n c ≥ 97) || true then bif decide (U8.n c ≥ 97) && decide (U8.n c ≤ 122) then R (.int .u8 (IntKind.wrap .u8 (IntKind.wrap .u8 (U8.n c - 97) + 65))) else R (.int .u8 (U8.n c)) else False) := by kernel_rfl
theorem ok82 : PureOK Tryz.prog 211 (sp1 s82) := by
 refine qure1 ok_G0 hmix fn82 lokf_none (Nat.le_of_ble_eq_true (by kernel_rfl)) fun c hc => ?_
 rw [DoesQ, v82]
 have hc : (0 ≤ c.n ∧ c.n < 256) := of_decide_eq_true hc
 dsimp only [s82]
 unfold upZ
 refine c_t (by simp) ?_
 refine cond_intro (fun h => ?_) (fun h => ?_)
 ·have h : 97 ≤ c.n ∧ c.n ≤ 122 := by simpa using h
  rw [if_pos h, w8 (n := c.n - 97) (by omega), w8 (by omega), show c.n - 97 + 65 = c.n - 32 by omega]
 ·have h : ¬ (97 ≤ c.n ∧ c.n ≤ 122) := by simpa using h
  rw [if_neg h]
def V40_0 : ByteArray × Int × Bool × Int → List Value := fun (s, c, b, i) => [S s, C8 c, B b, I i]
def B40_0 : ByteArray × Int × Bool × Int → List (Option Blk) := fun _ => []
def S40_0 : LSpec (ByteArray × Int × Bool × Int) where
 live := [0, 1, 4, 5]
 mid := []
 n := 60
 dec vs bs := match vs, bs with | [.string s, .int .u8 c, .bool b, .int .i64 i], [] => some (s, c, b, i) | _, _ => none
 pre := fun (s, c, b, i) => decide (0 ≤ i ∧ i ≤ s.size ∧ s.size ≤ 9223372036854775807)
 fin := fun (s, c, b, i) Z => (bif hasZ ((bz s).drop i.toNat) c then (∀ i', Z .ret [S s, C8 c, B true, I i'] []) else Z (.exit 0) [S s, C8 c, B b, I s.size] [])
theorem r40_0 (s : ByteArray) (c : Int) (b : Bool) (i : Int) (jk : Tmps) (R : Exit → List Value → List (Option Blk) → Prop) : (codeQ Tryz.prog G0 noL Tryz.f202.ntmps (loopOf Tryz.f202 0) (tl S40_0.live (V40_0 (s, c, b, i)) jk) (ml S40_0.mid (B40_0 (s, c, b, i))) S40_0.n fun e t' m' _ => R e (List.map t' S40_0.live) (List.map m' S40_0.mid)) = ( bif decide (i < (↑(ByteArray.size s) : Int)) then bif decide (0 ≤ i ∧ i < (↑(ByteArray.size s) : Int)) then bif byteAt s (Int.toNat i) == c then R Exit.ret [S s, .int .u8 c, B true, I i] [] else R Exit.normal [S s, .int .u8 c, B b, I (IntKind.wrap .i64 (i + 1))] [] else False else R (Exit.exit 0) [S s, .int .u8 c, B b, I i] []) := by kernel_rfl
theorem l40_0 : LOKf Tryz.prog (oneL 0 S40_0.h) Tryz.f202 := by
 refine lokf_one (h := S40_0.h) (by kernel_rfl) (loop_specQ ok_G0 hmix (by kernel_rfl) (lok_none _) S40_0 V40_0 B40_0 (fun (s, c, b, i) => (s.size - i).toNat) ?_ ?_ ?_)
 ·intro vs bs s h
  simp only [S40_0] at h
  split at h
  all_goals first | (cases h; exact ⟨rfl, rfl⟩) | cases h
 ·exact fun _ _ _ h => h
 ·intro ⟨s, c, b, i⟩ jk Z hp hf
  rw [r40_0]
  simp only [S40_0] at hp hf
  simp only [decide_eq_true_eq] at hp
  refine cond_intro (fun h => ?_) (fun h => ?_)
  ·have h := of_decide_eq_true h
   rw [bz_at hp.1 h] at hf
   refine c_t (decide_eq_true (by omega)) ?_
   simp only [hasZ, List.any_cons] at hf
   refine cond_intro (fun hb => ?_) (fun hb => ?_)
   ·rw [hb] at hf
    exact hf i
   ·rw [hb, Bool.false_or] at hf
    rw [w64 (by omega)]
    exact ⟨(s, c, b, i + 1), rfl, rfl, by simp only [S40_0, decide_eq_true_eq]; omega, by simp only; omega, hf⟩
  ·have h := of_decide_eq_false h
   rw [bz_end (by omega)] at hf
   obtain rfl : i = s.size := by omega
   exact hf
def s40 (s : ByteArray) (c : U8) : Bool × Value := (decide (s.size ≤ 9223372036854775807), .bool (hasZ (bz s) c.n))
theorem fn40 : Fn1 Tryz.prog 202 Tryz.f202 := ⟨Tryz.func202, by kernel_rfl, by kernel_rfl, by kernel_rfl⟩
theorem v40 (s : ByteArray) (c : U8) (R : Value → Prop) : bodyQ Tryz.prog G0 (oneL 0 S40_0.h) Tryz.f202 [Enc.enc s, Enc.enc c] (fun _ => none) 0 (fun v _ _ => R v) = ( bif LSpec.pre S40_0 (s, U8.n c, false, 0) then bif hasZ (List.drop (Int.toNat 0) (bz s)) (U8.n c) then ∀ (i' : Int) (x : Tmps), R (B true) else ∀ (x : Tmps), R (B false) else False) := by kernel_rfl
theorem ok40 : PureOK Tryz.prog 202 (sp2 s40) := by
 refine qure2 ok_G0 hmix fn40 l40_0 (Nat.le_of_ble_eq_true (by kernel_rfl)) fun s c hc => ?_
 rw [DoesQ, v40]
 have hc : (s.size ≤ 9223372036854775807) := of_decide_eq_true hc
 dsimp only [s40]
 refine c_t (by simp only [S40_0, decide_eq_true_eq]; omega) ?_
 rw [show List.drop (Int.toNat 0) (bz s) = bz s from rfl]
 exact cond_intro (fun h _ _ => by rw [h]) (fun h _ => by rw [h])
def V75_0 : ByteArray × Int × Int × Int → List Value := fun (s, c, n, i) => [S s, C8 c, I n, I i]
def B75_0 : ByteArray × Int × Int × Int → List (Option Blk) := fun _ => []
def S75_0 : LSpec (ByteArray × Int × Int × Int) where
 live := [0, 1, 5, 6]
 mid := []
 n := 60
 dec vs bs := match vs, bs with | [.string s, .int .u8 c, .int .i64 n, .int .i64 i], [] => some (s, c, n, i) | _, _ => none
 pre := fun (s, c, n, i) => decide (0 ≤ i ∧ i ≤ s.size ∧ s.size ≤ 9223372036854775807 ∧ 0 ≤ n ∧ n ≤ i)
 fin := fun (s, c, n, i) Z => Z (.exit 0) [S s, C8 c, I (n + cntZ ((bz s).drop i.toNat) c), I s.size] []
theorem r75_0 (s : ByteArray) (c : Int) (n : Int) (i : Int) (jk : Tmps) (R : Exit → List Value → List (Option Blk) → Prop) : (codeQ Tryz.prog G0 noL Tryz.f199.ntmps (loopOf Tryz.f199 0) (tl S75_0.live (V75_0 (s, c, n, i)) jk) (ml S75_0.mid (B75_0 (s, c, n, i))) S75_0.n fun e t' m' _ => R e (List.map t' S75_0.live) (List.map m' S75_0.mid)) = ( bif decide (i < (↑(ByteArray.size s) : Int)) then bif decide (0 ≤ i ∧ i < (↑(ByteArray.size s) : Int)) then bif byteAt s (Int.toNat i) == c then R Exit.normal [S s, .int .u8 c, I (IntKind.wrap .i64 (n + 1)), I (IntKind.wrap .i64 (i + 1))] [] else R Exit.normal [S s, .int .u8 c, I n, I (IntKind.wrap .i64 (i + 1))] [] else False else R (Exit.exit 0) [S s, .int .u8 c, I n, I i] []) := by kernel_rfl
theorem l75_0 : LOKf Tryz.prog (oneL 0 S75_0.h) Tryz.f199 := by
 refine lokf_one (h := S75_0.h) (by kernel_rfl) (loop_specQ ok_G0 hmix (by kernel_rfl) (lok_none _) S75_0 V75_0 B75_0 (fun (s, c, n, i) => (s.size - i).toNat) ?_ ?_ ?_)
 ·intro vs bs s h
  simp only [S75_0] at h
  split at h
  all_goals first | (cases h; exact ⟨rfl, rfl⟩) | cases h
 ·exact fun _ _ _ h => h
 ·intro ⟨s, c, n, i⟩ jk Z hp hf
  rw [r75_0]
  simp only [S75_0] at hp hf
  simp only [decide_eq_true_eq] at hp
  refine cond_intro (fun h => ?_) (fun h => ?_)
  ·have h := of_decide_eq_true h
   rw [bz_at hp.1 h] at hf
   refine c_t (decide_eq_true (by omega)) ?_
   simp only [cntZ, List.filter_cons] at hf
   refine cond_intro (fun hb => ?_) (fun hb => ?_)
   ·rw [hb] at hf
    rw [w64 (n := n + 1) (by omega), w64 (by omega)]
    refine ⟨(s, c, n + 1, i + 1), rfl, rfl, by simp only [S75_0, decide_eq_true_eq]; omega, by simp only; omega, ?_⟩
    simp only [S75_0, cntZ]
    simp only [if_true, List.length_cons] at hf
    rw [show n + 1 + ((List.filter (fun x => x == c) (List.drop (Int.toNat (i + 1)) (bz s))).length : Int) = n + ((List.filter (fun x => x == c) (List.drop (Int.toNat (i + 1)) (bz s))).length + 1 : Nat) by omega]
    exact hf
   ·rw [hb] at hf
    rw [w64 (by omega)]
    exact ⟨(s, c, n, i + 1), rfl, rfl, by simp only [S75_0, decide_eq_true_eq]; omega, by simp only; omega, hf⟩
  ·have h := of_decide_eq_false h
   rw [bz_end (by omega)] at hf
   obtain rfl : i = s.size := by omega
   simp only [cntZ, List.filter_nil, List.length_nil] at hf
   rw [show n + ((0 : Nat) : Int) = n by omega] at hf
   exact hf
def s75 (s : ByteArray) (c : U8) : Bool × Value := (decide (s.size ≤ 9223372036854775807), .int .i64 (cntZ (bz s) c.n))
theorem fn75 : Fn1 Tryz.prog 199 Tryz.f199 := ⟨Tryz.func199, by kernel_rfl, by kernel_rfl, by kernel_rfl⟩
theorem v75 (s : ByteArray) (c : U8) (R : Value → Prop) : bodyQ Tryz.prog G0 (oneL 0 S75_0.h) Tryz.f199 [Enc.enc s, Enc.enc c] (fun _ => none) 0 (fun v _ _ => R v) = ( bif LSpec.pre S75_0 (s, U8.n c, 0, 0) then ∀ (x : Tmps), R (I (0 + (↑(cntZ (List.drop (Int.toNat 0) (bz s)) (U8.n c)) : Int))) else False) := by kernel_rfl
theorem ok75 : PureOK Tryz.prog 199 (sp2 s75) := by
 refine qure2 ok_G0 hmix fn75 l75_0 (Nat.le_of_ble_eq_true (by kernel_rfl)) fun s c hc => ?_
 rw [DoesQ, v75]
 have hc : (s.size ≤ 9223372036854775807) := of_decide_eq_true hc
 dsimp only [s75]
 refine c_t (by simp only [S75_0, decide_eq_true_eq]; omega) ?_
 rw [show List.drop (Int.toNat 0) (bz s) = bz s from rfl, Int.zero_add]
 exact fun _ => rfl
def rep1 (c : Int) (n : Nat) : List Int := List.replicate n c
theorem rep1_succ (c : Int) (n : Nat) : [c] ++ rep1 c n = rep1 c (n + 1) := rfl
def V57_0 : Int × Int × List Value × Nat × Nat × Int → List Value := fun (c, n, d, m, cap, i) => [C8 c, I n, .slice (some ⟨200, 0, some 1⟩) m cap, I i]
def B57_0 : Int × Int × List Value × Nat × Nat × Int → List (Option Blk) := fun (c, n, d, m, cap, i) => [some ⟨d, 5, true⟩]
def S57_0 : LSpecA (Int × Int × List Value × Nat × Nat × Int) where
 live := [0, 1, 5, 6]
 mid := [200]
 n := 210
 ap := [(.tmp 5, 200)]
 dec vs bs := match vs, bs with | [.int .u8 c, .int .i64 n, .slice (some ⟨200, 0, some 1⟩) m cap, .int .i64 i], [some ⟨d, 5, true⟩] => some (c, n, d, m, cap, i) | _, _ => none
 pre := fun (c, n, d, m, cap, i) => rowOK d m cap && decide (0 ≤ i ∧ i ≤ n ∧ n ≤ 1000 ∧ i = m)
 fin := fun (c, n, d, m, cap, i) Z => ∀ d' cap', rowOK d' n.toNat cap' = true → zc d' n.toNat = zc d m ++ rep1 c (n - i).toNat → Z (.exit 0) [C8 c, I n, .slice (some ⟨200, 0, some 1⟩) n.toNat cap', I n] [some ⟨d', 5, true⟩]
theorem r57_0 (c : Int) (n : Int) (d : List Value) (m : Nat) (cap : Nat) (i : Int) (jk : Tmps) (R : Exit → List Value → List (Option Blk) → Prop) : (codeQ Tryz.prog G0 noL Tryz.f229.ntmps (loopOf Tryz.f229 0) (tl S57_0.live (V57_0 (c, n, d, m, cap, i)) jk) (ml S57_0.mid (B57_0 (c, n, d, m, cap, i))) S57_0.n fun e t' m' _ => S57_0.out R e t' m') = ( bif decide (i < n) then bif Nat.beq (List.length d) (cap * 1) && Nat.ble m cap && Nat.ble cap 9223372036854775807 && true && fitsA (m + 1) 1 then ∀ (cap : Nat) (tail : List Value), tailOK tail cap (m + 1) 1 = true → bif goodL [(216, 200)] (List.take (m * 1) d ++ [.int .u8 c] ++ tail) && true && true then R Exit.normal [.int .u8 c, I n, .slice (some (.mk 200 0 (some 1))) (m + 1) cap, I (IntKind.wrap .i64 (i + 1))] [some (.mk (rlbL [(216, 200)] (List.take (m * 1) d ++ [.int .u8 c] ++ tail)) 5 true)] else False else False else bif goodL [(200, 200)] d && true && true then R (Exit.exit 0) [.int .u8 c, I n, .slice (some (.mk 200 0 (some 1))) m cap, I i] [some (.mk (rlbL [(200, 200)] d) 5 true)] else False) := by kernel_rfl
theorem l57_0 : LOKf Tryz.prog (oneL 0 S57_0.hA) Tryz.f229 := by
 refine lokf_one (h := S57_0.hA) (by kernel_rfl) (loop_specA ok_G0 hmix (by kernel_rfl) (lok_none _) S57_0 V57_0 B57_0 (fun (c, n, d, m, cap, i) => (n - i).toNat) ?_ ?_ ?_)
 ·intro vs bs s h
  simp only [S57_0] at h
  split at h
  all_goals first | (cases h; exact ⟨rfl, rfl⟩) | cases h
 ·exact fun ⟨c, n, d, m, cap, i⟩ hp => by
   simp only [S57_0, Bool.and_eq_true] at hp
   simp [V57_0, B57_0, S57_0, idsLt, idsLtB, idsL, ids, ids_plainL (rowOK_iff.1 hp.1).plain]
 ·intro ⟨c, n, d, m, cap, i⟩ jk Z hp hf
  rw [r57_0]
  simp only [S57_0] at hp hf
  simp only [Bool.and_eq_true, decide_eq_true_eq] at hp
  obtain ⟨hr, hp⟩ := hp
  have hr := rowOK_iff.1 hr
  refine cond_intro (fun h => ?_) (fun h => ?_)
  ·have h := of_decide_eq_true h
   refine c_t (hr.ask (by omega)) (fun cap1 tail ht => ?_)
   obtain ⟨h1, h2⟩ := hr.app1 c ht
   refine c_t (by rw [h1.good]; rfl) ?_
   rw [h1.rlb, w64 (by omega)]
   refine ⟨(c, n, _, m + 1, cap1, i + 1), rfl, rfl, by simp only [S57_0, Bool.and_eq_true, decide_eq_true_eq]; exact ⟨rowOK_iff.2 h1, by omega⟩, by simp only; omega, ?_⟩
   intro d' cap' g1 g2
   refine hf d' cap' g1 ?_
   rw [g2, h2, show (n - i).toNat = (n - (i + 1)).toNat + 1 by omega, ← rep1_succ, List.append_assoc]
  ·have h := of_decide_eq_false h
   refine c_t (by rw [hr.good]; rfl) ?_
   rw [hr.rlb]
   obtain rfl : i = n := by omega
   have e : i.toNat = m := by omega
   have := hf d cap (by rw [e]; exact rowOK_iff.2 hr) (by rw [e]; simp [rep1])
   rw [e] at this
   exact this
def s57 (c : U8) (n : Int) : Bool × Value := (decide (0 ≤ n ∧ n ≤ 1000), .string (sz (rep1 c.n n.toNat)))
theorem fn57 : Fn1 Tryz.prog 229 Tryz.f229 := ⟨Tryz.func229, by kernel_rfl, by kernel_rfl, by kernel_rfl⟩
theorem v57 (c : U8) (n : Int) (R : Value → Prop) : bodyQ Tryz.prog G0 (oneL 0 S57_0.hA) Tryz.f229 [Enc.enc c, Enc.enc n] (fun _ => none) 0 (fun v _ _ => R v) = ( bif LSpec.pre (LSpecA.toLSpec S57_0) (U8.n c, n, [], 0, 0, 0) then ∀ (d' : List Value) (cap' : Nat), rowOK d' (Int.toNat n) cap' = true → zc d' (Int.toNat n) = zc [] 0 ++ rep1 (U8.n c) (Int.toNat (n - 0)) → bif idsLt 210 d' && true then ∀ (x : Tmps), bif bytesOK d' 0 (Int.toNat n) then R (S (bytesOf d' 0 (Int.toNat n))) else False else False else False) := by kernel_rfl
theorem ok57 : PureOK Tryz.prog 229 (sp2 s57) := by
 refine qure2 ok_G0 hmix fn57 l57_0 (Nat.le_of_ble_eq_true (by kernel_rfl)) fun c n hc => ?_
 rw [DoesQ, v57]
 have hc : (0 ≤ n ∧ n ≤ 1000) := of_decide_eq_true hc
 dsimp only [s57]
 refine c_t ?_ (fun d' cap' h1 h2 => ?_)
 ·simp only [S57_0, Bool.and_eq_true, decide_eq_true_eq]
  exact ⟨rfl, by omega⟩
 have h1 := rowOK_iff.1 h1
 refine c_t (by rw [ids_plainB h1.plain]; rfl) (fun _ => c_t h1.str.1 ?_)
 rw [h1.str.2, h2, show (n - 0).toNat = n.toNat by omega]
 rfl
def puZ (d : Int) (m : Bool) : Int := if 0 ≤ d ∧ d ≤ 9 then punchedZ.getD (if m then d + 10 else d).toNat 0 else 0
def sgZ (c : Int) (m : Bool) : Int := if c = 36 then 36 else if m then (if c = 43 then 32 else 45) else if c = 45 then 32 else 43
def fmZ (c d : Int) (m : Bool) : Int := if c = 89 ∧ d = 48 then 32 else if c = 84 ∨ (c = 73 ∧ m = false) ∨ (c = 82 ∧ m = true) then puZ (d - 48) m else d
end Go.Px
end
section
namespace Go.Px
open Go Go.Ab Go.Proofs
def G2 : Env := (Env.nil.add 202 (sp2 s40)).add 199 (sp2 s75)
theorem ok_G2 : EnvOK Tryz.prog G2 := env_add (env_add env_nil ok40) ok75
def drGo (s : List Int) : List Int → Int
 | [] => 0
 | c :: r => if hasZ [36, 83, 43, 45] c = true ∧ 2 ≤ cntZ s c then c else drGo s r
def drZ (s : List Int) : Int := drGo s s
def charZ (s : List Int) : Bool := s.all (fun c => hasZ [65, 88, 57] c) && (hasZ s 65 || hasZ s 88)
def crZ (s : List Int) : Bool := decide (2 ≤ s.length) && (decide (s.drop (s.length - 2) = [67, 82]) || decide (s.drop (s.length - 2) = [68, 66]))
theorem has_dr {c : Int} : hasZ [36, 83, 43, 45] c = true ↔ c = 36 ∨ c = 83 ∨ c = 43 ∨ c = 45 := by simp [hasZ_iff]
theorem drop0 (l : List Int) : List.drop (Int.toNat 0) l = l := rfl
def V96_0 : ByteArray × Int × Int → List Value := fun (s, b, i) => [S s, C8 b, I i]
def B96_0 : ByteArray × Int × Int → List (Option Blk) := fun _ => []
def S96_0 : LSpec (ByteArray × Int × Int) where
 live := [0, 2, 3]
 mid := []
 n := 60
 dec vs bs := match vs, bs with | [.string s, .int .u8 b, .int .i64 i], [] => some (s, b, i) | _, _ => none
 pre := fun (s, b, i) => decide (0 ≤ i ∧ i ≤ s.size ∧ s.size ≤ 9223372036854775807)
 fin := fun (s, b, i) Z => (bif drGo (bz s) ((bz s).drop i.toNat) == 0 then Z (.exit 0) [S s, C8 b, I s.size] [] else (∀ i', Z .ret [S s, C8 (drGo (bz s) ((bz s).drop i.toNat)), I i'] []))
theorem r96_0 (s : ByteArray) (b : Int) (i : Int) (jk : Tmps) (R : Exit → List Value → List (Option Blk) → Prop) : (codeQ Tryz.prog G2 noL Tryz.f242.ntmps (loopOf Tryz.f242 0) (tl S96_0.live (V96_0 (s, b, i)) jk) (ml S96_0.mid (B96_0 (s, b, i))) S96_0.n fun e t' m' _ => R e (List.map t' S96_0.live) (List.map m' S96_0.mid)) = ( bif decide (i < (↑(ByteArray.size s) : Int)) then bif decide (0 ≤ i ∧ i < (↑(ByteArray.size s) : Int)) && bif hasZ (bz (ByteArray.mk #[36, 83, 43, 45])) (byteAt s (Int.toNat i)) then decide (0 ≤ i ∧ i < (↑(ByteArray.size s) : Int)) && (decide (ByteArray.size s ≤ 9223372036854775807) && true) else true then bif hasZ (bz (ByteArray.mk #[36, 83, 43, 45])) (byteAt s (Int.toNat i)) && decide ((↑(cntZ (bz s) (byteAt s (Int.toNat i))) : Int) ≥ 2) then bif decide (0 ≤ i ∧ i < (↑(ByteArray.size s) : Int)) then R Exit.ret [S s, .int .u8 (byteAt s (Int.toNat i)), I i] [] else False else R Exit.normal [S s, .int .u8 b, I (IntKind.wrap .i64 (i + 1))] [] else False else R (Exit.exit 0) [S s, .int .u8 b, I i] []) := by kernel_rfl
theorem l96_0 : LOKf Tryz.prog (oneL 0 S96_0.h) Tryz.f242 := by
 refine lokf_one (h := S96_0.h) (by kernel_rfl) (loop_specQ ok_G2 hmix (by kernel_rfl) (lok_none _) S96_0 V96_0 B96_0 (fun (s, b, i) => (s.size - i).toNat) ?_ ?_ ?_)
 ·intro vs bs s h
  simp only [S96_0] at h
  split at h
  all_goals first | (cases h; exact ⟨rfl, rfl⟩) | cases h
 ·exact fun _ _ _ h => h
 ·intro ⟨s, b, i⟩ jk Z hp hf
  rw [r96_0]
  simp only [S96_0] at hp hf
  simp only [decide_eq_true_eq] at hp
  refine cond_intro (fun h => ?_) (fun h => ?_)
  ·have h := of_decide_eq_true h
   rw [bz_at hp.1 h] at hf
   have h1 : decide (0 ≤ i ∧ i < (s.size : Int)) = true := decide_eq_true (by omega)
   have h2 : decide (s.size ≤ 9223372036854775807) = true := decide_eq_true (by omega)
   have k : bz ⟨#[36, 83, 43, 45]⟩ = [36, 83, 43, 45] := rfl
   rw [k]
   refine c_t (by rw [h1, h2]; cases hasZ [36, 83, 43, 45] (byteAt s i.toNat) <;> rfl) ?_
   rw [drGo] at hf
   refine cond_intro (fun hd => c_t h1 ?_) (fun hd => ?_)
   ·simp only [Bool.and_eq_true, decide_eq_true_eq] at hd
    have hne : (byteAt s i.toNat == 0) = false := by
     have := has_dr.1 hd.1
     simp only [beq_eq_false_iff_ne]
     omega
    rw [if_pos ⟨hd.1, by omega⟩, hne] at hf
    exact hf i
   ·have hd' : ¬ (hasZ [36, 83, 43, 45] (byteAt s i.toNat) = true ∧ 2 ≤ cntZ (bz s) (byteAt s i.toNat)) := by
     rintro ⟨q1, q2⟩
     rw [q1, Bool.true_and, decide_eq_false_iff_not] at hd
     omega
    rw [if_neg hd'] at hf
    rw [w64 (by omega)]
    exact ⟨(s, b, i + 1), rfl, rfl, by simp only [S96_0, decide_eq_true_eq]; omega, by simp only; omega, hf⟩
  ·have h := of_decide_eq_false h
   rw [bz_end (by omega)] at hf
   obtain rfl : i = s.size := by omega
   exact hf
def s96 (s : ByteArray) : Bool × Value := (decide (s.size ≤ 9223372036854775807), .int .u8 (drZ (bz s)))
theorem fn96 : Fn1 Tryz.prog 242 Tryz.f242 := ⟨Tryz.func242, by kernel_rfl, by kernel_rfl, by kernel_rfl⟩
theorem v96 (s : ByteArray) (R : Value → Prop) : bodyQ Tryz.prog G2 (oneL 0 S96_0.h) Tryz.f242 [Enc.enc s] (fun _ => none) 0 (fun v _ _ => R v) = ( bif LSpec.pre S96_0 (s, 0, 0) then bif drGo (bz s) (List.drop (Int.toNat 0) (bz s)) == 0 then ∀ (x : Tmps), R (.int .u8 0) else ∀ (i' : Int) (x : Tmps), R (.int .u8 (drGo (bz s) (List.drop (Int.toNat 0) (bz s)))) else False) := by kernel_rfl
theorem ok96 : PureOK Tryz.prog 242 (sp1 s96) := by
 refine qure1 ok_G2 hmix fn96 l96_0 (Nat.le_of_ble_eq_true (by kernel_rfl)) fun s hc => ?_
 rw [DoesQ, v96]
 have hc : (s.size ≤ 9223372036854775807) := of_decide_eq_true hc
 dsimp only [s96]
 refine c_t (by simp only [S96_0, decide_eq_true_eq]; omega) ?_
 rw [drop0]
 refine cond_intro (fun h _ => ?_) (fun h _ _ => rfl)
 rw [drZ, eq_of_beq h]
def V73_0 : ByteArray × Bool × Int → List Value := fun (s, b, i) => [S s, B b, I i]
def B73_0 : ByteArray × Bool × Int → List (Option Blk) := fun _ => []
def S73_0 : LSpec (ByteArray × Bool × Int) where
 live := [0, 2, 3]
 mid := []
 n := 60
 dec vs bs := match vs, bs with | [.string s, .bool b, .int .i64 i], [] => some (s, b, i) | _, _ => none
 pre := fun (s, b, i) => decide (0 ≤ i ∧ i ≤ s.size ∧ s.size ≤ 9223372036854775807)
 fin := fun (s, b, i) Z => (bif ((bz s).drop i.toNat).all (fun c => hasZ [65, 88, 57] c) then Z (.exit 0) [S s, B b, I s.size] [] else (∀ i', Z .ret [S s, B false, I i'] []))
theorem r73_0 (s : ByteArray) (b : Bool) (i : Int) (jk : Tmps) (R : Exit → List Value → List (Option Blk) → Prop) : (codeQ Tryz.prog G2 noL Tryz.f197.ntmps (loopOf Tryz.f197 0) (tl S73_0.live (V73_0 (s, b, i)) jk) (ml S73_0.mid (B73_0 (s, b, i))) S73_0.n fun e t' m' _ => R e (List.map t' S73_0.live) (List.map m' S73_0.mid)) = ( bif decide (i < (↑(ByteArray.size s) : Int)) then bif decide (0 ≤ i ∧ i < (↑(ByteArray.size s) : Int)) then bif !hasZ (bz (ByteArray.mk #[65, 88, 57])) (byteAt s (Int.toNat i)) then R Exit.ret [S s, B false, I i] [] else R Exit.normal [S s, B b, I (IntKind.wrap .i64 (i + 1))] [] else False else R (Exit.exit 0) [S s, B b, I i] []) := by kernel_rfl
theorem l73_0 : LOKf Tryz.prog (oneL 0 S73_0.h) Tryz.f197 := by
 refine lokf_one (h := S73_0.h) (by kernel_rfl) (loop_specQ ok_G2 hmix (by kernel_rfl) (lok_none _) S73_0 V73_0 B73_0 (fun (s, b, i) => (s.size - i).toNat) ?_ ?_ ?_)
 ·intro vs bs s h
  simp only [S73_0] at h
  split at h
  all_goals first | (cases h; exact ⟨rfl, rfl⟩) | cases h
 ·exact fun _ _ _ h => h
 ·intro ⟨s, b, i⟩ jk Z hp hf
  rw [r73_0]
  simp only [S73_0] at hp hf
  simp only [decide_eq_true_eq] at hp
  refine cond_intro (fun h => ?_) (fun h => ?_)
  ·have h := of_decide_eq_true h
   rw [bz_at hp.1 h, List.all_cons] at hf
   have k : bz ⟨#[65, 88, 57]⟩ = [65, 88, 57] := rfl
   rw [k]
   refine c_t (decide_eq_true (by omega)) ?_
   refine cond_intro (fun hd => ?_) (fun hd => ?_)
   ·simp only [Bool.not_eq_true'] at hd
    rw [hd] at hf
    exact hf i
   ·simp only [Bool.not_eq_false'] at hd
    rw [hd, Bool.true_and] at hf
    rw [w64 (by omega)]
    exact ⟨(s, b, i + 1), rfl, rfl, by simp only [S73_0, decide_eq_true_eq]; omega, by simp only; omega, hf⟩
  ·have h := of_decide_eq_false h
   rw [bz_end (by omega)] at hf
   obtain rfl : i = s.size := by omega
   exact hf
def s73 (s : ByteArray) : Bool × Value := (decide (s.size ≤ 9223372036854775807), .bool (charZ (bz s)))
theorem fn73 : Fn1 Tryz.prog 197 Tryz.f197 := ⟨Tryz.func197, by kernel_rfl, by kernel_rfl, by kernel_rfl⟩
theorem v73 (s : ByteArray) (R : Value → Prop) : bodyQ Tryz.prog G2 (oneL 0 S73_0.h) Tryz.f197 [Enc.enc s] (fun _ => none) 0 (fun v _ _ => R v) = ( bif LSpec.pre S73_0 (s, false, 0) then bif List.all (List.drop (Int.toNat 0) (bz s)) fun c => hasZ [65, 88, 57] c then ∀ (x : Tmps), bif decide (ByteArray.size s ≤ 9223372036854775807) && (hasZ (bz s) 65 || decide (ByteArray.size s ≤ 9223372036854775807) && true) then R (B (hasZ (bz s) 65 || hasZ (bz s) 88)) else False else ∀ (i' : Int) (x : Tmps), R (B false) else False) := by kernel_rfl
theorem ok73 : PureOK Tryz.prog 197 (sp1 s73) := by
 refine qure1 ok_G2 hmix fn73 l73_0 (Nat.le_of_ble_eq_true (by kernel_rfl)) fun s hc => ?_
 rw [DoesQ, v73]
 have hc : (s.size ≤ 9223372036854775807) := of_decide_eq_true hc
 dsimp only [s73]
 refine c_t (by simp only [S73_0, decide_eq_true_eq]; omega) ?_
 rw [drop0]
 refine cond_intro (fun h _ => c_t (by rw [decide_eq_true hc]; cases hasZ (bz s) 65 <;> rfl) ?_) (fun h _ _ => ?_)
 ·simp only [charZ, h, Bool.true_and]
 ·simp only [charZ, h, Bool.false_and]
def s101 (s : ByteArray) : Bool × Value := (decide (s.size ≤ 9223372036854775807), .bool (crZ (bz s)))
theorem fn101 : Fn1 Tryz.prog 238 Tryz.f238 := ⟨Tryz.func238, by kernel_rfl, by kernel_rfl, by kernel_rfl⟩
theorem v101 (s : ByteArray) (R : Value → Prop) : bodyQ Tryz.prog G2 noL Tryz.f238 [Enc.enc s] (fun _ => none) 0 (fun v _ _ => R v) = ( bif bif decide ((↑(ByteArray.size s) : Int) ≥ 2) then decide (0 ≤ IntKind.wrap .i64 ((↑(ByteArray.size s) : Int) - 2) ∧ IntKind.wrap .i64 ((↑(ByteArray.size s) : Int) - 2) ≤ (↑(ByteArray.size s) : Int) ∧ (↑(ByteArray.size s) : Int) ≤ (↑(ByteArray.size s) : Int)) && (ByteArray.toList (ByteArray.extract s (Int.toNat (IntKind.wrap .i64 ((↑(ByteArray.size s) : Int) - 2))) (ByteArray.size s)) == ByteArray.toList (ByteArray.mk #[67, 82]) || decide (0 ≤ IntKind.wrap .i64 ((↑(ByteArray.size s) : Int) - 2) ∧ IntKind.wrap .i64 ((↑(ByteArray.size s) : Int) - 2) ≤ (↑(ByteArray.size s) : Int) ∧ (↑(ByteArray.size s) : Int) ≤ (↑(ByteArray.size s) : Int)) && true) else true then R (B (decide ((↑(ByteArray.size s) : Int) ≥ 2) && (ByteArray.toList (ByteArray.extract s (Int.toNat (IntKind.wrap .i64 ((↑(ByteArray.size s) : Int) - 2))) (ByteArray.size s)) == ByteArray.toList (ByteArray.mk #[67, 82]) || ByteArray.toList (ByteArray.extract s (Int.toNat (IntKind.wrap .i64 ((↑(ByteArray.size s) : Int) - 2))) (ByteArray.size s)) == ByteArray.toList (ByteArray.mk #[68, 66])))) else False) := by kernel_rfl
theorem ok101 : PureOK Tryz.prog 238 (sp1 s101) := by
 refine qure1 ok_G2 hmix fn101 lokf_none (Nat.le_of_ble_eq_true (by kernel_rfl)) fun s hc => ?_
 rw [DoesQ, v101]
 have hc : (s.size ≤ 9223372036854775807) := of_decide_eq_true hc
 dsimp only [s101]
 have e : ((s.size : Int) - 2).toNat = s.size - 2 := by omega
 have ex : bz (s.extract (s.size - 2) s.size) = (bz s).drop (s.size - 2) := by rw [bz_extract, List.take_of_length_le (by rw [bz_length]; omega)]
 have k1 : bz ⟨#[67, 82]⟩ = [67, 82] := rfl
 have k2 : bz ⟨#[68, 66]⟩ = [68, 66] := rfl
 rw [w64 (by omega), e, toList_beq, toList_beq, ex, k1, k2]
 by_cases h2 : 2 ≤ s.size
 ·have d1 : decide ((s.size : Int) ≥ 2) = true := decide_eq_true (by omega)
  have d2 : decide (0 ≤ (s.size : Int) - 2 ∧ (s.size : Int) - 2 ≤ s.size ∧ (s.size : Int) ≤ s.size) = true := decide_eq_true (by omega)
  rw [d1, d2]
  refine c_t (by simp) ?_
  simp [crZ, h2]
 ·have d1 : decide ((s.size : Int) ≥ 2) = false := decide_eq_false (by omega)
  rw [d1]
  refine c_t rfl ?_
  simp [crZ, h2]
def cdGo : List Int → Int → Int → Bool × Int × Int
 | [], n, i => (true, n, i)
 | c :: r, n, i => if isDig c = true then (if 1 ≤ n * 10 + (c - 48) ∧ n * 10 + (c - 48) ≤ 32 then cdGo r (n * 10 + (c - 48)) (i + 1) else (false, 0, 0)) else (true, n, i)
def ctP (l : List Int) (i : Int) : Prop := (cdGo (l.drop i.toNat) 0 i).1 = true ∧ 1 ≤ (cdGo (l.drop i.toNat) 0 i).2.1 ∧ (cdGo (l.drop i.toNat) 0 i).2.2 < l.length ∧ l.getD (cdGo (l.drop i.toNat) 0 i).2.2.toNat 0 = 41
instance (l : List Int) (i : Int) : Decidable (ctP l i) := by unfold ctP; infer_instance
def ctZ (l : List Int) (i : Int) : Int × Int := if ctP l i then ((cdGo (l.drop i.toNat) 0 i).2.1, (cdGo (l.drop i.toNat) 0 i).2.2 + 1) else (0, 0)
theorem cdGo_rng : ∀ (l : List Int) (n i : Int), 0 ≤ n ∧ n ≤ 32 → (cdGo l n i).1 = true → 0 ≤ (cdGo l n i).2.1 ∧ (cdGo l n i).2.1 ≤ 32 ∧ i ≤ (cdGo l n i).2.2 ∧ (cdGo l n i).2.2 ≤ i + l.length
 | [], n, i, h, _ => by simp only [cdGo, List.length_nil]; omega
 | c :: r, n, i, h, hok => by
  simp only [cdGo] at hok ⊢
  split
  ·rename_i hd
   rw [if_pos hd] at hok
   split
   ·rename_i hq
    rw [if_pos hq] at hok
    have := cdGo_rng r _ _ (by omega) hok
    simp only [List.length_cons]
    omega
   ·rename_i hq
    rw [if_neg hq] at hok
    cases hok
  ·simp only [List.length_cons]; omega
def V81_0 : ByteArray × Int × Int × Int × Int → List Value := fun (s, r1, r2, n, i) => [S s, I r1, I r2, I n, I i]
def B81_0 : ByteArray × Int × Int × Int × Int → List (Option Blk) := fun _ => []
def S81_0 : LSpec (ByteArray × Int × Int × Int × Int) where
 live := [0, 4, 5, 6, 7]
 mid := []
 n := 80
 dec vs bs := match vs, bs with | [.string s, .int .i64 r1, .int .i64 r2, .int .i64 n, .int .i64 i], [] => some (s, r1, r2, n, i) | _, _ => none
 pre := fun (s, r1, r2, n, i) => decide (0 ≤ i ∧ i ≤ s.size ∧ s.size ≤ 9223372036854775807 ∧ 0 ≤ n ∧ n ≤ 32)
 fin := fun (s, r1, r2, n, i) Z => (bif (cdGo ((bz s).drop i.toNat) n i).1 then Z (.exit 0) [S s, I r1, I r2, I (cdGo ((bz s).drop i.toNat) n i).2.1, I (cdGo ((bz s).drop i.toNat) n i).2.2] [] else (∀ n' i', Z .ret [S s, I 0, I 0, I n', I i'] []))
theorem r81_0 (s : ByteArray) (r1 : Int) (r2 : Int) (n : Int) (i : Int) (jk : Tmps) (R : Exit → List Value → List (Option Blk) → Prop) : (codeQ Tryz.prog G2 noL Tryz.f237.ntmps (loopOf Tryz.f237 0) (tl S81_0.live (V81_0 (s, r1, r2, n, i)) jk) (ml S81_0.mid (B81_0 (s, r1, r2, n, i))) S81_0.n fun e t' m' _ => R e (List.map t' S81_0.live) (List.map m' S81_0.mid)) = ( bif bif decide (i < (↑(ByteArray.size s) : Int)) then decide (0 ≤ i ∧ i < (↑(ByteArray.size s) : Int)) && bif decide (byteAt s (Int.toNat i) ≥ 48) then decide (0 ≤ i ∧ i < (↑(ByteArray.size s) : Int)) && true else true else true then bif decide (i < (↑(ByteArray.size s) : Int)) && (decide (byteAt s (Int.toNat i) ≥ 48) && decide (byteAt s (Int.toNat i) ≤ 57)) then bif decide (0 ≤ i ∧ i < (↑(ByteArray.size s) : Int)) then bif decide (IntKind.wrap .i64 (IntKind.wrap .i64 (n * 10) + IntKind.wrap .i64 (IntKind.wrap .u8 (byteAt s (Int.toNat i) - 48))) < 1) || true then bif decide (IntKind.wrap .i64 (IntKind.wrap .i64 (n * 10) + IntKind.wrap .i64 (IntKind.wrap .u8 (byteAt s (Int.toNat i) - 48))) < 1) || decide (IntKind.wrap .i64 (IntKind.wrap .i64 (n * 10) + IntKind.wrap .i64 (IntKind.wrap .u8 (byteAt s (Int.toNat i) - 48))) > 32) then R Exit.ret [S s, I 0, I 0, I (IntKind.wrap .i64 (IntKind.wrap .i64 (n * 10) + IntKind.wrap .i64 (IntKind.wrap .u8 (byteAt s (Int.toNat i) - 48)))), I i] [] else R Exit.normal [S s, I r1, I r2, I (IntKind.wrap .i64 (IntKind.wrap .i64 (n * 10) + IntKind.wrap .i64 (IntKind.wrap .u8 (byteAt s (Int.toNat i) - 48)))), I (IntKind.wrap .i64 (i + 1))] [] else False else False else R (Exit.exit 0) [S s, I r1, I r2, I n, I i] [] else False) := by kernel_rfl
theorem l81_0 : LOKf Tryz.prog (oneL 0 S81_0.h) Tryz.f237 := by
 refine lokf_one (h := S81_0.h) (by kernel_rfl) (loop_specQ ok_G2 hmix (by kernel_rfl) (lok_none _) S81_0 V81_0 B81_0 (fun (s, r1, r2, n, i) => (s.size - i).toNat) ?_ ?_ ?_)
 ·intro vs bs s h
  simp only [S81_0] at h
  split at h
  all_goals first | (cases h; exact ⟨rfl, rfl⟩) | cases h
 ·exact fun _ _ _ h => h
 ·intro ⟨s, r1, r2, n, i⟩ jk Z hp hf
  rw [r81_0]
  simp only [S81_0] at hp hf
  simp only [decide_eq_true_eq] at hp
  have h1 : i < (s.size : Int) → decide (0 ≤ i ∧ i < (s.size : Int)) = true := fun h => decide_eq_true (by omega)
  refine c_t ?_ ?_
  ·by_cases hi : i < (s.size : Int)
   ·rw [decide_eq_true hi, h1 hi]
    cases decide (byteAt s i.toNat ≥ 48) <;> rfl
   ·rw [decide_eq_false hi]
    rfl
  refine cond_intro (fun h => ?_) (fun h => ?_)
  ·simp only [Bool.and_eq_true, decide_eq_true_eq] at h
   obtain ⟨hi, hd1, hd2⟩ := h
   rw [bz_at hp.1 hi] at hf
   refine c_t (h1 hi) (c_t (by simp) ?_)
   have hdig : isDig (byteAt s i.toNat) = true := decide_eq_true (by omega)
   rw [cdGo, if_pos hdig] at hf
   rw [w8 (n := byteAt s i.toNat - 48) (by omega), w64 (n := byteAt s i.toNat - 48) (by omega), w64 (n := n * 10) (by omega), w64 (n := n * 10 + (byteAt s i.toNat - 48)) (by omega)]
   refine cond_intro (fun hd => ?_) (fun hd => ?_)
   ·simp only [Bool.or_eq_true, decide_eq_true_eq] at hd
    rw [if_neg (by omega)] at hf
    exact hf _ i
   ·simp only [Bool.or_eq_false_iff, decide_eq_false_iff_not] at hd
    rw [if_pos (by omega)] at hf
    rw [w64 (by omega)]
    exact ⟨(s, r1, r2, _, i + 1), rfl, rfl, by simp only [S81_0, decide_eq_true_eq]; omega, by simp only; omega, hf⟩
  ·by_cases hi : i < (s.size : Int)
   ·rw [decide_eq_true hi, Bool.true_and] at h
    have hdig : ¬ isDig (byteAt s i.toNat) = true := by
     intro hq
     have := of_decide_eq_true hq
     rw [decide_eq_true (by omega), decide_eq_true (by omega)] at h
     cases h
    rw [bz_at hp.1 hi, cdGo, if_neg hdig] at hf
    exact hf
   ·rw [bz_end (by omega)] at hf
    exact hf
def s81 (s : ByteArray) (i : Int) : Bool × Value := (decide (0 ≤ i ∧ i ≤ s.size ∧ s.size ≤ 9223372036854775807), .tuple ⟨[.int .i64 (ctZ (bz s) i).1, .int .i64 (ctZ (bz s) i).2]⟩)
theorem fn81 : Fn1 Tryz.prog 237 Tryz.f237 := ⟨Tryz.func237, by kernel_rfl, by kernel_rfl, by kernel_rfl⟩
theorem v81 (s : ByteArray) (i : Int) (R : Value → Prop) : bodyQ Tryz.prog G2 (oneL 0 S81_0.h) Tryz.f237 [Enc.enc s, Enc.enc i] (fun _ => none) 0 (fun v _ _ => R v) = ( bif LSpec.pre S81_0 (s, 0, 0, 0, i) then bif Prod.fst (cdGo (List.drop (Int.toNat i) (bz s)) 0 i) then ∀ (x : Tmps), bif decide (Prod.fst (Prod.snd (cdGo (List.drop (Int.toNat i) (bz s)) 0 i)) < 1) || (decide (Prod.snd (Prod.snd (cdGo (List.drop (Int.toNat i) (bz s)) 0 i)) ≥ (↑(ByteArray.size s) : Int)) || decide (0 ≤ Prod.snd (Prod.snd (cdGo (List.drop (Int.toNat i) (bz s)) 0 i)) ∧ Prod.snd (Prod.snd (cdGo (List.drop (Int.toNat i) (bz s)) 0 i)) < (↑(ByteArray.size s) : Int)) && true) then bif decide (Prod.fst (Prod.snd (cdGo (List.drop (Int.toNat i) (bz s)) 0 i)) < 1) || (decide (Prod.snd (Prod.snd (cdGo (List.drop (Int.toNat i) (bz s)) 0 i)) ≥ (↑(ByteArray.size s) : Int)) || byteAt s (Int.toNat (Prod.snd (Prod.snd (cdGo (List.drop (Int.toNat i) (bz s)) 0 i)))) != 41) then R (.tuple (.mk [I 0, I 0])) else R (.tuple (.mk [I (Prod.fst (Prod.snd (cdGo (List.drop (Int.toNat i) (bz s)) 0 i))), I (IntKind.wrap .i64 (Prod.snd (Prod.snd (cdGo (List.drop (Int.toNat i) (bz s)) 0 i)) + 1))])) else False else ∀ (n' i' : Int) (x : Tmps), R (.tuple (.mk [I 0, I 0])) else False) := by kernel_rfl
theorem ok81 : PureOK Tryz.prog 237 (sp2 s81) := by
 refine qure2 ok_G2 hmix fn81 l81_0 (Nat.le_of_ble_eq_true (by kernel_rfl)) fun s i hc => ?_
 rw [DoesQ, v81]
 have hc : (0 ≤ i ∧ i ≤ s.size ∧ s.size ≤ 9223372036854775807) := of_decide_eq_true hc
 dsimp only [s81]
 refine c_t (by simp only [S81_0, decide_eq_true_eq]; omega) ?_
 refine cond_intro (fun h _ => ?_) (fun h _ _ _ => ?_)
 ·have hr := cdGo_rng ((bz s).drop i.toNat) 0 i (by omega) h
  rw [List.length_drop, bz_length] at hr
  have hP : ctP (bz s) i ↔ 1 ≤ (cdGo ((bz s).drop i.toNat) 0 i).2.1 ∧ (cdGo ((bz s).drop i.toNat) 0 i).2.2 < s.size ∧ byteAt s (cdGo ((bz s).drop i.toNat) 0 i).2.2.toNat = 41 := by
   simp only [ctP, h, true_and, bz_length, byteAt_eq]
  have hz : ctZ (bz s) i = if ctP (bz s) i then ((cdGo ((bz s).drop i.toNat) 0 i).2.1, (cdGo ((bz s).drop i.toNat) 0 i).2.2 + 1) else (0, 0) := rfl
  rw [hz]
  generalize cdGo ((bz s).drop i.toNat) 0 i = q at *
  refine c_t ?_ (cond_intro (fun hd => ?_) (fun hd => ?_))
  ·by_cases h1 : q.2.2 < s.size
   ·rw [decide_eq_true (p := 0 ≤ q.2.2 ∧ q.2.2 < (s.size : Int)) (by omega)]
    simp
   ·rw [decide_eq_true (p := q.2.2 ≥ (s.size : Int)) (by omega)]
    simp
  ·have hn : ¬ ctP (bz s) i := by
    rw [hP]
    simp only [Bool.or_eq_true, decide_eq_true_eq, bne_iff_ne, ne_eq] at hd
    omega
   rw [if_neg hn]
  ·have hn : ctP (bz s) i := by
    rw [hP]
    simp only [Bool.or_eq_false_iff, decide_eq_false_iff_not, bne_eq_false_iff_eq] at hd
    omega
   have := hP.1 hn
   rw [if_pos hn, w64 (by omega)]
 ·have hn : ¬ ctP (bz s) i := fun hq => by rw [hq.1] at h; cases h
  rw [ctZ, if_neg hn]
def kL : List Int := [57, 86, 90, 42, 89, 84, 73, 82, 83, 43, 45, 36, 44, 46, 47, 66, 67, 68, 65, 88]
def xpGo : List Int → Int → Int → List Int → List Int × Bool
 | [], st, _, out => (out, decide (st = 0))
 | c :: r, st, n, out =>
  if st = 1 then
   (if c = 41 then (if 0 < n then xpGo r 2 n out else ([], false))
   else if isDig c = true ∧ ¬ (n = 0 ∧ c = 48) ∧ 10 * n + (c - 48) ≤ 32 then xpGo r 1 (10 * n + (c - 48)) out else ([], false))
  else if c = 41 ∨ st = 2 ∧ c = 40 then ([], false)
  else if c = 40 then xpGo r 1 0 out
  else if hasZ kL (upZ c) = true ∧ (out.length : Int) + (if st = 2 then n else 1) ≤ 32 then xpGo r 0 0 (out ++ rep1 (upZ c) (if st = 2 then n else 1).toNat) else ([], false)
theorem xp_put {c : Int} {r : List Int} {st n : Int} {out : List Int} (hs : st = 2 ∨ st = 0 ∧ c ≠ 40) :
  xpGo (c :: r) st n out = if hasZ kL (upZ c) = true ∧ (out.length : Int) + (if st = 2 then n else 1) ≤ 32 then xpGo r 0 0 (out ++ rep1 (upZ c) (if st = 2 then n else 1).toNat) else ([], false) := by
 rw [xpGo, if_neg (by omega)]
 by_cases h1 : c = 41
 ·subst h1
  rw [if_pos (.inl rfl), if_neg (by intro h; exact absurd h.1 (by decide))]
 ·by_cases h2 : c = 40
  ·subst h2
   have : st = 2 := by omega
   subst this
   rw [if_pos (.inr ⟨rfl, rfl⟩), if_neg (by intro h; exact absurd h.1 (by decide))]
  ·rw [if_neg (by omega), if_neg h2]
theorem xp_num : ∀ (l : List Int) (n i : Int) (out : List Int), 0 ≤ n ∧ n ≤ 32 →
  if (cdGo l n i).1 = true ∧ 1 ≤ (cdGo l n i).2.1 ∧ (l.drop ((cdGo l n i).2.2 - i).toNat).head? = some 41 then xpGo l 1 n out = xpGo (l.drop ((cdGo l n i).2.2 - i + 1).toNat) 2 (cdGo l n i).2.1 out
  else (xpGo l 1 n out).2 = false
 | [], n, i, out, _ => by
  rw [if_neg (by simp [cdGo])]
  rfl
 | c :: r, n, i, out, h => by
  by_cases hd : isDig c = true
  ·have hd' := of_decide_eq_true hd
   by_cases hq : 1 ≤ n * 10 + (c - 48) ∧ n * 10 + (c - 48) ≤ 32
   ·have e : cdGo (c :: r) n i = cdGo r (n * 10 + (c - 48)) (i + 1) := by rw [cdGo, if_pos hd, if_pos hq]
    have e2 : xpGo (c :: r) 1 n out = xpGo r 1 (n * 10 + (c - 48)) out := by
     rw [xpGo, if_pos rfl, if_neg (by omega), if_pos ⟨hd, by omega, by omega⟩, show 10 * n + (c - 48) = n * 10 + (c - 48) by omega]
    have ih := xp_num r (n * 10 + (c - 48)) (i + 1) out (by omega)
    rw [e, e2]
    by_cases hk : (cdGo r (n * 10 + (c - 48)) (i + 1)).1 = true
    ·have hr := cdGo_rng r _ (i + 1) (by omega) hk
     have e3 : ((cdGo r (n * 10 + (c - 48)) (i + 1)).2.2 - i).toNat = ((cdGo r (n * 10 + (c - 48)) (i + 1)).2.2 - (i + 1)).toNat + 1 := by omega
     have e4 : ((cdGo r (n * 10 + (c - 48)) (i + 1)).2.2 - i + 1).toNat = ((cdGo r (n * 10 + (c - 48)) (i + 1)).2.2 - (i + 1) + 1).toNat + 1 := by omega
     rw [e3, e4, List.drop_succ_cons, List.drop_succ_cons]
     exact ih
    ·rw [if_neg (fun q => hk q.1)] at ih ⊢
     exact ih
   ·have e : cdGo (c :: r) n i = (false, 0, 0) := by rw [cdGo, if_pos hd, if_neg hq]
    rw [e, if_neg (by simp)]
    rw [xpGo, if_pos rfl, if_neg (by omega), if_neg (by omega)]
  ·have e : cdGo (c :: r) n i = (true, n, i) := by rw [cdGo, if_neg hd]
   rw [e]
   simp only [Int.sub_self, Int.toNat_zero, List.drop_zero, List.head?_cons, Option.some.injEq, true_and, Int.zero_add, Int.toNat_one, List.drop_succ_cons]
   rw [xpGo, if_pos rfl]
   by_cases h41 : c = 41
   ·rw [if_pos h41]
    by_cases hn : 0 < n
    ·rw [if_pos hn, if_pos ⟨by omega, h41⟩]
    ·rw [if_neg hn, if_neg (by omega)]
   ·rw [if_neg h41, if_neg (show ¬ (isDig c = true ∧ ¬ (n = 0 ∧ c = 48) ∧ 10 * n + (c - 48) ≤ 32) from fun q => hd q.1), if_neg (show ¬ (1 ≤ n ∧ c = 41) from fun q => h41 q.2)]
theorem xp_ct (l : List Int) (i : Int) (out : List Int) (hi : 0 ≤ i) (hl : i ≤ l.length) :
  if ctP l i then xpGo (l.drop i.toNat) 1 0 out = xpGo (l.drop (ctZ l i).2.toNat) 2 (ctZ l i).1 out ∧ 1 ≤ (ctZ l i).1 ∧ (ctZ l i).1 ≤ 32 ∧ i < (ctZ l i).2 ∧ (ctZ l i).2 ≤ l.length
  else (xpGo (l.drop i.toNat) 1 0 out).2 = false ∧ ctZ l i = (0, 0) := by
 have N := xp_num (l.drop i.toNat) 0 i out (by omega)
 by_cases hk : (cdGo (l.drop i.toNat) 0 i).1 = true
 ·have hr := cdGo_rng _ 0 i (by omega) hk
  rw [List.length_drop] at hr
  have e1 : i.toNat + ((cdGo (l.drop i.toNat) 0 i).2.2 - i).toNat = (cdGo (l.drop i.toNat) 0 i).2.2.toNat := by omega
  have e2 : i.toNat + ((cdGo (l.drop i.toNat) 0 i).2.2 - i + 1).toNat = ((cdGo (l.drop i.toNat) 0 i).2.2 + 1).toNat := by omega
  have hh : ((l.drop i.toNat).drop ((cdGo (l.drop i.toNat) 0 i).2.2 - i).toNat).head? = some 41 ↔ (cdGo (l.drop i.toNat) 0 i).2.2 < l.length ∧ l.getD (cdGo (l.drop i.toNat) 0 i).2.2.toNat 0 = 41 := by
   rw [List.drop_drop, e1, List.head?_drop, List.getD_eq_getElem?_getD]
   constructor
   ·intro h
    have := (List.getElem?_eq_some_iff.1 h).1
    exact ⟨by omega, by rw [h]; rfl⟩
   ·rintro ⟨h1, h2⟩
    rw [List.getElem?_eq_getElem (by omega)] at h2 ⊢
    simpa using h2
  by_cases hP : ctP l i
  ·rw [if_pos hP]
   rw [if_pos ⟨hk, hP.2.1, hh.2 ⟨hP.2.2.1, hP.2.2.2⟩⟩, List.drop_drop, e2] at N
   have hz : ctZ l i = ((cdGo (l.drop i.toNat) 0 i).2.1, (cdGo (l.drop i.toNat) 0 i).2.2 + 1) := if_pos hP
   have := hP.2.1
   have := hP.2.2.1
   rw [hz]
   exact ⟨N, by simp only; omega, by simp only; omega, by simp only; omega, by simp only; omega⟩
  ·rw [if_neg hP]
   rw [if_neg (fun q => hP ⟨hk, q.2.1, (hh.1 q.2.2).1, (hh.1 q.2.2).2⟩)] at N
   exact ⟨N, if_neg hP⟩
 ·have hP : ¬ ctP l i := fun q => hk q.1
  rw [if_neg hP]
  rw [if_neg (fun q => hk q.1)] at N
  exact ⟨N, if_neg hP⟩
def G3 : Env := (((((Env.nil.add 211 (sp1 s82)).add 202 (sp2 s40)).add 229 (sp2 s57)).add 242 (sp1 s96)).add 238 (sp1 s101)).add 237 (sp2 s81)
theorem ok_G3 : EnvOK Tryz.prog G3 := env_add (env_add (env_add (env_add (env_add (env_add env_nil ok82) ok40) ok57) ok96) ok101) ok81
def V45_0 : ByteArray × ByteArray × Int × ByteArray × Int → List Value := fun (s, r, e, o, i) => [S s, S r, I e, S o, I i]
def B45_0 : ByteArray × ByteArray × Int × ByteArray × Int → List (Option Blk) := fun _ => []
def S45_0 : LSpec (ByteArray × ByteArray × Int × ByteArray × Int) where
 live := [0, 2, 3, 4, 5]
 mid := []
 n := 80
 dec vs bs := match vs, bs with | [.string s, .string r, .int .i64 e, .string o, .int .i64 i], [] => some (s, r, e, o, i) | _, _ => none
 pre := fun (s, r, e, o, i) => decide (0 ≤ i ∧ i ≤ s.size ∧ s.size ≤ 9223372036854775807 ∧ o.size ≤ 32)
 fin := fun (s, r, e, o, i) Z => (bif (xpGo ((bz s).drop i.toNat) 0 0 (bz o)).2 then Z (.exit 0) [S s, S r, I e, S (sz (xpGo ((bz s).drop i.toNat) 0 0 (bz o)).1), I s.size] [] else (∀ o' i', Z .ret [S s, S e0, I 30, S o', I i'] []))
theorem r45_0 (s : ByteArray) (r : ByteArray) (e : Int) (o : ByteArray) (i : Int) (jk : Tmps) (R : Exit → List Value → List (Option Blk) → Prop) : (codeQ Tryz.prog G3 noL Tryz.f196.ntmps (loopOf Tryz.f196 0) (tl S45_0.live (V45_0 (s, r, e, o, i)) jk) (ml S45_0.mid (B45_0 (s, r, e, o, i))) S45_0.n fun e t' m' _ => R e (List.map t' S45_0.live) (List.map m' S45_0.mid)) = ( bif decide (i < (↑(ByteArray.size s) : Int)) then bif decide (0 ≤ i ∧ i < (↑(ByteArray.size s) : Int)) then bif byteAt s (Int.toNat i) == 40 then bif decide (0 ≤ IntKind.wrap .i64 (i + 1) ∧ IntKind.wrap .i64 (i + 1) ≤ (↑(ByteArray.size s) : Int) ∧ ByteArray.size s ≤ 9223372036854775807) then bif decide (Prod.fst (ctZ (bz s) (IntKind.wrap .i64 (i + 1))) < 1) || true then bif decide (Prod.fst (ctZ (bz s) (IntKind.wrap .i64 (i + 1))) < 1) || decide (Prod.snd (ctZ (bz s) (IntKind.wrap .i64 (i + 1))) ≥ (↑(ByteArray.size s) : Int)) then R Exit.ret [S s, S (ByteArray.mk #[]), I 30, S o, I (Prod.snd (ctZ (bz s) (IntKind.wrap .i64 (i + 1))))] [] else bif decide (0 ≤ Prod.snd (ctZ (bz s) (IntKind.wrap .i64 (i + 1))) ∧ Prod.snd (ctZ (bz s) (IntKind.wrap .i64 (i + 1))) < (↑(ByteArray.size s) : Int)) then bif decide (0 ≤ byteAt s (Int.toNat (Prod.snd (ctZ (bz s) (IntKind.wrap .i64 (i + 1))))) ∧ byteAt s (Int.toNat (Prod.snd (ctZ (bz s) (IntKind.wrap .i64 (i + 1))))) < 256) then bif !hasZ (bz (ByteArray.mk #[57, 86, 90, 42, 89, 84, 73, 82, 83, 43, 45, 36, 44, 46, 47, 66, 67, 68, 65, 88])) (upZ (byteAt s (Int.toNat (Prod.snd (ctZ (bz s) (IntKind.wrap .i64 (i + 1))))))) || true then bif !hasZ (bz (ByteArray.mk #[57, 86, 90, 42, 89, 84, 73, 82, 83, 43, 45, 36, 44, 46, 47, 66, 67, 68, 65, 88])) (upZ (byteAt s (Int.toNat (Prod.snd (ctZ (bz s) (IntKind.wrap .i64 (i + 1))))))) || decide (IntKind.wrap .i64 ((↑(ByteArray.size o) : Int) + Prod.fst (ctZ (bz s) (IntKind.wrap .i64 (i + 1)))) > 32) then R Exit.ret [S s, S (ByteArray.mk #[]), I 30, S o, I (Prod.snd (ctZ (bz s) (IntKind.wrap .i64 (i + 1))))] [] else bif decide (0 ≤ Prod.fst (ctZ (bz s) (IntKind.wrap .i64 (i + 1))) ∧ Prod.fst (ctZ (bz s) (IntKind.wrap .i64 (i + 1))) ≤ 1000) then bif strFit (ByteArray.size o + ByteArray.size (sz (rep1 (upZ (byteAt s (Int.toNat (Prod.snd (ctZ (bz s) (IntKind.wrap .i64 (i + 1))))))) (Int.toNat (Prod.fst (ctZ (bz s) (IntKind.wrap .i64 (i + 1)))))))) then R Exit.normal [S s, S r, I e, S (o ++ sz (rep1 (upZ (byteAt s (Int.toNat (Prod.snd (ctZ (bz s) (IntKind.wrap .i64 (i + 1))))))) (Int.toNat (Prod.fst (ctZ (bz s) (IntKind.wrap .i64 (i + 1))))))), I (IntKind.wrap .i64 (Prod.snd (ctZ (bz s) (IntKind.wrap .i64 (i + 1))) + 1))] [] else False else False else False else False else False else False else False else bif decide (0 ≤ i ∧ i < (↑(ByteArray.size s) : Int)) then bif decide (0 ≤ byteAt s (Int.toNat i) ∧ byteAt s (Int.toNat i) < 256) then bif !hasZ (bz (ByteArray.mk #[57, 86, 90, 42, 89, 84, 73, 82, 83, 43, 45, 36, 44, 46, 47, 66, 67, 68, 65, 88])) (upZ (byteAt s (Int.toNat i))) || true then bif !hasZ (bz (ByteArray.mk #[57, 86, 90, 42, 89, 84, 73, 82, 83, 43, 45, 36, 44, 46, 47, 66, 67, 68, 65, 88])) (upZ (byteAt s (Int.toNat i))) || decide (IntKind.wrap .i64 ((↑(ByteArray.size o) : Int) + 1) > 32) then R Exit.ret [S s, S (ByteArray.mk #[]), I 30, S o, I i] [] else bif strFit (ByteArray.size o + ByteArray.size (sz (rep1 (upZ (byteAt s (Int.toNat i))) (Int.toNat 1)))) then R Exit.normal [S s, S r, I e, S (o ++ sz (rep1 (upZ (byteAt s (Int.toNat i))) (Int.toNat 1))), I (IntKind.wrap .i64 (i + 1))] [] else False else False else False else False else False else R (Exit.exit 0) [S s, S r, I e, S o, I i] []) := by kernel_rfl
theorem l45_0 : LOKf Tryz.prog (oneL 0 S45_0.h) Tryz.f196 := by
 refine lokf_one (h := S45_0.h) (by kernel_rfl) (loop_specQ ok_G3 hmix (by kernel_rfl) (lok_none _) S45_0 V45_0 B45_0 (fun (s, r, e, o, i) => (s.size - i).toNat) ?_ ?_ ?_)
 ·intro vs bs s h
  simp only [S45_0] at h
  split at h
  all_goals first | (cases h; exact ⟨rfl, rfl⟩) | cases h
 ·exact fun _ _ _ h => h
 ·intro ⟨s, r, e, o, i⟩ jk Z hp hf
  rw [r45_0]
  simp only [S45_0] at hp hf
  simp only [decide_eq_true_eq] at hp
  refine cond_intro (fun h => ?_) (fun h => ?_)
  ·have h := of_decide_eq_true h
   have hc := byte_rng s i.toNat
   rw [bz_at hp.1 h] at hf
   have k : bz ⟨#[57, 86, 90, 42, 89, 84, 73, 82, 83, 43, 45, 36, 44, 46, 47, 66, 67, 68, 65, 88]⟩ = kL := rfl
   have put : ∀ (c : Int) (q : Nat), 0 ≤ c ∧ c < 256 → bz (o ++ sz (rep1 (upZ c) q)) = bz o ++ rep1 (upZ c) q ∧ (o ++ sz (rep1 (upZ c) q)).size = o.size + q := fun c q hc => by
    have hb : IsB (rep1 (upZ c) q) := fun x hx => by
     rw [List.eq_of_mem_replicate hx]
     unfold upZ
     split <;> omega
    have e : bz (o ++ sz (rep1 (upZ c) q)) = bz o ++ rep1 (upZ c) q := by rw [bz_append, bz_sz hb]
    exact ⟨e, by rw [← bz_length, e, List.length_append, bz_length]; simp [rep1]⟩
   refine c_t (decide_eq_true (by omega)) (cond_intro (fun h40 => ?_) (fun h40 => ?_))
   ·have h40 := eq_of_beq h40
    rw [h40] at hf
    have e1 : xpGo (40 :: (bz s).drop (i + 1).toNat) 0 0 (bz o) = xpGo ((bz s).drop (i + 1).toNat) 1 0 (bz o) := by
     rw [xpGo, if_neg (by decide), if_neg (by decide), if_pos rfl]
    rw [e1] at hf
    rw [w64 (n := i + 1) (by omega), k]
    have N := xp_ct (bz s) (i + 1) (bz o) (by omega) (by rw [bz_length]; omega)
    refine c_t (decide_eq_true (by omega)) (c_t (by simp) ?_)
    by_cases hP : ctP (bz s) (i + 1)
    ·rw [if_pos hP] at N
     obtain ⟨n1, n2, n3, n4, n5⟩ := N
     rw [n1] at hf
     rw [bz_length] at n5
     generalize (ctZ (bz s) (i + 1)).1 = n' at *
     generalize (ctZ (bz s) (i + 1)).2 = a' at *
     refine cond_intro (fun hd => ?_) (fun hd => ?_)
     ·simp only [Bool.or_eq_true, decide_eq_true_eq] at hd
      rw [bz_end (by omega)] at hf
      exact hf o a'
     ·simp only [Bool.or_eq_false_iff, decide_eq_false_iff_not] at hd
      have hc2 := byte_rng s a'.toNat
      obtain ⟨u1, u2⟩ := put (byteAt s a'.toNat) n'.toNat hc2
      rw [bz_at (by omega) (show a' < s.size by omega), xp_put (.inl rfl), bz_length, if_pos rfl] at hf
      rw [w64 (n := (o.size : Int) + n') (by omega)]
      refine c_t (decide_eq_true (by omega)) (c_t (decide_eq_true hc2) (c_t (by simp) (cond_intro (fun hq => ?_) (fun hq => ?_))))
      ·rw [if_neg (by
        intro hz
        rw [hz.1] at hq
        simp only [Bool.not_true, Bool.false_or, decide_eq_true_eq] at hq
        omega)] at hf
       exact hf o a'
      ·simp only [Bool.or_eq_false_iff, Bool.not_eq_false', decide_eq_false_iff_not] at hq
       rw [if_pos ⟨hq.1, by omega⟩] at hf
       refine c_t (decide_eq_true (by omega)) (c_t ?_ ?_)
       ·rw [sz_size]
        simp only [strFit, Nat.ble_eq, rep1, List.length_replicate]
        omega
       ·rw [w64 (by omega)]
        refine ⟨(s, r, e, _, a' + 1), rfl, rfl, by simp only [S45_0, decide_eq_true_eq]; omega, by simp only; omega, ?_⟩
        simp only [S45_0, u1]
        exact hf
    ·rw [if_neg hP] at N
     rw [N.1] at hf
     rw [N.2]
     exact hf o 0
   ·have h40 : byteAt s i.toNat ≠ 40 := by simpa using h40
    obtain ⟨u1, u2⟩ := put (byteAt s i.toNat) (Int.toNat 1) hc
    rw [xp_put (.inr ⟨rfl, h40⟩), bz_length, if_neg (show ¬ ((0 : Int) = 2) by decide)] at hf
    rw [k, w64 (n := (o.size : Int) + 1) (by omega)]
    refine c_t (decide_eq_true (by omega)) (c_t (decide_eq_true hc) (c_t (by simp) (cond_intro (fun hq => ?_) (fun hq => ?_))))
    ·rw [if_neg (by
      intro hz
      rw [hz.1] at hq
      simp only [Bool.not_true, Bool.false_or, decide_eq_true_eq] at hq
      omega)] at hf
     exact hf o i
    ·simp only [Bool.or_eq_false_iff, Bool.not_eq_false', decide_eq_false_iff_not] at hq
     rw [if_pos ⟨hq.1, by omega⟩] at hf
     refine c_t ?_ ?_
     ·rw [sz_size]
      simp only [strFit, Nat.ble_eq, rep1, List.length_replicate]
      omega
     ·rw [w64 (by omega)]
      refine ⟨(s, r, e, _, i + 1), rfl, rfl, by simp only [S45_0, decide_eq_true_eq]; refine ⟨by omega, by omega, by omega, ?_⟩; rw [u2]; omega, by simp only; omega, ?_⟩
      simp only [S45_0]
      rw [u1]
      exact hf
  ·have h := of_decide_eq_false h
   rw [bz_end (by omega)] at hf
   obtain rfl : i = s.size := by omega
   have : sz (bz o) = o := sz_bz o
   simp only [xpGo, this] at hf
   exact hf
def exOK (l : List Int) : Bool := (xpGo l 0 0 []).2 && !(xpGo l 0 0 []).1.isEmpty
def eE (l : List Int) : Int := if exOK l = true then 0 else 30
def exZ (l : List Int) : List Int := if exOK l = true then (xpGo l 0 0 []).1 else []
theorem sz_empty (l : List Int) : decide (bz (sz l) = bz ⟨#[]⟩) = l.isEmpty := by
 cases l with
 | nil => rfl
 | cons c r =>
  have : bz (sz (c :: r)) ≠ [] := fun h => by
   have := congrArg List.length h
   rw [bz_length, sz_size] at this
   simp at this
  exact decide_eq_false this
def s45 (s : ByteArray) : Bool × Value := (decide (s.size ≤ 9223372036854775807), .tuple ⟨[.string (sz (exZ (bz s))), .int .i64 (eE (bz s))]⟩)
theorem fn45 : Fn1 Tryz.prog 196 Tryz.f196 := ⟨Tryz.func196, by kernel_rfl, by kernel_rfl, by kernel_rfl⟩
theorem v45 (s : ByteArray) (R : Value → Prop) : bodyQ Tryz.prog G3 (oneL 0 S45_0.h) Tryz.f196 [Enc.enc s] (fun _ => none) 0 (fun v _ _ => R v) = ( bif LSpec.pre S45_0 (s, ByteArray.mk #[], 0, ByteArray.mk #[], 0) then bif Prod.snd (xpGo (List.drop (Int.toNat 0) (bz s)) 0 0 (bz (ByteArray.mk #[]))) then ∀ (x : Tmps), bif ByteArray.toList (sz (Prod.fst (xpGo (List.drop (Int.toNat 0) (bz s)) 0 0 (bz (ByteArray.mk #[]))))) == ByteArray.toList (ByteArray.mk #[]) then R (.tuple (.mk [S (ByteArray.mk #[]), I 30])) else R (.tuple (.mk [S (sz (Prod.fst (xpGo (List.drop (Int.toNat 0) (bz s)) 0 0 (bz (ByteArray.mk #[]))))), I 0])) else ∀ (o' : ByteArray) (i' : Int) (x : Tmps), R (.tuple (.mk [S e0, I 30])) else False) := by kernel_rfl
theorem ok45 : PureOK Tryz.prog 196 (sp1 s45) := by
 refine qure1 ok_G3 hmix fn45 l45_0 (Nat.le_of_ble_eq_true (by kernel_rfl)) fun s hc => ?_
 rw [DoesQ, v45]
 have hc : (s.size ≤ 9223372036854775807) := of_decide_eq_true hc
 dsimp only [s45]
 refine c_t (by simp only [S45_0, decide_eq_true_eq]; exact ⟨by omega, by omega, by omega, by decide⟩) ?_
 rw [drop0, show bz ⟨#[]⟩ = [] from rfl]
 refine cond_intro (fun h x => ?_) (fun h _ _ _ => ?_)
 ·rw [toList_beq, sz_empty]
  refine cond_intro (fun he => ?_) (fun he => ?_)
  ·have : exOK (bz s) = false := by simp [exOK, he]
   simp only [exZ, eE, this]
   rfl
  ·have : exOK (bz s) = true := by simp [exOK, he, h]
   simp only [exZ, eE, this, if_true]
 ·have : exOK (bz s) = false := by simp [exOK, h]
  simp only [exZ, eE, this]
  rfl
def mk1 (dr : Int) (seen : Bool) (c : Int) : Int := bif hasZ [57, 89, 84, 73, 82] c then 100 else bif hasZ [90, 42] c || (dr != 0 && (c == dr && seen)) then 99
 else bif c == 86 then 118 else bif c == 36 then 109 else bif hasZ [83, 43, 45] c then 115 else 105
def mkGo (dr : Int) : Bool → List Int → List Int
 | _, [] => []
 | seen, c :: r => mk1 dr seen c :: mkGo dr (seen || (dr != 0 && c == dr)) r
def bodyZ (s : List Int) : List Int := if crZ s = true then s.take (s.length - 2) else s
def marksZ (s : List Int) : List Int := mkGo (drZ (bodyZ s)) false (bodyZ s) ++ (if crZ s = true then [115, 115] else [])
def V69_0 : ByteArray × ByteArray × ByteArray × Int × List Value × Nat × Nat × Bool × Int → List Value := fun (s, r, b, dr, d, m, cap, seen, i) => [S s, S r, S b, C8 dr, .slice (some ⟨200, 0, some 1⟩) m cap, B seen, I i]
def B69_0 : ByteArray × ByteArray × ByteArray × Int × List Value × Nat × Nat × Bool × Int → List (Option Blk) := fun (s, r, b, dr, d, m, cap, seen, i) => [some ⟨d, 5, true⟩]
def S69_0 : LSpecA (ByteArray × ByteArray × ByteArray × Int × List Value × Nat × Nat × Bool × Int) where
 live := [0, 2, 3, 4, 5, 6, 7]
 mid := [200]
 n := 260
 ap := [(.tmp 5, 200)]
 dec vs bs := match vs, bs with | [.string s, .string r, .string b, .int .u8 dr, .slice (some ⟨200, 0, some 1⟩) m cap, .bool seen, .int .i64 i], [some ⟨d, 5, true⟩] => some (s, r, b, dr, d, m, cap, seen, i) | _, _ => none
 pre := fun (s, r, b, dr, d, m, cap, seen, i) => rowOK d m cap && decide (0 ≤ i ∧ i ≤ b.size ∧ b.size ≤ 1000 ∧ i = m)
 fin := fun (s, r, b, dr, d, m, cap, seen, i) Z => ∀ d' cap' seen', rowOK d' b.size cap' = true → zc d' b.size = zc d m ++ mkGo dr seen ((bz b).drop i.toNat) → Z (.exit 0) [S s, S r, S b, C8 dr, .slice (some ⟨200, 0, some 1⟩) b.size cap', B seen', I b.size] [some ⟨d', 5, true⟩]
theorem r69_0 (s : ByteArray) (r : ByteArray) (b : ByteArray) (dr : Int) (d : List Value) (m : Nat) (cap : Nat) (seen : Bool) (i : Int) (jk : Tmps) (R : Exit → List Value → List (Option Blk) → Prop) : (codeQ Tryz.prog G3 noL Tryz.f201.ntmps (loopOf Tryz.f201 0) (tl S69_0.live (V69_0 (s, r, b, dr, d, m, cap, seen, i)) jk) (ml S69_0.mid (B69_0 (s, r, b, dr, d, m, cap, seen, i))) S69_0.n fun e t' m' _ => S69_0.out R e t' m') = ( bif decide (i < (↑(ByteArray.size b) : Int)) then bif decide (0 ≤ i ∧ i < (↑(ByteArray.size b) : Int)) then bif hasZ (bz (ByteArray.mk #[57, 89, 84, 73, 82])) (byteAt b (Int.toNat i)) then bif seen || (dr != 0 || true) then bif Nat.beq (List.length d) (cap * 1) && Nat.ble m cap && Nat.ble cap 9223372036854775807 && true && fitsA (m + 1) 1 then ∀ (cap : Nat) (tail : List Value), tailOK tail cap (m + 1) 1 = true → bif goodL [(286, 200)] (List.take (m * 1) d ++ [.int .u8 100] ++ tail) && true && true then R Exit.normal [S s, S r, S b, .int .u8 dr, .slice (some (.mk 200 0 (some 1))) (m + 1) cap, B (seen || dr != 0 && byteAt b (Int.toNat i) == dr), I (IntKind.wrap .i64 (i + 1))] [some (.mk (rlbL [(286, 200)] (List.take (m * 1) d ++ [.int .u8 100] ++ tail)) 5 true)] else False else False else False else bif hasZ (bz (ByteArray.mk #[90, 42])) (byteAt b (Int.toNat i)) || bif dr != 0 then byteAt b (Int.toNat i) == dr || true else true then bif hasZ (bz (ByteArray.mk #[90, 42])) (byteAt b (Int.toNat i)) || dr != 0 && (byteAt b (Int.toNat i) == dr && seen) then bif seen || (dr != 0 || true) then bif Nat.beq (List.length d) (cap * 1) && Nat.ble m cap && Nat.ble cap 9223372036854775807 && true && fitsA (m + 1) 1 then ∀ (cap : Nat) (tail : List Value), tailOK tail cap (m + 1) 1 = true → bif goodL [(300, 200)] (List.take (m * 1) d ++ [.int .u8 99] ++ tail) && true && true then R Exit.normal [S s, S r, S b, .int .u8 dr, .slice (some (.mk 200 0 (some 1))) (m + 1) cap, B (seen || dr != 0 && byteAt b (Int.toNat i) == dr), I (IntKind.wrap .i64 (i + 1))] [some (.mk (rlbL [(300, 200)] (List.take (m * 1) d ++ [.int .u8 99] ++ tail)) 5 true)] else False else False else False else bif byteAt b (Int.toNat i) == 86 then bif seen || (dr != 0 || true) then bif Nat.beq (List.length d) (cap * 1) && Nat.ble m cap && Nat.ble cap 9223372036854775807 && true && fitsA (m + 1) 1 then ∀ (cap : Nat) (tail : List Value), tailOK tail cap (m + 1) 1 = true → bif goodL [(302, 200)] (List.take (m * 1) d ++ [.int .u8 118] ++ tail) && true && true then R Exit.normal [S s, S r, S b, .int .u8 dr, .slice (some (.mk 200 0 (some 1))) (m + 1) cap, B (seen || dr != 0 && byteAt b (Int.toNat i) == dr), I (IntKind.wrap .i64 (i + 1))] [some (.mk (rlbL [(302, 200)] (List.take (m * 1) d ++ [.int .u8 118] ++ tail)) 5 true)] else False else False else False else bif byteAt b (Int.toNat i) == 36 then bif seen || (dr != 0 || true) then bif Nat.beq (List.length d) (cap * 1) && Nat.ble m cap && Nat.ble cap 9223372036854775807 && true && fitsA (m + 1) 1 then ∀ (cap : Nat) (tail : List Value), tailOK tail cap (m + 1) 1 = true → bif goodL [(304, 200)] (List.take (m * 1) d ++ [.int .u8 109] ++ tail) && true && true then R Exit.normal [S s, S r, S b, .int .u8 dr, .slice (some (.mk 200 0 (some 1))) (m + 1) cap, B (seen || dr != 0 && byteAt b (Int.toNat i) == dr), I (IntKind.wrap .i64 (i + 1))] [some (.mk (rlbL [(304, 200)] (List.take (m * 1) d ++ [.int .u8 109] ++ tail)) 5 true)] else False else False else False else bif hasZ (bz (ByteArray.mk #[83, 43, 45])) (byteAt b (Int.toNat i)) then bif seen || (dr != 0 || true) then bif Nat.beq (List.length d) (cap * 1) && Nat.ble m cap && Nat.ble cap 9223372036854775807 && true && fitsA (m + 1) 1 then ∀ (cap : Nat) (tail : List Value), tailOK tail cap (m + 1) 1 = true → bif goodL [(306, 200)] (List.take (m * 1) d ++ [.int .u8 115] ++ tail) && true && true then R Exit.normal [S s, S r, S b, .int .u8 dr, .slice (some (.mk 200 0 (some 1))) (m + 1) cap, B (seen || dr != 0 && byteAt b (Int.toNat i) == dr), I (IntKind.wrap .i64 (i + 1))] [some (.mk (rlbL [(306, 200)] (List.take (m * 1) d ++ [.int .u8 115] ++ tail)) 5 true)] else False else False else False else bif seen || (dr != 0 || true) then bif Nat.beq (List.length d) (cap * 1) && Nat.ble m cap && Nat.ble cap 9223372036854775807 && true && fitsA (m + 1) 1 then ∀ (cap : Nat) (tail : List Value), tailOK tail cap (m + 1) 1 = true → bif goodL [(305, 200)] (List.take (m * 1) d ++ [.int .u8 105] ++ tail) && true && true then R Exit.normal [S s, S r, S b, .int .u8 dr, .slice (some (.mk 200 0 (some 1))) (m + 1) cap, B (seen || dr != 0 && byteAt b (Int.toNat i) == dr), I (IntKind.wrap .i64 (i + 1))] [some (.mk (rlbL [(305, 200)] (List.take (m * 1) d ++ [.int .u8 105] ++ tail)) 5 true)] else False else False else False else False else False else bif goodL [(200, 200)] d && true && true then R (Exit.exit 0) [S s, S r, S b, .int .u8 dr, .slice (some (.mk 200 0 (some 1))) m cap, B seen, I i] [some (.mk (rlbL [(200, 200)] d) 5 true)] else False) := by kernel_rfl
theorem l69_0 : LOKf Tryz.prog (oneL 0 S69_0.hA) Tryz.f201 := by
 refine lokf_one (h := S69_0.hA) (by kernel_rfl) (loop_specA ok_G3 hmix (by kernel_rfl) (lok_none _) S69_0 V69_0 B69_0 (fun (s, r, b, dr, d, m, cap, seen, i) => (b.size - i).toNat) ?_ ?_ ?_)
 ·intro vs bs s h
  simp only [S69_0] at h
  split at h
  all_goals first | (cases h; exact ⟨rfl, rfl⟩) | cases h
 ·exact fun ⟨s, r, b, dr, d, m, cap, seen, i⟩ hp => by
   simp only [S69_0, Bool.and_eq_true] at hp
   simp [V69_0, B69_0, S69_0, idsLt, idsLtB, idsL, ids, ids_plainL (rowOK_iff.1 hp.1).plain]
 ·intro ⟨s, r, b, dr, d, m, cap, seen, i⟩ jk Z hp hf
  rw [r69_0]
  simp only [S69_0] at hp hf
  simp only [Bool.and_eq_true, decide_eq_true_eq] at hp
  obtain ⟨hr, hp⟩ := hp
  have hr := rowOK_iff.1 hr
  refine cond_intro (fun h => ?_) (fun h => ?_)
  ·have h := of_decide_eq_true h
   have k1 : bz ⟨#[57, 89, 84, 73, 82]⟩ = [57, 89, 84, 73, 82] := rfl
   have k2 : bz ⟨#[90, 42]⟩ = [90, 42] := rfl
   have k3 : bz ⟨#[83, 43, 45]⟩ = [83, 43, 45] := rfl
   rw [k1, k2, k3]
   rw [bz_at hp.1 h] at hf
   refine c_t (decide_eq_true (by omega)) ?_
   have fin : ∀ (cap' : Nat) (d' : List Value) (x : Int), mk1 dr seen (byteAt b i.toNat) = x → RowP d' (m + 1) cap' → zc d' (m + 1) = zc d m ++ [x] →
     S69_0.step V69_0 B69_0 (fun (s, r, b, dr, d, m, cap, seen, i) => (b.size - i).toNat) (s, r, b, dr, d, m, cap, seen, i) Z Exit.normal [S s, S r, S b, C8 dr, .slice (some ⟨200, 0, some 1⟩) (m + 1) cap', B (seen || dr != 0 && byteAt b i.toNat == dr), I (IntKind.wrap .i64 (i + 1))] [some ⟨d', 5, true⟩] := by
    intro cap' d' x hx g1 g2
    rw [w64 (by omega)]
    refine ⟨(s, r, b, dr, d', m + 1, cap', _, i + 1), rfl, rfl, by simp only [S69_0, Bool.and_eq_true, decide_eq_true_eq]; exact ⟨rowOK_iff.2 g1, by omega⟩, by simp only; omega, ?_⟩
    intro d'' cap'' seen'' h1 h2
    refine hf d'' cap'' seen'' h1 ?_
    rw [h2, g2, mkGo, hx, List.append_assoc]
    rfl
   have sn : (seen || (dr != 0 || true)) = true := by simp
   have K : Nat → Nat → List Value → Prop := fun _ _ _ => True
   refine cond_intro (fun h1 => ?_) (fun h1 => ?_)
   ·exact c_t sn (app_step hr (by omega) 100 _ (fun cap' d' => S69_0.step V69_0 B69_0 _ (s, r, b, dr, d, m, cap, seen, i) Z Exit.normal [S s, S r, S b, C8 dr, .slice (some ⟨200, 0, some 1⟩) (m + 1) cap', B (seen || dr != 0 && byteAt b i.toNat == dr), I (IntKind.wrap .i64 (i + 1))] [some ⟨d', 5, true⟩]) (fun cap' d' g1 g2 => fin cap' d' 100 (by simp only [mk1, h1, cond_true]) g1 g2))
   ·refine c_t (by cases hasZ [90, 42] (byteAt b i.toNat) <;> cases (dr != 0) <;> simp) (cond_intro (fun h2 => ?_) (fun h2 => ?_))
    ·exact c_t sn (app_step hr (by omega) 99 _ (fun cap' d' => S69_0.step V69_0 B69_0 _ (s, r, b, dr, d, m, cap, seen, i) Z Exit.normal [S s, S r, S b, C8 dr, .slice (some ⟨200, 0, some 1⟩) (m + 1) cap', B (seen || dr != 0 && byteAt b i.toNat == dr), I (IntKind.wrap .i64 (i + 1))] [some ⟨d', 5, true⟩]) (fun cap' d' g1 g2 => fin cap' d' 99 (by simp only [mk1, h1, h2, cond_true, cond_false]) g1 g2))
    ·refine cond_intro (fun h3 => ?_) (fun h3 => ?_)
     ·exact c_t sn (app_step hr (by omega) 118 _ (fun cap' d' => S69_0.step V69_0 B69_0 _ (s, r, b, dr, d, m, cap, seen, i) Z Exit.normal [S s, S r, S b, C8 dr, .slice (some ⟨200, 0, some 1⟩) (m + 1) cap', B (seen || dr != 0 && byteAt b i.toNat == dr), I (IntKind.wrap .i64 (i + 1))] [some ⟨d', 5, true⟩]) (fun cap' d' g1 g2 => fin cap' d' 118 (by simp only [mk1, h1, h2, h3, cond_true, cond_false]) g1 g2))
     ·refine cond_intro (fun h4 => ?_) (fun h4 => ?_)
      ·exact c_t sn (app_step hr (by omega) 109 _ (fun cap' d' => S69_0.step V69_0 B69_0 _ (s, r, b, dr, d, m, cap, seen, i) Z Exit.normal [S s, S r, S b, C8 dr, .slice (some ⟨200, 0, some 1⟩) (m + 1) cap', B (seen || dr != 0 && byteAt b i.toNat == dr), I (IntKind.wrap .i64 (i + 1))] [some ⟨d', 5, true⟩]) (fun cap' d' g1 g2 => fin cap' d' 109 (by simp only [mk1, h1, h2, h3, h4, cond_true, cond_false]) g1 g2))
      ·refine cond_intro (fun h5 => ?_) (fun h5 => ?_)
       ·exact c_t sn (app_step hr (by omega) 115 _ (fun cap' d' => S69_0.step V69_0 B69_0 _ (s, r, b, dr, d, m, cap, seen, i) Z Exit.normal [S s, S r, S b, C8 dr, .slice (some ⟨200, 0, some 1⟩) (m + 1) cap', B (seen || dr != 0 && byteAt b i.toNat == dr), I (IntKind.wrap .i64 (i + 1))] [some ⟨d', 5, true⟩]) (fun cap' d' g1 g2 => fin cap' d' 115 (by simp only [mk1, h1, h2, h3, h4, h5, cond_true, cond_false]) g1 g2))
       ·exact c_t sn (app_step hr (by omega) 105 _ (fun cap' d' => S69_0.step V69_0 B69_0 _ (s, r, b, dr, d, m, cap, seen, i) Z Exit.normal [S s, S r, S b, C8 dr, .slice (some ⟨200, 0, some 1⟩) (m + 1) cap', B (seen || dr != 0 && byteAt b i.toNat == dr), I (IntKind.wrap .i64 (i + 1))] [some ⟨d', 5, true⟩]) (fun cap' d' g1 g2 => fin cap' d' 105 (by simp only [mk1, h1, h2, h3, h4, h5, cond_true, cond_false]) g1 g2))
  ·have h := of_decide_eq_false h
   refine c_t (by rw [hr.good]; rfl) ?_
   rw [hr.rlb]
   obtain rfl : i = b.size := by omega
   have e : b.size = m := by omega
   have := hf d cap seen (by rw [e]; exact rowOK_iff.2 hr) (by rw [bz_end (Int.le_refl _), e]; simp [mkGo])
   rw [e] at this ⊢
   exact this
def s69 (s : ByteArray) : Bool × Value := (decide (s.size ≤ 1000), .string (sz (marksZ (bz s))))
theorem fn69 : Fn1 Tryz.prog 201 Tryz.f201 := ⟨Tryz.func201, by kernel_rfl, by kernel_rfl, by kernel_rfl⟩
theorem v69 (s : ByteArray) (R : Value → Prop) : bodyQ Tryz.prog G3 (oneL 0 S69_0.hA) Tryz.f201 [Enc.enc s] (fun _ => none) 0 (fun v _ _ => R v) = ( bif decide (ByteArray.size s ≤ 9223372036854775807) then bif crZ (bz s) then bif decide ((0 : Int) ≤ 0 ∧ 0 ≤ IntKind.wrap .i64 ((↑(ByteArray.size s) : Int) - 2) ∧ IntKind.wrap .i64 ((↑(ByteArray.size s) : Int) - 2) ≤ (↑(ByteArray.size s) : Int)) then bif decide (ByteArray.size (ByteArray.extract s 0 (Int.toNat (IntKind.wrap .i64 ((↑(ByteArray.size s) : Int) - 2)))) ≤ 9223372036854775807) then bif LSpec.pre (LSpecA.toLSpec S69_0) (s, ByteArray.mk #[], ByteArray.extract s 0 (Int.toNat (IntKind.wrap .i64 ((↑(ByteArray.size s) : Int) - 2))), drZ (bz (ByteArray.extract s 0 (Int.toNat (IntKind.wrap .i64 ((↑(ByteArray.size s) : Int) - 2))))), [], 0, 0, false, 0) then ∀ (d' : List Value) (cap' : Nat) (seen' : Bool), rowOK d' (ByteArray.size (ByteArray.extract s 0 (Int.toNat (IntKind.wrap .i64 ((↑(ByteArray.size s) : Int) - 2))))) cap' = true → zc d' (ByteArray.size (ByteArray.extract s 0 (Int.toNat (IntKind.wrap .i64 ((↑(ByteArray.size s) : Int) - 2))))) = zc [] 0 ++ mkGo (drZ (bz (ByteArray.extract s 0 (Int.toNat (IntKind.wrap .i64 ((↑(ByteArray.size s) : Int) - 2)))))) false (List.drop (Int.toNat 0) (bz (ByteArray.extract s 0 (Int.toNat (IntKind.wrap .i64 ((↑(ByteArray.size s) : Int) - 2)))))) → bif idsLt 260 d' && true then ∀ (x : Tmps), bif decide (ByteArray.size s ≤ 9223372036854775807) then bif crZ (bz s) then bif bytesOK d' 0 (ByteArray.size (ByteArray.extract s 0 (Int.toNat (IntKind.wrap .i64 ((↑(ByteArray.size s) : Int) - 2))))) then bif strFit (ByteArray.size (bytesOf d' 0 (ByteArray.size (ByteArray.extract s 0 (Int.toNat (IntKind.wrap .i64 ((↑(ByteArray.size s) : Int) - 2)))))) + ByteArray.size (ByteArray.mk #[115, 115])) then R (S (bytesOf d' 0 (ByteArray.size (ByteArray.extract s 0 (Int.toNat (IntKind.wrap .i64 ((↑(ByteArray.size s) : Int) - 2))))) ++ ByteArray.mk #[115, 115])) else False else False else bif bytesOK d' 0 (ByteArray.size (ByteArray.extract s 0 (Int.toNat (IntKind.wrap .i64 ((↑(ByteArray.size s) : Int) - 2))))) then R (S (bytesOf d' 0 (ByteArray.size (ByteArray.extract s 0 (Int.toNat (IntKind.wrap .i64 ((↑(ByteArray.size s) : Int) - 2))))))) else False else False else False else False else False else False else bif decide (ByteArray.size s ≤ 9223372036854775807) then bif LSpec.pre (LSpecA.toLSpec S69_0) (s, ByteArray.mk #[], s, drZ (bz s), [], 0, 0, false, 0) then ∀ (d' : List Value) (cap' : Nat) (seen' : Bool), rowOK d' (ByteArray.size s) cap' = true → zc d' (ByteArray.size s) = zc [] 0 ++ mkGo (drZ (bz s)) false (List.drop (Int.toNat 0) (bz s)) → bif idsLt 260 d' && true then ∀ (x : Tmps), bif decide (ByteArray.size s ≤ 9223372036854775807) then bif crZ (bz s) then bif bytesOK d' 0 (ByteArray.size s) then bif strFit (ByteArray.size (bytesOf d' 0 (ByteArray.size s)) + ByteArray.size (ByteArray.mk #[115, 115])) then R (S (bytesOf d' 0 (ByteArray.size s) ++ ByteArray.mk #[115, 115])) else False else False else bif bytesOK d' 0 (ByteArray.size s) then R (S (bytesOf d' 0 (ByteArray.size s))) else False else False else False else False else False else False) := by kernel_rfl
theorem ok69 : PureOK Tryz.prog 201 (sp1 s69) := by
 refine qure1 ok_G3 hmix fn69 l69_0 (Nat.le_of_ble_eq_true (by kernel_rfl)) fun s hc => ?_
 rw [DoesQ, v69]
 have hc : (s.size ≤ 1000) := of_decide_eq_true hc
 dsimp only [s69]
 have hz0 : zc [] 0 = [] := rfl
 have kss : (⟨#[115, 115]⟩ : ByteArray) = sz [115, 115] := rfl
 refine c_t (decide_eq_true (by omega)) (cond_intro (fun hcr => ?_) (fun hcr => ?_))
 ·have h2 : 2 ≤ s.size := by
   simp only [crZ, Bool.and_eq_true, decide_eq_true_eq, bz_length] at hcr
   exact hcr.1
  have e : ((s.size : Int) - 2).toNat = s.size - 2 := by omega
  rw [w64 (by omega), e]
  have eb : bz (s.extract 0 (s.size - 2)) = (bz s).take (s.size - 2) := by rw [bz_extract]; simp
  have hbs : (s.extract 0 (s.size - 2)).size = s.size - 2 := by rw [← bz_length, eb, List.length_take, bz_length]; omega
  generalize s.extract 0 (s.size - 2) = b at *
  refine c_t (decide_eq_true (by omega)) (c_t (decide_eq_true (by omega)) (c_t ?_ (fun d' cap' seen' h1 h3 => ?_)))
  ·simp only [S69_0, Bool.and_eq_true, decide_eq_true_eq]
   exact ⟨rfl, by omega⟩
  have h1 := rowOK_iff.1 h1
  have hsz : (bytesOf d' 0 b.size).size = b.size := by rw [h1.str.2, sz_size, zc_length h1]
  refine c_t (by rw [ids_plainB h1.plain]; rfl) (fun _ => c_t (decide_eq_true (by omega)) (c_t hcr (c_t h1.str.1 (c_t ?_ ?_))))
  ·rw [hsz]
   simp only [strFit, Nat.ble_eq]
   show b.size + 2 ≤ _
   omega
  ·rw [h1.str.2, h3, hz0, drop0, kss, ← sz_append]
   simp only [marksZ, bodyZ, hcr, if_true, bz_length, eb, List.nil_append]
 ·refine c_t (decide_eq_true (by omega)) (c_t ?_ (fun d' cap' seen' h1 h3 => ?_))
  ·simp only [S69_0, Bool.and_eq_true, decide_eq_true_eq]
   exact ⟨rfl, by omega⟩
  have h1 := rowOK_iff.1 h1
  refine c_t (by rw [ids_plainB h1.plain]; rfl) (fun _ => c_t (decide_eq_true (by omega)) (c_f hcr (c_t h1.str.1 ?_)))
  rw [h1.str.2, h3, hz0, drop0]
  simp [marksZ, bodyZ, hcr]
def G4 : Env := (((Env.nil.add 202 (sp2 s40)).add 199 (sp2 s75)).add 242 (sp1 s96)).add 238 (sp1 s101)
theorem ok_G4 : EnvOK Tryz.prog G4 := env_add (env_add (env_add (env_add env_nil ok40) ok75) ok96) ok101
def df1 (s : List Int) (dr : Int) : List Int → Int → Int → Int → Bool × Int × Int
 | [], _, f, l => (true, f, l)
 | c :: r, i, f, l => bif c == dr then df1 s dr r (i + 1) (if f < 0 then i else f) i
  else bif hasZ [36, 83, 43, 45] c && decide (2 ≤ cntZ s c) then (false, 0, 0) else df1 s dr r (i + 1) f l
def d2Go (dr f : Int) : List Int → Int → Bool
 | [], _ => true
 | c :: r, i => !(decide (i < f) && c == 86) && (!(decide (i > f) && (c != dr && !hasZ [44, 46, 47, 66, 86] c)) && d2Go dr f r (i + 1))
def driftsZ (s : List Int) : Bool := drZ s == 0 || ((df1 s (drZ s) s 0 (-1) (-1)).1 && d2Go (drZ s) (df1 s (drZ s) s 0 (-1) (-1)).2.1 (s.take (df1 s (drZ s) s 0 (-1) (-1)).2.2.toNat) 0)
theorem df1_rng (s : List Int) (dr : Int) : ∀ (r : List Int) (i f l : Int), 0 ≤ i → -1 ≤ f → f ≤ i → -1 ≤ l → l ≤ i → (df1 s dr r i f l).1 = true → -1 ≤ (df1 s dr r i f l).2.1 ∧ (df1 s dr r i f l).2.1 ≤ i + r.length ∧ -1 ≤ (df1 s dr r i f l).2.2 ∧ (df1 s dr r i f l).2.2 ≤ i + r.length
 | [], i, f, l, h0, h1, h2, h3, h4, _ => by simp only [df1, List.length_nil]; omega
 | c :: r, i, f, l, h0, h1, h2, h3, h4, hk => by
  simp only [df1, List.length_cons] at hk ⊢
  cases hc : (c == dr) with
  | true =>
   rw [hc] at hk
   simp only [cond_true] at hk ⊢
   have := df1_rng s dr r (i + 1) _ i (by omega) (by split <;> omega) (by split <;> omega) (by omega) (by omega) hk
   omega
  | false =>
   rw [hc] at hk
   simp only [cond_false] at hk ⊢
   cases hq : (hasZ [36, 83, 43, 45] c && decide (2 ≤ cntZ s c)) with
   | true => rw [hq] at hk; cases hk
   | false =>
    rw [hq] at hk
    simp only [cond_false] at hk ⊢
    have := df1_rng s dr r (i + 1) f l (by omega) h1 (by omega) h3 (by omega) hk
    omega
def V104_0 : ByteArray × Bool × Int × Int × Int × Int → List Value := fun (s, b, dr, f, l, i) => [S s, B b, C8 dr, I f, I l, I i]
def B104_0 : ByteArray × Bool × Int × Int × Int × Int → List (Option Blk) := fun _ => []
def S104_0 : LSpec (ByteArray × Bool × Int × Int × Int × Int) where
 live := [0, 2, 3, 4, 5, 6]
 mid := []
 n := 60
 dec vs bs := match vs, bs with | [.string s, .bool b, .int .u8 dr, .int .i64 f, .int .i64 l, .int .i64 i], [] => some (s, b, dr, f, l, i) | _, _ => none
 pre := fun (s, b, dr, f, l, i) => decide (0 ≤ i ∧ i ≤ s.size ∧ s.size ≤ 9223372036854775807 ∧ -1 ≤ f ∧ f ≤ i ∧ -1 ≤ l ∧ l ≤ i)
 fin := fun (s, b, dr, f, l, i) Z => (bif (df1 (bz s) dr ((bz s).drop i.toNat) i f l).1 then Z (.exit 0) [S s, B b, C8 dr, I (df1 (bz s) dr ((bz s).drop i.toNat) i f l).2.1, I (df1 (bz s) dr ((bz s).drop i.toNat) i f l).2.2, I s.size] [] else (∀ f' l' i', Z .ret [S s, B false, C8 dr, I f', I l', I i'] []))
theorem r104_0 (s : ByteArray) (b : Bool) (dr : Int) (f : Int) (l : Int) (i : Int) (jk : Tmps) (R : Exit → List Value → List (Option Blk) → Prop) : (codeQ Tryz.prog G4 noL Tryz.f239.ntmps (loopOf Tryz.f239 0) (tl S104_0.live (V104_0 (s, b, dr, f, l, i)) jk) (ml S104_0.mid (B104_0 (s, b, dr, f, l, i))) S104_0.n fun e t' m' _ => R e (List.map t' S104_0.live) (List.map m' S104_0.mid)) = ( bif decide (i < (↑(ByteArray.size s) : Int)) then bif decide (0 ≤ i ∧ i < (↑(ByteArray.size s) : Int)) then bif byteAt s (Int.toNat i) == dr then bif decide (f < 0) then R Exit.normal [S s, B b, .int .u8 dr, I i, I i, I (IntKind.wrap .i64 (i + 1))] [] else R Exit.normal [S s, B b, .int .u8 dr, I f, I i, I (IntKind.wrap .i64 (i + 1))] [] else bif decide (0 ≤ i ∧ i < (↑(ByteArray.size s) : Int)) && bif hasZ (bz (ByteArray.mk #[36, 83, 43, 45])) (byteAt s (Int.toNat i)) then decide (0 ≤ i ∧ i < (↑(ByteArray.size s) : Int)) && (decide (ByteArray.size s ≤ 9223372036854775807) && true) else true then bif hasZ (bz (ByteArray.mk #[36, 83, 43, 45])) (byteAt s (Int.toNat i)) && decide ((↑(cntZ (bz s) (byteAt s (Int.toNat i))) : Int) ≥ 2) then R Exit.ret [S s, B false, .int .u8 dr, I f, I l, I i] [] else R Exit.normal [S s, B b, .int .u8 dr, I f, I l, I (IntKind.wrap .i64 (i + 1))] [] else False else False else R (Exit.exit 0) [S s, B b, .int .u8 dr, I f, I l, I i] []) := by kernel_rfl
theorem l104_0 : ∀ t m n K, S104_0.h t m n K → Ab.Sem Tryz.prog Tryz.f239.ntmps (.loop (loopOf Tryz.f239 0)) t m n K := by
 refine loop_specQ ok_G4 hmix (by kernel_rfl) (lok_none _) S104_0 V104_0 B104_0 (fun (s, b, dr, f, l, i) => (s.size - i).toNat) ?_ ?_ ?_
 ·intro vs bs s h
  simp only [S104_0] at h
  split at h
  all_goals first | (cases h; exact ⟨rfl, rfl⟩) | cases h
 ·exact fun _ _ _ h => h
 ·intro ⟨s, b, dr, f, l, i⟩ jk Z hp hf
  rw [r104_0]
  simp only [S104_0] at hp hf
  simp only [decide_eq_true_eq] at hp
  refine cond_intro (fun h => ?_) (fun h => ?_)
  ·have h := of_decide_eq_true h
   rw [bz_at hp.1 h, df1] at hf
   have h1 : decide (0 ≤ i ∧ i < (s.size : Int)) = true := decide_eq_true (by omega)
   have k : bz ⟨#[36, 83, 43, 45]⟩ = [36, 83, 43, 45] := rfl
   rw [k]
   refine c_t h1 (cond_intro (fun hc => ?_) (fun hc => ?_))
   ·rw [hc, cond_true] at hf
    rw [w64 (n := i + 1) (by omega)]
    refine cond_intro (fun hd => ?_) (fun hd => ?_)
    ·rw [if_pos (of_decide_eq_true hd)] at hf
     exact ⟨(s, b, dr, i, i, i + 1), rfl, rfl, by simp only [S104_0, decide_eq_true_eq]; omega, by simp only; omega, hf⟩
    ·rw [if_neg (of_decide_eq_false hd)] at hf
     exact ⟨(s, b, dr, f, i, i + 1), rfl, rfl, by simp only [S104_0, decide_eq_true_eq]; omega, by simp only; omega, hf⟩
   ·rw [hc, cond_false] at hf
    refine c_t (by rw [h1, decide_eq_true hp.2.2.1]; cases hasZ [36, 83, 43, 45] (byteAt s i.toNat) <;> rfl) (cond_intro (fun hd => ?_) (fun hd => ?_))
    ·have hd' : (hasZ [36, 83, 43, 45] (byteAt s i.toNat) && decide (2 ≤ cntZ (bz s) (byteAt s i.toNat))) = true := by
      simp only [Bool.and_eq_true, decide_eq_true_eq] at hd ⊢
      exact ⟨hd.1, by omega⟩
     rw [hd', cond_true] at hf
     exact hf f l i
    ·have hd' : (hasZ [36, 83, 43, 45] (byteAt s i.toNat) && decide (2 ≤ cntZ (bz s) (byteAt s i.toNat))) = false := by
      cases q : hasZ [36, 83, 43, 45] (byteAt s i.toNat) with
      | false => rfl
      | true =>
       rw [q, Bool.true_and, decide_eq_false_iff_not] at hd
       rw [Bool.true_and]
       exact decide_eq_false (by omega)
     rw [hd', cond_false] at hf
     rw [w64 (by omega)]
     exact ⟨(s, b, dr, f, l, i + 1), rfl, rfl, by simp only [S104_0, decide_eq_true_eq]; omega, by simp only; omega, hf⟩
  ·have h := of_decide_eq_false h
   rw [bz_end (by omega)] at hf
   obtain rfl : i = s.size := by omega
   exact hf
def V104_2 : ByteArray × Bool × Int × Int × Int × Int → List Value := fun (s, b, dr, f, l, i) => [S s, B b, C8 dr, I f, I l, I i]
def B104_2 : ByteArray × Bool × Int × Int × Int × Int → List (Option Blk) := fun _ => []
def S104_2 : LSpec (ByteArray × Bool × Int × Int × Int × Int) where
 live := [0, 2, 3, 4, 5, 7]
 mid := []
 n := 90
 dec vs bs := match vs, bs with | [.string s, .bool b, .int .u8 dr, .int .i64 f, .int .i64 l, .int .i64 i], [] => some (s, b, dr, f, l, i) | _, _ => none
 pre := fun (s, b, dr, f, l, i) => decide (0 ≤ i ∧ s.size ≤ 9223372036854775807 ∧ l ≤ s.size)
 fin := fun (s, b, dr, f, l, i) Z => (bif d2Go dr f (((bz s).take l.toNat).drop i.toNat) i then (∀ i', Z (.exit 2) [S s, B b, C8 dr, I f, I l, I i'] []) else (∀ i', Z .ret [S s, B false, C8 dr, I f, I l, I i'] []))
theorem r104_2 (s : ByteArray) (b : Bool) (dr : Int) (f : Int) (l : Int) (i : Int) (jk : Tmps) (R : Exit → List Value → List (Option Blk) → Prop) : (codeQ Tryz.prog G4 noL Tryz.f239.ntmps (loopOf Tryz.f239 2) (tl S104_2.live (V104_2 (s, b, dr, f, l, i)) jk) (ml S104_2.mid (B104_2 (s, b, dr, f, l, i))) S104_2.n fun e t' m' _ => R e (List.map t' S104_2.live) (List.map m' S104_2.mid)) = ( bif decide (i < l) then bif bif decide (i < f) then decide (0 ≤ i ∧ i < (↑(ByteArray.size s) : Int)) && true else true then bif decide (i < f) && byteAt s (Int.toNat i) == 86 then R Exit.ret [S s, B false, .int .u8 dr, I f, I l, I i] [] else bif bif decide (i > f) then decide (0 ≤ i ∧ i < (↑(ByteArray.size s) : Int)) && bif byteAt s (Int.toNat i) != dr then decide (0 ≤ i ∧ i < (↑(ByteArray.size s) : Int)) && true else true else true then bif decide (i > f) && (byteAt s (Int.toNat i) != dr && !hasZ (bz (ByteArray.mk #[44, 46, 47, 66, 86])) (byteAt s (Int.toNat i))) then R Exit.ret [S s, B false, .int .u8 dr, I f, I l, I i] [] else R Exit.normal [S s, B b, .int .u8 dr, I f, I l, I (IntKind.wrap .i64 (i + 1))] [] else False else False else R (Exit.exit 2) [S s, B b, .int .u8 dr, I f, I l, I i] []) := by kernel_rfl
theorem l104_2 : ∀ t m n K, S104_2.h t m n K → Ab.Sem Tryz.prog Tryz.f239.ntmps (.loop (loopOf Tryz.f239 2)) t m n K := by
 refine loop_specQ ok_G4 hmix (by kernel_rfl) (lok_none _) S104_2 V104_2 B104_2 (fun (s, b, dr, f, l, i) => (l - i).toNat) ?_ ?_ ?_
 ·intro vs bs s h
  simp only [S104_2] at h
  split at h
  all_goals first | (cases h; exact ⟨rfl, rfl⟩) | cases h
 ·exact fun _ _ _ h => h
 ·intro ⟨s, b, dr, f, l, i⟩ jk Z hp hf
  rw [r104_2]
  simp only [S104_2] at hp hf
  simp only [decide_eq_true_eq] at hp
  have k : bz ⟨#[44, 46, 47, 66, 86]⟩ = [44, 46, 47, 66, 86] := rfl
  rw [k]
  refine cond_intro (fun h => ?_) (fun h => ?_)
  ·have h := of_decide_eq_true h
   rw [bz_take_at hp.1 h hp.2.2, d2Go] at hf
   have h1 : decide (0 ≤ i ∧ i < (s.size : Int)) = true := decide_eq_true (by omega)
   refine c_t (by rw [h1]; cases decide (i < f) <;> rfl) (cond_intro (fun ha => ?_) (fun ha => ?_))
   ·rw [ha] at hf
    exact hf i
   ·rw [ha, Bool.not_false, Bool.true_and] at hf
    refine c_t (by rw [h1]; cases decide (i > f) <;> cases (byteAt s i.toNat != dr) <;> rfl) (cond_intro (fun hb => ?_) (fun hb => ?_))
    ·rw [hb] at hf
     exact hf i
    ·rw [hb, Bool.not_false, Bool.true_and] at hf
     rw [w64 (by omega)]
     exact ⟨(s, b, dr, f, l, i + 1), rfl, rfl, by simp only [S104_2, decide_eq_true_eq]; omega, by simp only; omega, hf⟩
  ·have h := of_decide_eq_false h
   rw [List.drop_eq_nil_of_le (by rw [List.length_take]; omega)] at hf
   exact hf i
theorem lok104 : LOKf Tryz.prog (twoL 0 S104_0.h 2 S104_2.h) Tryz.f239 := lokf_two (by kernel_rfl) (by kernel_rfl) l104_0 l104_2
def s104 (s : ByteArray) : Bool × Value := (decide (s.size ≤ 1000), .bool (driftsZ (bz s)))
theorem fn104 : Fn1 Tryz.prog 239 Tryz.f239 := ⟨Tryz.func239, by kernel_rfl, by kernel_rfl, by kernel_rfl⟩
theorem v104 (s : ByteArray) (R : Value → Prop) : bodyQ Tryz.prog G4 (twoL 0 S104_0.h 2 S104_2.h) Tryz.f239 [Enc.enc s] (fun _ => none) 0 (fun v _ _ => R v) = ( bif decide (ByteArray.size s ≤ 9223372036854775807) then bif drZ (bz s) == 0 then R (B true) else bif LSpec.pre S104_0 (s, false, drZ (bz s), -1, -1, 0) then bif Prod.fst (df1 (bz s) (drZ (bz s)) (List.drop (Int.toNat 0) (bz s)) 0 (-1) (-1)) then ∀ (x : Tmps), bif LSpec.pre S104_2 (s, false, drZ (bz s), Prod.fst (Prod.snd (df1 (bz s) (drZ (bz s)) (List.drop (Int.toNat 0) (bz s)) 0 (-1) (-1))), Prod.snd (Prod.snd (df1 (bz s) (drZ (bz s)) (List.drop (Int.toNat 0) (bz s)) 0 (-1) (-1))), 0) then bif d2Go (drZ (bz s)) (Prod.fst (Prod.snd (df1 (bz s) (drZ (bz s)) (List.drop (Int.toNat 0) (bz s)) 0 (-1) (-1)))) (List.drop (Int.toNat 0) (List.take (Int.toNat (Prod.snd (Prod.snd (df1 (bz s) (drZ (bz s)) (List.drop (Int.toNat 0) (bz s)) 0 (-1) (-1))))) (bz s))) 0 then ∀ (i' : Int) (x : Tmps), R (B true) else ∀ (i' : Int) (x : Tmps), R (B false) else False else ∀ (f' l' i' : Int) (x : Tmps), R (B false) else False else False) := by kernel_rfl
theorem ok104 : PureOK Tryz.prog 239 (sp1 s104) := by
 refine qure1 ok_G4 hmix fn104 lok104 (Nat.le_of_ble_eq_true (by kernel_rfl)) fun s hc => ?_
 rw [DoesQ, v104]
 have hc : (s.size ≤ 1000) := of_decide_eq_true hc
 dsimp only [s104]
 refine c_t (decide_eq_true (by omega)) (cond_intro (fun h => by simp only [driftsZ, h, Bool.true_or]) (fun h => c_t (by simp only [S104_0, decide_eq_true_eq]; omega) ?_))
 rw [drop0]
 have hr := df1_rng (bz s) (drZ (bz s)) (bz s) 0 (-1) (-1) (by omega) (by omega) (by omega) (by omega) (by omega)
 rw [bz_length] at hr
 simp only [driftsZ, h, Bool.false_or]
 generalize df1 (bz s) (drZ (bz s)) (bz s) 0 (-1) (-1) = q at *
 refine cond_intro (fun h1 x => c_t ?_ ?_) (fun h1 _ _ _ _ => by rw [h1]; rfl)
 ·have := hr h1
  simp only [S104_2, decide_eq_true_eq]
  omega
 ·rw [drop0]
  exact cond_intro (fun h2 _ _ => by rw [h1, h2]; rfl) (fun h2 _ _ => by rw [h1, h2]; rfl)
def ldGo : List Int → Bool → Bool → Bool → Int → Bool × Bool × Bool × Int
 | [], fm, bh, _, dg => (true, fm, bh, dg)
 | m :: r, fm, bh, pt, dg => bif m == 118 then ldGo r fm bh true dg else bif m == 100 then ldGo r true bh pt (dg + 1)
  else bif m == 99 then (bif fm then (false, false, false, 0) else ldGo r fm (bh || pt) pt (dg + 1)) else ldGo r fm bh pt dg
def leadsZ (b ms : List Int) : Bool := bif hasZ b 90 && hasZ b 42 then false else bif (hasZ b 90 || hasZ b 42) && drZ b != 0 then false
 else (ldGo ms false false false 0).1 && (decide (1 ≤ (ldGo ms false false false 0).2.2.2) && (decide ((ldGo ms false false false 0).2.2.2 ≤ 9) && !((ldGo ms false false false 0).2.2.1 && (ldGo ms false false false 0).2.1)))
def V105_0 : ByteArray × ByteArray × Bool × Bool × Bool × Bool × Int × Int → List Value := fun (s, ms, b, fm, bh, pt, dg, i) => [S s, S ms, B b, B fm, B bh, B pt, I dg, I i]
def B105_0 : ByteArray × ByteArray × Bool × Bool × Bool × Bool × Int × Int → List (Option Blk) := fun _ => []
def S105_0 : LSpec (ByteArray × ByteArray × Bool × Bool × Bool × Bool × Int × Int) where
 live := [0, 1, 4, 5, 6, 7, 8, 9]
 mid := []
 n := 60
 dec vs bs := match vs, bs with | [.string s, .string ms, .bool b, .bool fm, .bool bh, .bool pt, .int .i64 dg, .int .i64 i], [] => some (s, ms, b, fm, bh, pt, dg, i) | _, _ => none
 pre := fun (s, ms, b, fm, bh, pt, dg, i) => decide (0 ≤ i ∧ i ≤ s.size ∧ s.size = ms.size ∧ s.size ≤ 1000 ∧ 0 ≤ dg ∧ dg ≤ i)
 fin := fun (s, ms, b, fm, bh, pt, dg, i) Z => (bif (ldGo ((bz ms).drop i.toNat) fm bh pt dg).1 then (∀ pt', Z (.exit 0) [S s, S ms, B b, B (ldGo ((bz ms).drop i.toNat) fm bh pt dg).2.1, B (ldGo ((bz ms).drop i.toNat) fm bh pt dg).2.2.1, B pt', I (ldGo ((bz ms).drop i.toNat) fm bh pt dg).2.2.2, I s.size] []) else (∀ fm' bh' pt' dg' i', Z .ret [S s, S ms, B false, B fm', B bh', B pt', I dg', I i'] []))
theorem r105_0 (s : ByteArray) (ms : ByteArray) (b : Bool) (fm : Bool) (bh : Bool) (pt : Bool) (dg : Int) (i : Int) (jk : Tmps) (R : Exit → List Value → List (Option Blk) → Prop) : (codeQ Tryz.prog G4 noL Tryz.f240.ntmps (loopOf Tryz.f240 0) (tl S105_0.live (V105_0 (s, ms, b, fm, bh, pt, dg, i)) jk) (ml S105_0.mid (B105_0 (s, ms, b, fm, bh, pt, dg, i))) S105_0.n fun e t' m' _ => R e (List.map t' S105_0.live) (List.map m' S105_0.mid)) = ( bif decide (i < (↑(ByteArray.size s) : Int)) then bif decide (0 ≤ i ∧ i < (↑(ByteArray.size ms) : Int)) then bif byteAt ms (Int.toNat i) == 118 then R Exit.normal [S s, S ms, B b, B fm, B bh, B true, I dg, I (IntKind.wrap .i64 (i + 1))] [] else bif decide (0 ≤ i ∧ i < (↑(ByteArray.size ms) : Int)) then bif byteAt ms (Int.toNat i) == 100 then R Exit.normal [S s, S ms, B b, B true, B bh, B pt, I (IntKind.wrap .i64 (dg + 1)), I (IntKind.wrap .i64 (i + 1))] [] else bif decide (0 ≤ i ∧ i < (↑(ByteArray.size ms) : Int)) then bif byteAt ms (Int.toNat i) == 99 then bif fm then R Exit.ret [S s, S ms, B false, B fm, B bh, B pt, I dg, I i] [] else bif bh || true then R Exit.normal [S s, S ms, B b, B fm, B (bh || pt), B pt, I (IntKind.wrap .i64 (dg + 1)), I (IntKind.wrap .i64 (i + 1))] [] else False else R Exit.normal [S s, S ms, B b, B fm, B bh, B pt, I dg, I (IntKind.wrap .i64 (i + 1))] [] else False else False else False else R (Exit.exit 0) [S s, S ms, B b, B fm, B bh, B pt, I dg, I i] []) := by kernel_rfl
theorem l105_0 : LOKf Tryz.prog (oneL 0 S105_0.h) Tryz.f240 := by
 refine lokf_one (h := S105_0.h) (by kernel_rfl) (loop_specQ ok_G4 hmix (by kernel_rfl) (lok_none _) S105_0 V105_0 B105_0 (fun (s, ms, b, fm, bh, pt, dg, i) => (s.size - i).toNat) ?_ ?_ ?_)
 ·intro vs bs s h
  simp only [S105_0] at h
  split at h
  all_goals first | (cases h; exact ⟨rfl, rfl⟩) | cases h
 ·exact fun _ _ _ h => h
 ·intro ⟨s, ms, b, fm, bh, pt, dg, i⟩ jk Z hp hf
  rw [r105_0]
  simp only [S105_0] at hp hf
  simp only [decide_eq_true_eq] at hp
  refine cond_intro (fun h => ?_) (fun h => ?_)
  ·have h := of_decide_eq_true h
   rw [bz_at (s := ms) hp.1 (by omega), ldGo] at hf
   have h1 : decide (0 ≤ i ∧ i < (ms.size : Int)) = true := decide_eq_true (by omega)
   refine c_t h1 (cond_intro (fun q1 => ?_) (fun q1 => c_t h1 (cond_intro (fun q2 => ?_) (fun q2 => c_t h1 (cond_intro (fun q3 => cond_intro (fun q4 => ?_) (fun q4 => c_t (by simp) ?_)) (fun q3 => ?_))))))
   ·rw [q1, cond_true] at hf
    rw [w64 (by omega)]
    exact ⟨(s, ms, b, fm, bh, true, dg, i + 1), rfl, rfl, by simp only [S105_0, decide_eq_true_eq]; omega, by simp only; omega, hf⟩
   ·rw [q1, q2, cond_false, cond_true] at hf
    rw [w64 (n := dg + 1) (by omega), w64 (by omega)]
    exact ⟨(s, ms, b, true, bh, pt, dg + 1, i + 1), rfl, rfl, by simp only [S105_0, decide_eq_true_eq]; omega, by simp only; omega, hf⟩
   ·rw [q1, q2, q3, cond_false, cond_false, cond_true, q4, cond_true] at hf
    exact hf fm bh pt dg i
   ·rw [q1, q2, q3, cond_false, cond_false, cond_true, q4, cond_false] at hf
    rw [w64 (n := dg + 1) (by omega), w64 (by omega), q4]
    exact ⟨(s, ms, b, false, bh || pt, pt, dg + 1, i + 1), rfl, rfl, by simp only [S105_0, decide_eq_true_eq]; omega, by simp only; omega, hf⟩
   ·rw [q1, q2, q3, cond_false, cond_false, cond_false] at hf
    rw [w64 (by omega)]
    exact ⟨(s, ms, b, fm, bh, pt, dg, i + 1), rfl, rfl, by simp only [S105_0, decide_eq_true_eq]; omega, by simp only; omega, hf⟩
  ·have h := of_decide_eq_false h
   rw [bz_end (by omega)] at hf
   obtain rfl : i = s.size := by omega
   exact hf pt
def s105 (s : ByteArray) (ms : ByteArray) : Bool × Value := (decide (s.size = ms.size ∧ s.size ≤ 1000), .bool (leadsZ (bz s) (bz ms)))
theorem fn105 : Fn1 Tryz.prog 240 Tryz.f240 := ⟨Tryz.func240, by kernel_rfl, by kernel_rfl, by kernel_rfl⟩
theorem v105 (s : ByteArray) (ms : ByteArray) (R : Value → Prop) : bodyQ Tryz.prog G4 (oneL 0 S105_0.h) Tryz.f240 [Enc.enc s, Enc.enc ms] (fun _ => none) 0 (fun v _ _ => R v) = ( bif decide (ByteArray.size s ≤ 9223372036854775807) && bif hasZ (bz s) 90 then decide (ByteArray.size s ≤ 9223372036854775807) && true else true then bif hasZ (bz s) 90 && hasZ (bz s) 42 then R (B false) else bif decide (ByteArray.size s ≤ 9223372036854775807) && bif hasZ (bz s) 90 then decide (ByteArray.size s ≤ 9223372036854775807) && true else decide (ByteArray.size s ≤ 9223372036854775807) && bif hasZ (bz s) 42 then decide (ByteArray.size s ≤ 9223372036854775807) && true else true then bif bif hasZ (bz s) 90 then drZ (bz s) != 0 else hasZ (bz s) 42 && drZ (bz s) != 0 then R (B false) else bif LSpec.pre S105_0 (s, ms, false, false, false, false, 0, 0) then bif Prod.fst (ldGo (List.drop (Int.toNat 0) (bz ms)) false false false 0) then ∀ (pt' : Bool) (x : Tmps), bif bif decide (Prod.snd (Prod.snd (Prod.snd (ldGo (List.drop (Int.toNat 0) (bz ms)) false false false 0))) ≥ 1) then bif decide (Prod.snd (Prod.snd (Prod.snd (ldGo (List.drop (Int.toNat 0) (bz ms)) false false false 0))) ≤ 9) then Prod.fst (Prod.snd (Prod.snd (ldGo (List.drop (Int.toNat 0) (bz ms)) false false false 0))) || true else true else true then R (B (decide (Prod.snd (Prod.snd (Prod.snd (ldGo (List.drop (Int.toNat 0) (bz ms)) false false false 0))) ≥ 1) && (decide (Prod.snd (Prod.snd (Prod.snd (ldGo (List.drop (Int.toNat 0) (bz ms)) false false false 0))) ≤ 9) && bif Prod.fst (Prod.snd (Prod.snd (ldGo (List.drop (Int.toNat 0) (bz ms)) false false false 0))) then !Prod.fst (Prod.snd (ldGo (List.drop (Int.toNat 0) (bz ms)) false false false 0)) else !false))) else False else ∀ (fm' bh' pt' : Bool) (dg' i' : Int) (x : Tmps), R (B false) else False else False else False) := by kernel_rfl
theorem ok105 : PureOK Tryz.prog 240 (sp2 s105) := by
 refine qure2 ok_G4 hmix fn105 l105_0 (Nat.le_of_ble_eq_true (by kernel_rfl)) fun s ms hc => ?_
 rw [DoesQ, v105]
 have hc : (s.size = ms.size ∧ s.size ≤ 1000) := of_decide_eq_true hc
 dsimp only [s105]
 have d : decide (s.size ≤ 9223372036854775807) = true := decide_eq_true (by omega)
 rw [d]
 refine c_t (by cases hasZ (bz s) 90 <;> rfl) (cond_intro (fun a => ?_) (fun a => ?_))
 ·simp only [leadsZ, a, cond_true]
 ·refine c_t (by cases hasZ (bz s) 90 <;> cases hasZ (bz s) 42 <;> rfl) ?_
  have e : (bif hasZ (bz s) 90 then drZ (bz s) != 0 else hasZ (bz s) 42 && drZ (bz s) != 0) = ((hasZ (bz s) 90 || hasZ (bz s) 42) && drZ (bz s) != 0) := by cases hasZ (bz s) 90 <;> cases hasZ (bz s) 42 <;> rfl
  rw [e]
  refine cond_intro (fun q => ?_) (fun q => ?_)
  ·simp only [leadsZ, a, q, cond_true, cond_false]
  ·refine c_t (by simp only [S105_0, decide_eq_true_eq]; omega) ?_
   rw [drop0]
   simp only [leadsZ, a, q, cond_false]
   generalize ldGo (bz ms) false false false 0 = w
   obtain ⟨w1, fm, bh, dg⟩ := w
   refine cond_intro (fun r pt' x => c_t ?_ ?_) (fun r _ _ _ _ _ _ => ?_)
   ·simp only
    cases decide (dg ≥ 1) <;> cases decide (dg ≤ 9) <;> cases bh <;> rfl
   ·simp only at r ⊢
    rw [r]
    cases fm <;> cases bh <;> rfl
   ·simp only at r ⊢
    rw [r]
    rfl
def b2i (b : Bool) : Int := if b then 1 else 0
def signsZ (s : List Int) : Int := b2i (crZ s) + b2i (hasZ (bodyZ s) 83) + b2i (hasZ (bodyZ s) 43) + b2i (hasZ (bodyZ s) 45) + cntZ (bodyZ s) 84 + cntZ (bodyZ s) 73 + cntZ (bodyZ s) 82
def s76 (s : ByteArray) : Bool × Value := (decide (s.size ≤ 1000), .int .i64 (signsZ (bz s)))
theorem fn76 : Fn1 Tryz.prog 200 Tryz.f200 := ⟨Tryz.func200, by kernel_rfl, by kernel_rfl, by kernel_rfl⟩
theorem v76 (s : ByteArray) (R : Value → Prop) : bodyQ Tryz.prog G4 noL Tryz.f200 [Enc.enc s] (fun _ => none) 0 (fun v _ _ => R v) = ( bif decide (ByteArray.size s ≤ 9223372036854775807) then bif crZ (bz s) then bif decide ((0 : Int) ≤ 0 ∧ 0 ≤ IntKind.wrap .i64 ((↑(ByteArray.size s) : Int) - 2) ∧ IntKind.wrap .i64 ((↑(ByteArray.size s) : Int) - 2) ≤ (↑(ByteArray.size s) : Int)) then bif decide (ByteArray.size (ByteArray.extract s 0 (Int.toNat (IntKind.wrap .i64 ((↑(ByteArray.size s) : Int) - 2)))) ≤ 9223372036854775807) then bif hasZ (bz (ByteArray.extract s 0 (Int.toNat (IntKind.wrap .i64 ((↑(ByteArray.size s) : Int) - 2))))) 83 then bif decide (ByteArray.size (ByteArray.extract s 0 (Int.toNat (IntKind.wrap .i64 ((↑(ByteArray.size s) : Int) - 2)))) ≤ 9223372036854775807) then bif hasZ (bz (ByteArray.extract s 0 (Int.toNat (IntKind.wrap .i64 ((↑(ByteArray.size s) : Int) - 2))))) 43 then bif decide (ByteArray.size (ByteArray.extract s 0 (Int.toNat (IntKind.wrap .i64 ((↑(ByteArray.size s) : Int) - 2)))) ≤ 9223372036854775807) then bif hasZ (bz (ByteArray.extract s 0 (Int.toNat (IntKind.wrap .i64 ((↑(ByteArray.size s) : Int) - 2))))) 45 then bif decide (ByteArray.size (ByteArray.extract s 0 (Int.toNat (IntKind.wrap .i64 ((↑(ByteArray.size s) : Int) - 2)))) ≤ 9223372036854775807) then bif decide (ByteArray.size (ByteArray.extract s 0 (Int.toNat (IntKind.wrap .i64 ((↑(ByteArray.size s) : Int) - 2)))) ≤ 9223372036854775807) then bif decide (ByteArray.size (ByteArray.extract s 0 (Int.toNat (IntKind.wrap .i64 ((↑(ByteArray.size s) : Int) - 2)))) ≤ 9223372036854775807) then R (I (IntKind.wrap .i64 (IntKind.wrap .i64 (IntKind.wrap .i64 (4 + (↑(cntZ (bz (ByteArray.extract s 0 (Int.toNat (IntKind.wrap .i64 ((↑(ByteArray.size s) : Int) - 2))))) 84) : Int)) + (↑(cntZ (bz (ByteArray.extract s 0 (Int.toNat (IntKind.wrap .i64 ((↑(ByteArray.size s) : Int) - 2))))) 73) : Int)) + (↑(cntZ (bz (ByteArray.extract s 0 (Int.toNat (IntKind.wrap .i64 ((↑(ByteArray.size s) : Int) - 2))))) 82) : Int)))) else False else False else False else bif decide (ByteArray.size (ByteArray.extract s 0 (Int.toNat (IntKind.wrap .i64 ((↑(ByteArray.size s) : Int) - 2)))) ≤ 9223372036854775807) then bif decide (ByteArray.size (ByteArray.extract s 0 (Int.toNat (IntKind.wrap .i64 ((↑(ByteArray.size s) : Int) - 2)))) ≤ 9223372036854775807) then bif decide (ByteArray.size (ByteArray.extract s 0 (Int.toNat (IntKind.wrap .i64 ((↑(ByteArray.size s) : Int) - 2)))) ≤ 9223372036854775807) then R (I (IntKind.wrap .i64 (IntKind.wrap .i64 (IntKind.wrap .i64 (3 + (↑(cntZ (bz (ByteArray.extract s 0 (Int.toNat (IntKind.wrap .i64 ((↑(ByteArray.size s) : Int) - 2))))) 84) : Int)) + (↑(cntZ (bz (ByteArray.extract s 0 (Int.toNat (IntKind.wrap .i64 ((↑(ByteArray.size s) : Int) - 2))))) 73) : Int)) + (↑(cntZ (bz (ByteArray.extract s 0 (Int.toNat (IntKind.wrap .i64 ((↑(ByteArray.size s) : Int) - 2))))) 82) : Int)))) else False else False else False else False else bif decide (ByteArray.size (ByteArray.extract s 0 (Int.toNat (IntKind.wrap .i64 ((↑(ByteArray.size s) : Int) - 2)))) ≤ 9223372036854775807) then bif hasZ (bz (ByteArray.extract s 0 (Int.toNat (IntKind.wrap .i64 ((↑(ByteArray.size s) : Int) - 2))))) 45 then bif decide (ByteArray.size (ByteArray.extract s 0 (Int.toNat (IntKind.wrap .i64 ((↑(ByteArray.size s) : Int) - 2)))) ≤ 9223372036854775807) then bif decide (ByteArray.size (ByteArray.extract s 0 (Int.toNat (IntKind.wrap .i64 ((↑(ByteArray.size s) : Int) - 2)))) ≤ 9223372036854775807) then bif decide (ByteArray.size (ByteArray.extract s 0 (Int.toNat (IntKind.wrap .i64 ((↑(ByteArray.size s) : Int) - 2)))) ≤ 9223372036854775807) then R (I (IntKind.wrap .i64 (IntKind.wrap .i64 (IntKind.wrap .i64 (3 + (↑(cntZ (bz (ByteArray.extract s 0 (Int.toNat (IntKind.wrap .i64 ((↑(ByteArray.size s) : Int) - 2))))) 84) : Int)) + (↑(cntZ (bz (ByteArray.extract s 0 (Int.toNat (IntKind.wrap .i64 ((↑(ByteArray.size s) : Int) - 2))))) 73) : Int)) + (↑(cntZ (bz (ByteArray.extract s 0 (Int.toNat (IntKind.wrap .i64 ((↑(ByteArray.size s) : Int) - 2))))) 82) : Int)))) else False else False else False else bif decide (ByteArray.size (ByteArray.extract s 0 (Int.toNat (IntKind.wrap .i64 ((↑(ByteArray.size s) : Int) - 2)))) ≤ 9223372036854775807) then bif decide (ByteArray.size (ByteArray.extract s 0 (Int.toNat (IntKind.wrap .i64 ((↑(ByteArray.size s) : Int) - 2)))) ≤ 9223372036854775807) then bif decide (ByteArray.size (ByteArray.extract s 0 (Int.toNat (IntKind.wrap .i64 ((↑(ByteArray.size s) : Int) - 2)))) ≤ 9223372036854775807) then R (I (IntKind.wrap .i64 (IntKind.wrap .i64 (IntKind.wrap .i64 (2 + (↑(cntZ (bz (ByteArray.extract s 0 (Int.toNat (IntKind.wrap .i64 ((↑(ByteArray.size s) : Int) - 2))))) 84) : Int)) + (↑(cntZ (bz (ByteArray.extract s 0 (Int.toNat (IntKind.wrap .i64 ((↑(ByteArray.size s) : Int) - 2))))) 73) : Int)) + (↑(cntZ (bz (ByteArray.extract s 0 (Int.toNat (IntKind.wrap .i64 ((↑(ByteArray.size s) : Int) - 2))))) 82) : Int)))) else False else False else False else False else False else bif decide (ByteArray.size (ByteArray.extract s 0 (Int.toNat (IntKind.wrap .i64 ((↑(ByteArray.size s) : Int) - 2)))) ≤ 9223372036854775807) then bif hasZ (bz (ByteArray.extract s 0 (Int.toNat (IntKind.wrap .i64 ((↑(ByteArray.size s) : Int) - 2))))) 43 then bif decide (ByteArray.size (ByteArray.extract s 0 (Int.toNat (IntKind.wrap .i64 ((↑(ByteArray.size s) : Int) - 2)))) ≤ 9223372036854775807) then bif hasZ (bz (ByteArray.extract s 0 (Int.toNat (IntKind.wrap .i64 ((↑(ByteArray.size s) : Int) - 2))))) 45 then bif decide (ByteArray.size (ByteArray.extract s 0 (Int.toNat (IntKind.wrap .i64 ((↑(ByteArray.size s) : Int) - 2)))) ≤ 9223372036854775807) then bif decide (ByteArray.size (ByteArray.extract s 0 (Int.toNat (IntKind.wrap .i64 ((↑(ByteArray.size s) : Int) - 2)))) ≤ 9223372036854775807) then bif decide (ByteArray.size (ByteArray.extract s 0 (Int.toNat (IntKind.wrap .i64 ((↑(ByteArray.size s) : Int) - 2)))) ≤ 9223372036854775807) then R (I (IntKind.wrap .i64 (IntKind.wrap .i64 (IntKind.wrap .i64 (3 + (↑(cntZ (bz (ByteArray.extract s 0 (Int.toNat (IntKind.wrap .i64 ((↑(ByteArray.size s) : Int) - 2))))) 84) : Int)) + (↑(cntZ (bz (ByteArray.extract s 0 (Int.toNat (IntKind.wrap .i64 ((↑(ByteArray.size s) : Int) - 2))))) 73) : Int)) + (↑(cntZ (bz (ByteArray.extract s 0 (Int.toNat (IntKind.wrap .i64 ((↑(ByteArray.size s) : Int) - 2))))) 82) : Int)))) else False else False else False else bif decide (ByteArray.size (ByteArray.extract s 0 (Int.toNat (IntKind.wrap .i64 ((↑(ByteArray.size s) : Int) - 2)))) ≤ 9223372036854775807) then bif decide (ByteArray.size (ByteArray.extract s 0 (Int.toNat (IntKind.wrap .i64 ((↑(ByteArray.size s) : Int) - 2)))) ≤ 9223372036854775807) then bif decide (ByteArray.size (ByteArray.extract s 0 (Int.toNat (IntKind.wrap .i64 ((↑(ByteArray.size s) : Int) - 2)))) ≤ 9223372036854775807) then R (I (IntKind.wrap .i64 (IntKind.wrap .i64 (IntKind.wrap .i64 (2 + (↑(cntZ (bz (ByteArray.extract s 0 (Int.toNat (IntKind.wrap .i64 ((↑(ByteArray.size s) : Int) - 2))))) 84) : Int)) + (↑(cntZ (bz (ByteArray.extract s 0 (Int.toNat (IntKind.wrap .i64 ((↑(ByteArray.size s) : Int) - 2))))) 73) : Int)) + (↑(cntZ (bz (ByteArray.extract s 0 (Int.toNat (IntKind.wrap .i64 ((↑(ByteArray.size s) : Int) - 2))))) 82) : Int)))) else False else False else False else False else bif decide (ByteArray.size (ByteArray.extract s 0 (Int.toNat (IntKind.wrap .i64 ((↑(ByteArray.size s) : Int) - 2)))) ≤ 9223372036854775807) then bif hasZ (bz (ByteArray.extract s 0 (Int.toNat (IntKind.wrap .i64 ((↑(ByteArray.size s) : Int) - 2))))) 45 then bif decide (ByteArray.size (ByteArray.extract s 0 (Int.toNat (IntKind.wrap .i64 ((↑(ByteArray.size s) : Int) - 2)))) ≤ 9223372036854775807) then bif decide (ByteArray.size (ByteArray.extract s 0 (Int.toNat (IntKind.wrap .i64 ((↑(ByteArray.size s) : Int) - 2)))) ≤ 9223372036854775807) then bif decide (ByteArray.size (ByteArray.extract s 0 (Int.toNat (IntKind.wrap .i64 ((↑(ByteArray.size s) : Int) - 2)))) ≤ 9223372036854775807) then R (I (IntKind.wrap .i64 (IntKind.wrap .i64 (IntKind.wrap .i64 (2 + (↑(cntZ (bz (ByteArray.extract s 0 (Int.toNat (IntKind.wrap .i64 ((↑(ByteArray.size s) : Int) - 2))))) 84) : Int)) + (↑(cntZ (bz (ByteArray.extract s 0 (Int.toNat (IntKind.wrap .i64 ((↑(ByteArray.size s) : Int) - 2))))) 73) : Int)) + (↑(cntZ (bz (ByteArray.extract s 0 (Int.toNat (IntKind.wrap .i64 ((↑(ByteArray.size s) : Int) - 2))))) 82) : Int)))) else False else False else False else bif decide (ByteArray.size (ByteArray.extract s 0 (Int.toNat (IntKind.wrap .i64 ((↑(ByteArray.size s) : Int) - 2)))) ≤ 9223372036854775807) then bif decide (ByteArray.size (ByteArray.extract s 0 (Int.toNat (IntKind.wrap .i64 ((↑(ByteArray.size s) : Int) - 2)))) ≤ 9223372036854775807) then bif decide (ByteArray.size (ByteArray.extract s 0 (Int.toNat (IntKind.wrap .i64 ((↑(ByteArray.size s) : Int) - 2)))) ≤ 9223372036854775807) then R (I (IntKind.wrap .i64 (IntKind.wrap .i64 (IntKind.wrap .i64 (1 + (↑(cntZ (bz (ByteArray.extract s 0 (Int.toNat (IntKind.wrap .i64 ((↑(ByteArray.size s) : Int) - 2))))) 84) : Int)) + (↑(cntZ (bz (ByteArray.extract s 0 (Int.toNat (IntKind.wrap .i64 ((↑(ByteArray.size s) : Int) - 2))))) 73) : Int)) + (↑(cntZ (bz (ByteArray.extract s 0 (Int.toNat (IntKind.wrap .i64 ((↑(ByteArray.size s) : Int) - 2))))) 82) : Int)))) else False else False else False else False else False else False else False else bif decide (ByteArray.size s ≤ 9223372036854775807) then bif hasZ (bz s) 83 then bif decide (ByteArray.size s ≤ 9223372036854775807) then bif hasZ (bz s) 43 then bif decide (ByteArray.size s ≤ 9223372036854775807) then bif hasZ (bz s) 45 then bif decide (ByteArray.size s ≤ 9223372036854775807) then bif decide (ByteArray.size s ≤ 9223372036854775807) then bif decide (ByteArray.size s ≤ 9223372036854775807) then R (I (IntKind.wrap .i64 (IntKind.wrap .i64 (IntKind.wrap .i64 (3 + (↑(cntZ (bz s) 84) : Int)) + (↑(cntZ (bz s) 73) : Int)) + (↑(cntZ (bz s) 82) : Int)))) else False else False else False else bif decide (ByteArray.size s ≤ 9223372036854775807) then bif decide (ByteArray.size s ≤ 9223372036854775807) then bif decide (ByteArray.size s ≤ 9223372036854775807) then R (I (IntKind.wrap .i64 (IntKind.wrap .i64 (IntKind.wrap .i64 (2 + (↑(cntZ (bz s) 84) : Int)) + (↑(cntZ (bz s) 73) : Int)) + (↑(cntZ (bz s) 82) : Int)))) else False else False else False else False else bif decide (ByteArray.size s ≤ 9223372036854775807) then bif hasZ (bz s) 45 then bif decide (ByteArray.size s ≤ 9223372036854775807) then bif decide (ByteArray.size s ≤ 9223372036854775807) then bif decide (ByteArray.size s ≤ 9223372036854775807) then R (I (IntKind.wrap .i64 (IntKind.wrap .i64 (IntKind.wrap .i64 (2 + (↑(cntZ (bz s) 84) : Int)) + (↑(cntZ (bz s) 73) : Int)) + (↑(cntZ (bz s) 82) : Int)))) else False else False else False else bif decide (ByteArray.size s ≤ 9223372036854775807) then bif decide (ByteArray.size s ≤ 9223372036854775807) then bif decide (ByteArray.size s ≤ 9223372036854775807) then R (I (IntKind.wrap .i64 (IntKind.wrap .i64 (IntKind.wrap .i64 (1 + (↑(cntZ (bz s) 84) : Int)) + (↑(cntZ (bz s) 73) : Int)) + (↑(cntZ (bz s) 82) : Int)))) else False else False else False else False else False else bif decide (ByteArray.size s ≤ 9223372036854775807) then bif hasZ (bz s) 43 then bif decide (ByteArray.size s ≤ 9223372036854775807) then bif hasZ (bz s) 45 then bif decide (ByteArray.size s ≤ 9223372036854775807) then bif decide (ByteArray.size s ≤ 9223372036854775807) then bif decide (ByteArray.size s ≤ 9223372036854775807) then R (I (IntKind.wrap .i64 (IntKind.wrap .i64 (IntKind.wrap .i64 (2 + (↑(cntZ (bz s) 84) : Int)) + (↑(cntZ (bz s) 73) : Int)) + (↑(cntZ (bz s) 82) : Int)))) else False else False else False else bif decide (ByteArray.size s ≤ 9223372036854775807) then bif decide (ByteArray.size s ≤ 9223372036854775807) then bif decide (ByteArray.size s ≤ 9223372036854775807) then R (I (IntKind.wrap .i64 (IntKind.wrap .i64 (IntKind.wrap .i64 (1 + (↑(cntZ (bz s) 84) : Int)) + (↑(cntZ (bz s) 73) : Int)) + (↑(cntZ (bz s) 82) : Int)))) else False else False else False else False else bif decide (ByteArray.size s ≤ 9223372036854775807) then bif hasZ (bz s) 45 then bif decide (ByteArray.size s ≤ 9223372036854775807) then bif decide (ByteArray.size s ≤ 9223372036854775807) then bif decide (ByteArray.size s ≤ 9223372036854775807) then R (I (IntKind.wrap .i64 (IntKind.wrap .i64 (IntKind.wrap .i64 (1 + (↑(cntZ (bz s) 84) : Int)) + (↑(cntZ (bz s) 73) : Int)) + (↑(cntZ (bz s) 82) : Int)))) else False else False else False else bif decide (ByteArray.size s ≤ 9223372036854775807) then bif decide (ByteArray.size s ≤ 9223372036854775807) then bif decide (ByteArray.size s ≤ 9223372036854775807) then R (I (IntKind.wrap .i64 (IntKind.wrap .i64 (IntKind.wrap .i64 (0 + (↑(cntZ (bz s) 84) : Int)) + (↑(cntZ (bz s) 73) : Int)) + (↑(cntZ (bz s) 82) : Int)))) else False else False else False else False else False else False else False) := by kernel_rfl
theorem ok76 : PureOK Tryz.prog 200 (sp1 s76) := by
 refine qure1 ok_G4 hmix fn76 lokf_none (Nat.le_of_ble_eq_true (by kernel_rfl)) fun s hc => ?_
 rw [DoesQ, v76]
 have hc : (s.size ≤ 1000) := of_decide_eq_true hc
 dsimp only [s76]
 refine c_t (decide_eq_true (by omega)) (cond_intro (fun hcr => ?_) (fun hcr => ?_))
 ·have h2 : 2 ≤ s.size := by
   simp only [crZ, Bool.and_eq_true, decide_eq_true_eq, bz_length] at hcr
   exact hcr.1
  have e : ((s.size : Int) - 2).toNat = s.size - 2 := by omega
  rw [w64 (n := (s.size : Int) - 2) (by omega), e]
  have eb : bz (s.extract 0 (s.size - 2)) = (bz s).take (s.size - 2) := by rw [bz_extract]; simp
  have hbs : (s.extract 0 (s.size - 2)).size = s.size - 2 := by rw [← bz_length, eb, List.length_take, bz_length]; omega
  have hB : bodyZ (bz s) = bz (s.extract 0 (s.size - 2)) := by simp [bodyZ, hcr, eb]
  clear eb
  generalize s.extract 0 (s.size - 2) = b at *
  have n1 := cnt_le (bz b) 84
  have n2 := cnt_le (bz b) 73
  have n3 := cnt_le (bz b) 82
  rw [bz_length] at n1 n2 n3
  refine c_t (decide_eq_true (by omega)) ?_
  repeat' (first | refine c_t (decide_eq_true (by omega)) ?_ | refine cond_intro (fun _ => ?_) (fun _ => ?_))
  all_goals
   simp only [signsZ, hB, hcr, b2i, *]
   rw [w3 (by omega) (by omega) (by omega) (by omega)]
   congr 1
 ·have hB : bodyZ (bz s) = bz s := by simp [bodyZ, hcr]
  have n1 := cnt_le (bz s) 84
  have n2 := cnt_le (bz s) 73
  have n3 := cnt_le (bz s) 82
  rw [bz_length] at n1 n2 n3
  repeat' (first | refine c_t (decide_eq_true (by omega)) ?_ | refine cond_intro (fun _ => ?_) (fun _ => ?_))
  all_goals
   simp only [signsZ, hB, hcr, b2i, *]
   rw [w3 (by omega) (by omega) (by omega) (by omega)]
   congr 1
def G5 : Env := (Env.nil.add 202 (sp2 s40)).add 242 (sp1 s96)
theorem ok_G5 : EnvOK Tryz.prog G5 := env_add (env_add env_nil ok40) ok96
def stIn (dr i : Int) : List Int → List Int → Int → Bool → Bool → Bool × Bool
 | c :: cs, m :: ms, j, a, b => bif m == 100 || (m == 99 || c == dr) then stIn dr i cs ms (j + 1) (a || decide (j < i)) (b || decide (j > i)) else stIn dr i cs ms (j + 1) a b
 | _, _, _, a, b => (a, b)
def stGo (dr : Int) (body ms : List Int) : List Int → Int → Bool
 | [], _ => true
 | c :: r, i => (bif !hasZ [36, 83, 43, 45] c || c == dr then true else !((stIn dr i body ms 0 false false).1 && (stIn dr i body ms 0 false false).2)) && stGo dr body ms r (i + 1)
def statsZ (body ms : List Int) : Bool := stGo (drZ body) body ms body 0
def V106_2 : ByteArray × ByteArray × Bool × Int × Int × Bool × Bool × Int → List Value := fun (s, ms, b, dr, i, a, bh, j) => [S s, S ms, B b, C8 dr, I i, B a, B bh, I j]
def B106_2 : ByteArray × ByteArray × Bool × Int × Int × Bool × Bool × Int → List (Option Blk) := fun _ => []
def S106_2 : LSpec (ByteArray × ByteArray × Bool × Int × Int × Bool × Bool × Int) where
 live := [0, 1, 4, 5, 6, 7, 8, 9]
 mid := []
 n := 200
 dec vs bs := match vs, bs with | [.string s, .string ms, .bool b, .int .u8 dr, .int .i64 i, .bool a, .bool bh, .int .i64 j], [] => some (s, ms, b, dr, i, a, bh, j) | _, _ => none
 pre := fun (s, ms, b, dr, i, a, bh, j) => decide (0 ≤ j ∧ j ≤ s.size ∧ s.size = ms.size ∧ s.size ≤ 1000)
 fin := fun (s, ms, b, dr, i, a, bh, j) Z => Z (.exit 2) [S s, S ms, B b, C8 dr, I i, B (stIn dr i ((bz s).drop j.toNat) ((bz ms).drop j.toNat) j a bh).1, B (stIn dr i ((bz s).drop j.toNat) ((bz ms).drop j.toNat) j a bh).2, I s.size] []
theorem r106_2 (s : ByteArray) (ms : ByteArray) (b : Bool) (dr : Int) (i : Int) (a : Bool) (bh : Bool) (j : Int) (jk : Tmps) (R : Exit → List Value → List (Option Blk) → Prop) : (codeQ Tryz.prog G5 noL Tryz.f241.ntmps (loopOf Tryz.f241 2) (tl S106_2.live (V106_2 (s, ms, b, dr, i, a, bh, j)) jk) (ml S106_2.mid (B106_2 (s, ms, b, dr, i, a, bh, j))) S106_2.n fun e t' m' _ => R e (List.map t' S106_2.live) (List.map m' S106_2.mid)) = ( bif decide (j < (↑(ByteArray.size s) : Int)) then bif decide (0 ≤ j ∧ j < (↑(ByteArray.size ms) : Int)) && (byteAt ms (Int.toNat j) == 100 || decide (0 ≤ j ∧ j < (↑(ByteArray.size ms) : Int)) && (byteAt ms (Int.toNat j) == 99 || decide (0 ≤ j ∧ j < (↑(ByteArray.size s) : Int)) && true)) then bif byteAt ms (Int.toNat j) == 100 || (byteAt ms (Int.toNat j) == 99 || byteAt s (Int.toNat j) == dr) then bif a || true then bif bh || true then R Exit.normal [S s, S ms, B b, .int .u8 dr, I i, B (a || decide (j < i)), B (bh || decide (j > i)), I (IntKind.wrap .i64 (j + 1))] [] else False else False else R Exit.normal [S s, S ms, B b, .int .u8 dr, I i, B a, B bh, I (IntKind.wrap .i64 (j + 1))] [] else False else R (Exit.exit 2) [S s, S ms, B b, .int .u8 dr, I i, B a, B bh, I j] []) := by kernel_rfl
theorem l106_2 : ∀ t m n K, S106_2.h t m n K → Ab.Sem Tryz.prog Tryz.f241.ntmps (.loop (loopOf Tryz.f241 2)) t m n K := by
 refine loop_specQ ok_G5 hmix (by kernel_rfl) (lok_none _) S106_2 V106_2 B106_2 (fun (s, ms, b, dr, i, a, bh, j) => (s.size - j).toNat) ?_ ?_ ?_
 ·intro vs bs s h
  simp only [S106_2] at h
  split at h
  all_goals first | (cases h; exact ⟨rfl, rfl⟩) | cases h
 ·exact fun _ _ _ h => h
 ·intro ⟨s, ms, b, dr, i, a, bh, j⟩ jk Z hp hf
  rw [r106_2]
  simp only [S106_2] at hp hf
  simp only [decide_eq_true_eq] at hp
  refine cond_intro (fun h => ?_) (fun h => ?_)
  ·have h := of_decide_eq_true h
   rw [bz_at hp.1 h, bz_at (s := ms) hp.1 (by omega), stIn] at hf
   have h1 : decide (0 ≤ j ∧ j < (ms.size : Int)) = true := decide_eq_true (by omega)
   have h2 : decide (0 ≤ j ∧ j < (s.size : Int)) = true := decide_eq_true (by omega)
   rw [w64 (n := j + 1) (by omega)]
   refine c_t (by rw [h1, h2]; simp) (cond_intro (fun q => ?_) (fun q => ?_))
   ·rw [q, cond_true] at hf
    exact c_t (by simp) (c_t (by simp) ⟨(s, ms, b, dr, i, _, _, j + 1), rfl, rfl, by simp only [S106_2, decide_eq_true_eq]; omega, by simp only; omega, hf⟩)
   ·rw [q, cond_false] at hf
    exact ⟨(s, ms, b, dr, i, a, bh, j + 1), rfl, rfl, by simp only [S106_2, decide_eq_true_eq]; omega, by simp only; omega, hf⟩
  ·have h := of_decide_eq_false h
   rw [bz_end (s := s) (by omega)] at hf
   obtain rfl : j = s.size := by omega
   exact hf
theorem lk106 : LOK Tryz.prog (oneL 2 S106_2.h) Tryz.f241.ntmps (loopOf Tryz.f241 0) := lok_one (by kernel_rfl) l106_2
def V106_0 : ByteArray × ByteArray × Bool × Int × Int → List Value := fun (s, ms, b, dr, i) => [S s, S ms, B b, C8 dr, I i]
def B106_0 : ByteArray × ByteArray × Bool × Int × Int → List (Option Blk) := fun _ => []
def S106_0 : LSpec (ByteArray × ByteArray × Bool × Int × Int) where
 live := [0, 1, 4, 5, 6]
 mid := []
 n := 100
 dec vs bs := match vs, bs with | [.string s, .string ms, .bool b, .int .u8 dr, .int .i64 i], [] => some (s, ms, b, dr, i) | _, _ => none
 pre := fun (s, ms, b, dr, i) => decide (0 ≤ i ∧ i ≤ s.size ∧ s.size = ms.size ∧ s.size ≤ 1000)
 fin := fun (s, ms, b, dr, i) Z => (bif stGo dr (bz s) (bz ms) ((bz s).drop i.toNat) i then Z (.exit 0) [S s, S ms, B b, C8 dr, I s.size] [] else (∀ i', Z .ret [S s, S ms, B false, C8 dr, I i'] []))
theorem r106_0 (s : ByteArray) (ms : ByteArray) (b : Bool) (dr : Int) (i : Int) (jk : Tmps) (R : Exit → List Value → List (Option Blk) → Prop) : (codeQ Tryz.prog G5 (oneL 2 S106_2.h) Tryz.f241.ntmps (loopOf Tryz.f241 0) (tl S106_0.live (V106_0 (s, ms, b, dr, i)) jk) (ml S106_0.mid (B106_0 (s, ms, b, dr, i))) S106_0.n fun e t' m' _ => R e (List.map t' S106_0.live) (List.map m' S106_0.mid)) = ( bif decide (i < (↑(ByteArray.size s) : Int)) then bif decide (0 ≤ i ∧ i < (↑(ByteArray.size s) : Int)) && (!hasZ (bz (ByteArray.mk #[36, 83, 43, 45])) (byteAt s (Int.toNat i)) || decide (0 ≤ i ∧ i < (↑(ByteArray.size s) : Int)) && true) then bif !hasZ (bz (ByteArray.mk #[36, 83, 43, 45])) (byteAt s (Int.toNat i)) || byteAt s (Int.toNat i) == dr then R Exit.normal [S s, S ms, B b, .int .u8 dr, I (IntKind.wrap .i64 (i + 1))] [] else bif LSpec.pre S106_2 (s, ms, b, dr, i, false, false, 0) then ∀ (x : Tmps), bif Prod.fst (stIn dr i (List.drop (Int.toNat 0) (bz s)) (List.drop (Int.toNat 0) (bz ms)) 0 false false) || true then bif Prod.fst (stIn dr i (List.drop (Int.toNat 0) (bz s)) (List.drop (Int.toNat 0) (bz ms)) 0 false false) && Prod.snd (stIn dr i (List.drop (Int.toNat 0) (bz s)) (List.drop (Int.toNat 0) (bz ms)) 0 false false) then R Exit.ret [S s, S ms, B false, .int .u8 dr, I i] [] else R Exit.normal [S s, S ms, B b, .int .u8 dr, I (IntKind.wrap .i64 (i + 1))] [] else False else False else False else R (Exit.exit 0) [S s, S ms, B b, .int .u8 dr, I i] []) := by kernel_rfl
theorem l106_0 : ∀ t m n K, S106_0.h t m n K → Ab.Sem Tryz.prog Tryz.f241.ntmps (.loop (loopOf Tryz.f241 0)) t m n K := by
 refine loop_specQ ok_G5 hmix (by kernel_rfl) lk106 S106_0 V106_0 B106_0 (fun (s, ms, b, dr, i) => (s.size - i).toNat) ?_ ?_ ?_
 ·intro vs bs s h
  simp only [S106_0] at h
  split at h
  all_goals first | (cases h; exact ⟨rfl, rfl⟩) | cases h
 ·exact fun _ _ _ h => h
 ·intro ⟨s, ms, b, dr, i⟩ jk Z hp hf
  rw [r106_0]
  simp only [S106_0] at hp hf
  simp only [decide_eq_true_eq] at hp
  refine cond_intro (fun h => ?_) (fun h => ?_)
  ·have h := of_decide_eq_true h
   rw [bz_at hp.1 h, stGo] at hf
   have h1 : decide (0 ≤ i ∧ i < (s.size : Int)) = true := decide_eq_true (by omega)
   have k : bz ⟨#[36, 83, 43, 45]⟩ = [36, 83, 43, 45] := rfl
   rw [k]
   refine c_t (by rw [h1]; simp) (cond_intro (fun q => ?_) (fun q => c_t ?_ (fun x => c_t (by simp) ?_)))
   ·rw [q, cond_true, Bool.true_and] at hf
    rw [w64 (by omega)]
    exact ⟨(s, ms, b, dr, i + 1), rfl, rfl, by simp only [S106_0, decide_eq_true_eq]; omega, by simp only; omega, hf⟩
   ·simp only [S106_2, decide_eq_true_eq]
    omega
   ·rw [q, cond_false] at hf
    rw [drop0, drop0]
    refine cond_intro (fun w => ?_) (fun w => ?_)
    ·rw [w] at hf
     exact hf i
    ·rw [w, Bool.not_false, Bool.true_and] at hf
     rw [w64 (by omega)]
     exact ⟨(s, ms, b, dr, i + 1), rfl, rfl, by simp only [S106_0, decide_eq_true_eq]; omega, by simp only; omega, hf⟩
  ·have h := of_decide_eq_false h
   rw [bz_end (by omega)] at hf
   obtain rfl : i = s.size := by omega
   exact hf
theorem lok106 : LOKf Tryz.prog (oneL 0 S106_0.h) Tryz.f241 := lokf_one (by kernel_rfl) l106_0
def s106 (s : ByteArray) (ms : ByteArray) : Bool × Value := (decide (s.size = ms.size ∧ s.size ≤ 1000), .bool (statsZ (bz s) (bz ms)))
theorem fn106 : Fn1 Tryz.prog 241 Tryz.f241 := ⟨Tryz.func241, by kernel_rfl, by kernel_rfl, by kernel_rfl⟩
theorem v106 (s : ByteArray) (ms : ByteArray) (R : Value → Prop) : bodyQ Tryz.prog G5 (oneL 0 S106_0.h) Tryz.f241 [Enc.enc s, Enc.enc ms] (fun _ => none) 0 (fun v _ _ => R v) = ( bif decide (ByteArray.size s ≤ 9223372036854775807) then bif LSpec.pre S106_0 (s, ms, false, drZ (bz s), 0) then bif stGo (drZ (bz s)) (bz s) (bz ms) (List.drop (Int.toNat 0) (bz s)) 0 then ∀ (x : Tmps), R (B true) else ∀ (i' : Int) (x : Tmps), R (B false) else False else False) := by kernel_rfl
theorem ok106 : PureOK Tryz.prog 241 (sp2 s106) := by
 refine qure2 ok_G5 hmix fn106 lok106 (Nat.le_of_ble_eq_true (by kernel_rfl)) fun s ms hc => ?_
 rw [DoesQ, v106]
 have hc : (s.size = ms.size ∧ s.size ≤ 1000) := of_decide_eq_true hc
 dsimp only [s106]
 refine c_t (decide_eq_true (by omega)) (c_t (by simp only [S106_0, decide_eq_true_eq]; omega) ?_)
 rw [drop0]
 exact cond_intro (fun h _ => by simp only [statsZ, h]) (fun h _ _ => by simp only [statsZ, h])
theorem mk_len (dr : Int) : ∀ (l : List Int) (b : Bool), (mkGo dr b l).length = l.length
 | [], _ => rfl
 | c :: r, b => by simp only [mkGo, List.length_cons, mk_len dr r]
theorem marks_len (l : List Int) : (marksZ l).length = l.length := by
 unfold marksZ bodyZ
 cases h : crZ l with
 | false => simp [mk_len]
 | true =>
  have : 2 ≤ l.length := by
   simp only [crZ, Bool.and_eq_true, decide_eq_true_eq] at h
   exact h.1
  simp [mk_len]
  omega
theorem mk1_rng (dr : Int) (b : Bool) (c : Int) : 0 ≤ mk1 dr b c ∧ mk1 dr b c < 256 := by
 unfold mk1
 cases hasZ [57, 89, 84, 73, 82] c <;> cases (hasZ [90, 42] c || (dr != 0 && (c == dr && b))) <;> cases (c == 86) <;> cases (c == 36) <;> cases hasZ [83, 43, 45] c <;> decide
theorem mk_isB (dr : Int) : ∀ (l : List Int) (b : Bool), IsB (mkGo dr b l)
 | [], _ => IsB.nil
 | c :: r, b => IsB.cons (mk1_rng dr b c) (mk_isB dr r _)
theorem marks_isB (l : List Int) : IsB (marksZ l) := by
 unfold marksZ
 refine (mk_isB _ _ _).append ?_
 split
 ·intro c hc
  simp at hc
  omega
 ·exact IsB.nil
def numV (s : List Int) : Bool := !charZ s && (!(bodyZ s).any (hasZ [65, 88, 67, 68]) && (decide ((cntZ (bodyZ s) 86 : Int) ≤ 1) && (driftsZ (bodyZ s) && (leadsZ (bodyZ s) (marksZ (bodyZ s)) && (decide (signsZ s ≤ 1) && statsZ (bodyZ s) (marksZ (bodyZ s)))))))
def G6 : Env := ((((((((Env.nil.add 202 (sp2 s40)).add 199 (sp2 s75)).add 197 (sp1 s73)).add 238 (sp1 s101)).add 201 (sp1 s69)).add 239 (sp1 s104)).add 240 (sp2 s105)).add 200 (sp1 s76)).add 241 (sp2 s106)
theorem ok_G6 : EnvOK Tryz.prog G6 := env_add (env_add (env_add (env_add (env_add (env_add (env_add (env_add (env_add env_nil ok40) ok75) ok73) ok101) ok69) ok104) ok105) ok76) ok106
def V74_0 : ByteArray × Bool × ByteArray × Int → List Value := fun (s, b, d, i) => [S s, B b, S d, I i]
def B74_0 : ByteArray × Bool × ByteArray × Int → List (Option Blk) := fun _ => []
def S74_0 : LSpec (ByteArray × Bool × ByteArray × Int) where
 live := [0, 2, 3, 4]
 mid := []
 n := 80
 dec vs bs := match vs, bs with | [.string s, .bool b, .string d, .int .i64 i], [] => some (s, b, d, i) | _, _ => none
 pre := fun (s, b, d, i) => decide (0 ≤ i ∧ i ≤ d.size ∧ d.size ≤ 1000)
 fin := fun (s, b, d, i) Z => (bif ((bz d).drop i.toNat).any (hasZ [65, 88, 67, 68]) then (∀ i', Z .ret [S s, B false, S d, I i'] []) else Z (.exit 0) [S s, B b, S d, I d.size] [])
theorem r74_0 (s : ByteArray) (b : Bool) (d : ByteArray) (i : Int) (jk : Tmps) (R : Exit → List Value → List (Option Blk) → Prop) : (codeQ Tryz.prog G6 noL Tryz.f198.ntmps (loopOf Tryz.f198 0) (tl S74_0.live (V74_0 (s, b, d, i)) jk) (ml S74_0.mid (B74_0 (s, b, d, i))) S74_0.n fun e t' m' _ => R e (List.map t' S74_0.live) (List.map m' S74_0.mid)) = ( bif decide (i < (↑(ByteArray.size d) : Int)) then bif decide (0 ≤ i ∧ i < (↑(ByteArray.size d) : Int)) then bif hasZ (bz (ByteArray.mk #[65, 88, 67, 68])) (byteAt d (Int.toNat i)) then R Exit.ret [S s, B false, S d, I i] [] else R Exit.normal [S s, B b, S d, I (IntKind.wrap .i64 (i + 1))] [] else False else R (Exit.exit 0) [S s, B b, S d, I i] []) := by kernel_rfl
theorem l74_0 : LOKf Tryz.prog (oneL 0 S74_0.h) Tryz.f198 := by
 refine lokf_one (h := S74_0.h) (by kernel_rfl) (loop_specQ ok_G6 hmix (by kernel_rfl) (lok_none _) S74_0 V74_0 B74_0 (fun (s, b, d, i) => (d.size - i).toNat) ?_ ?_ ?_)
 ·intro vs bs s h
  simp only [S74_0] at h
  split at h
  all_goals first | (cases h; exact ⟨rfl, rfl⟩) | cases h
 ·exact fun _ _ _ h => h
 ·intro ⟨s, b, d, i⟩ jk Z hp hf
  rw [r74_0]
  simp only [S74_0] at hp hf
  simp only [decide_eq_true_eq] at hp
  refine cond_intro (fun h => ?_) (fun h => ?_)
  ·have h := of_decide_eq_true h
   rw [bz_at hp.1 h, List.any_cons] at hf
   have k : bz ⟨#[65, 88, 67, 68]⟩ = [65, 88, 67, 68] := rfl
   rw [k]
   refine c_t (decide_eq_true (by omega)) (cond_intro (fun q => ?_) (fun q => ?_))
   ·rw [q] at hf
    exact hf i
   ·rw [q, Bool.false_or] at hf
    rw [w64 (by omega)]
    exact ⟨(s, b, d, i + 1), rfl, rfl, by simp only [S74_0, decide_eq_true_eq]; omega, by simp only; omega, hf⟩
  ·have h := of_decide_eq_false h
   rw [bz_end (by omega)] at hf
   obtain rfl : i = d.size := by omega
   exact hf
def s74 (s : ByteArray) : Bool × Value := (decide (s.size ≤ 1000), .bool (numV (bz s)))
theorem fn74 : Fn1 Tryz.prog 198 Tryz.f198 := ⟨Tryz.func198, by kernel_rfl, by kernel_rfl, by kernel_rfl⟩
theorem v74 (s : ByteArray) (R : Value → Prop) : bodyQ Tryz.prog G6 (oneL 0 S74_0.h) Tryz.f198 [Enc.enc s] (fun _ => none) 0 (fun v _ _ => R v) = ( bif decide (ByteArray.size s ≤ 9223372036854775807) then bif charZ (bz s) then R (B false) else bif decide (ByteArray.size s ≤ 9223372036854775807) then bif crZ (bz s) then bif decide ((0 : Int) ≤ 0 ∧ 0 ≤ IntKind.wrap .i64 ((↑(ByteArray.size s) : Int) - 2) ∧ IntKind.wrap .i64 ((↑(ByteArray.size s) : Int) - 2) ≤ (↑(ByteArray.size s) : Int)) then bif LSpec.pre S74_0 (s, false, ByteArray.extract s 0 (Int.toNat (IntKind.wrap .i64 ((↑(ByteArray.size s) : Int) - 2))), 0) then bif List.any (List.drop (Int.toNat 0) (bz (ByteArray.extract s 0 (Int.toNat (IntKind.wrap .i64 ((↑(ByteArray.size s) : Int) - 2)))))) (hasZ [65, 88, 67, 68]) then ∀ (i' : Int) (x : Tmps), R (B false) else ∀ (x : Tmps), bif decide (ByteArray.size (ByteArray.extract s 0 (Int.toNat (IntKind.wrap .i64 ((↑(ByteArray.size s) : Int) - 2)))) ≤ 1000) then bif decide (ByteArray.size (ByteArray.extract s 0 (Int.toNat (IntKind.wrap .i64 ((↑(ByteArray.size s) : Int) - 2)))) ≤ 9223372036854775807) && bif decide ((↑(cntZ (bz (ByteArray.extract s 0 (Int.toNat (IntKind.wrap .i64 ((↑(ByteArray.size s) : Int) - 2))))) 86) : Int) ≤ 1) then decide (ByteArray.size (ByteArray.extract s 0 (Int.toNat (IntKind.wrap .i64 ((↑(ByteArray.size s) : Int) - 2)))) ≤ 1000) && bif driftsZ (bz (ByteArray.extract s 0 (Int.toNat (IntKind.wrap .i64 ((↑(ByteArray.size s) : Int) - 2))))) then decide (ByteArray.size (ByteArray.extract s 0 (Int.toNat (IntKind.wrap .i64 ((↑(ByteArray.size s) : Int) - 2)))) = ByteArray.size (sz (marksZ (bz (ByteArray.extract s 0 (Int.toNat (IntKind.wrap .i64 ((↑(ByteArray.size s) : Int) - 2))))))) ∧ ByteArray.size (ByteArray.extract s 0 (Int.toNat (IntKind.wrap .i64 ((↑(ByteArray.size s) : Int) - 2)))) ≤ 1000) && bif leadsZ (bz (ByteArray.extract s 0 (Int.toNat (IntKind.wrap .i64 ((↑(ByteArray.size s) : Int) - 2))))) (bz (sz (marksZ (bz (ByteArray.extract s 0 (Int.toNat (IntKind.wrap .i64 ((↑(ByteArray.size s) : Int) - 2)))))))) then decide (ByteArray.size s ≤ 1000) && bif decide (signsZ (bz s) ≤ 1) then decide (ByteArray.size (ByteArray.extract s 0 (Int.toNat (IntKind.wrap .i64 ((↑(ByteArray.size s) : Int) - 2)))) = ByteArray.size (sz (marksZ (bz (ByteArray.extract s 0 (Int.toNat (IntKind.wrap .i64 ((↑(ByteArray.size s) : Int) - 2))))))) ∧ ByteArray.size (ByteArray.extract s 0 (Int.toNat (IntKind.wrap .i64 ((↑(ByteArray.size s) : Int) - 2)))) ≤ 1000) && true else true else true else true else true then R (B (decide ((↑(cntZ (bz (ByteArray.extract s 0 (Int.toNat (IntKind.wrap .i64 ((↑(ByteArray.size s) : Int) - 2))))) 86) : Int) ≤ 1) && (driftsZ (bz (ByteArray.extract s 0 (Int.toNat (IntKind.wrap .i64 ((↑(ByteArray.size s) : Int) - 2))))) && (leadsZ (bz (ByteArray.extract s 0 (Int.toNat (IntKind.wrap .i64 ((↑(ByteArray.size s) : Int) - 2))))) (bz (sz (marksZ (bz (ByteArray.extract s 0 (Int.toNat (IntKind.wrap .i64 ((↑(ByteArray.size s) : Int) - 2)))))))) && (decide (signsZ (bz s) ≤ 1) && statsZ (bz (ByteArray.extract s 0 (Int.toNat (IntKind.wrap .i64 ((↑(ByteArray.size s) : Int) - 2))))) (bz (sz (marksZ (bz (ByteArray.extract s 0 (Int.toNat (IntKind.wrap .i64 ((↑(ByteArray.size s) : Int) - 2))))))))))))) else False else False else False else False else bif LSpec.pre S74_0 (s, false, s, 0) then bif List.any (List.drop (Int.toNat 0) (bz s)) (hasZ [65, 88, 67, 68]) then ∀ (i' : Int) (x : Tmps), R (B false) else ∀ (x : Tmps), bif decide (ByteArray.size s ≤ 1000) then bif decide (ByteArray.size s ≤ 9223372036854775807) && bif decide ((↑(cntZ (bz s) 86) : Int) ≤ 1) then decide (ByteArray.size s ≤ 1000) && bif driftsZ (bz s) then decide (ByteArray.size s = ByteArray.size (sz (marksZ (bz s))) ∧ ByteArray.size s ≤ 1000) && bif leadsZ (bz s) (bz (sz (marksZ (bz s)))) then decide (ByteArray.size s ≤ 1000) && bif decide (signsZ (bz s) ≤ 1) then decide (ByteArray.size s = ByteArray.size (sz (marksZ (bz s))) ∧ ByteArray.size s ≤ 1000) && true else true else true else true else true then R (B (decide ((↑(cntZ (bz s) 86) : Int) ≤ 1) && (driftsZ (bz s) && (leadsZ (bz s) (bz (sz (marksZ (bz s)))) && (decide (signsZ (bz s) ≤ 1) && statsZ (bz s) (bz (sz (marksZ (bz s))))))))) else False else False else False else False else False) := by kernel_rfl
theorem ok74 : PureOK Tryz.prog 198 (sp1 s74) := by
 refine qure1 ok_G6 hmix fn74 l74_0 (Nat.le_of_ble_eq_true (by kernel_rfl)) fun s hc => ?_
 rw [DoesQ, v74]
 have hc : (s.size ≤ 1000) := of_decide_eq_true hc
 dsimp only [s74]
 have hm : ∀ b : ByteArray, bz (sz (marksZ (bz b))) = marksZ (bz b) ∧ (sz (marksZ (bz b))).size = b.size := fun b => ⟨bz_sz (marks_isB _), by rw [sz_size, marks_len, bz_length]⟩
 have d0 : decide (s.size ≤ 9223372036854775807) = true := decide_eq_true (by omega)
 have e4 : decide (s.size ≤ 1000) = true := decide_eq_true hc
 rw [d0]
 refine c_t rfl (cond_intro (fun hch => by simp only [numV, hch, Bool.not_true, Bool.false_and]) (fun hch => c_t rfl (cond_intro (fun hcr => ?_) (fun hcr => ?_))))
 ·have h2 : 2 ≤ s.size := by
   simp only [crZ, Bool.and_eq_true, decide_eq_true_eq, bz_length] at hcr
   exact hcr.1
  have e : ((s.size : Int) - 2).toNat = s.size - 2 := by omega
  rw [w64 (n := (s.size : Int) - 2) (by omega), e]
  have eb : bz (s.extract 0 (s.size - 2)) = (bz s).take (s.size - 2) := by rw [bz_extract]; simp
  have hbs : (s.extract 0 (s.size - 2)).size = s.size - 2 := by rw [← bz_length, eb, List.length_take, bz_length]; omega
  have hB : bodyZ (bz s) = bz (s.extract 0 (s.size - 2)) := by simp [bodyZ, hcr, eb]
  clear eb
  generalize s.extract 0 (s.size - 2) = b at *
  have e1 : decide (b.size ≤ 1000) = true := decide_eq_true (by omega)
  have e2 : decide (b.size ≤ 9223372036854775807) = true := decide_eq_true (by omega)
  refine c_t (decide_eq_true (by omega)) (c_t (by simp only [S74_0, decide_eq_true_eq]; omega) ?_)
  rw [drop0]
  refine cond_intro (fun ha _ _ => ?_) (fun ha _ => ?_)
  ·simp only [numV, hB, ha, Bool.not_true, Bool.false_and, Bool.and_false]
  ·simp only [(hm b).1, (hm b).2, e1, e2, e4, eq_self, true_and, Bool.true_and, cond_true, Bool.and_true]
   refine c_t (by simp) ?_
   simp only [numV, hch, hB, ha, Bool.not_false, Bool.true_and]
 ·have hB : bodyZ (bz s) = bz s := by simp [bodyZ, hcr]
  refine c_t (by simp only [S74_0, decide_eq_true_eq]; omega) ?_
  rw [drop0]
  refine cond_intro (fun ha _ _ => ?_) (fun ha _ => ?_)
  ·simp only [numV, hB, ha, Bool.not_true, Bool.false_and, Bool.and_false]
  ·simp only [(hm s).1, (hm s).2, e4, eq_self, true_and, Bool.true_and, cond_true, Bool.and_true]
   refine c_t (by simp) ?_
   simp only [numV, hch, hB, ha, Bool.not_false, Bool.true_and]
end Go.Px
end
section
namespace Go.Px
open Go Go.Ab Go.Proofs
def G7 : Env := ((((((Env.nil.add 202 (sp2 s40)).add 199 (sp2 s75)).add 197 (sp1 s73)).add 201 (sp1 s69)).add 196 (sp1 s45)).add 200 (sp1 s76)).add 198 (sp1 s74)
theorem ok_G7 : EnvOK Tryz.prog G7 := env_add (env_add (env_add (env_add (env_add (env_add (env_add env_nil ok40) ok75) ok73) ok69) ok45) ok76) ok74
def vOK (l : List Int) : Bool := exOK l && (charZ (exZ l) || numV (exZ l))
def pN (l : List Int) : Bool := exOK l && numV (exZ l)
def pS (l : List Int) : List Int := if vOK l = true then exZ l else []
def pW (l : List Int) : Int := if vOK l = true then (if charZ (exZ l) = true then ((exZ l).length : Int) else (exZ l).length - cntZ (exZ l) 86) else 0
def isP (m : Int) : Bool := m == 100 || m == 99
def pdGo : List Int → Int
 | [] => 0
 | m :: r => (bif isP m then 1 else 0) + pdGo r
def pqGo (s : List Int) : List Int → Int → Int
 | [], _ => 0
 | m :: r, i => (bif isP m && hasZ (s.take i.toNat) 86 then 1 else 0) + pqGo s r (i + 1)
def pD (l : List Int) : Int := if pN l = true then pdGo (marksZ (exZ l)) else 0
def pQ (l : List Int) : Int := if pN l = true then pqGo (exZ l) (marksZ (exZ l)) 0 else 0
def pG (l : List Int) : Bool := pN l && signsZ (exZ l) == 1
def pE (l : List Int) : Int := if vOK l = true then 0 else 30
def picV (l : List Int) : Value := .agg ⟨[.string (sz (pS l)), .bool (pN l), .int .i64 (pW l), .int .i64 (pD l), .int .i64 (pQ l), .bool (pG l)]⟩
def V30_0 : Int × ByteArray × ByteArray × ByteArray × Bool × Int × Int × Int × Bool × ByteArray × Int × Int × Int × Bool × Bool × Int → List Value := fun (e, s, ms, z, zb, z1, z2, z3, zg, p, w, d, q, n, g, i) => [.pointer (some ⟨0, 0, some 0⟩), I e, S s, .pointer (some ⟨26, 0, some 0⟩), S ms, I i]
def B30_0 : Int × ByteArray × ByteArray × ByteArray × Bool × Int × Int × Int × Bool × ByteArray × Int × Int × Int × Bool × Bool × Int → List (Option Blk) := fun (e, s, ms, z, zb, z1, z2, z3, zg, p, w, d, q, n, g, i) => [some ⟨[S z, B zb, I z1, I z2, I z3, B zg], 131, true⟩, some ⟨[S p, B n, I w, I d, I q, B g], 131, true⟩]
def S30_0 : LSpec (Int × ByteArray × ByteArray × ByteArray × Bool × Int × Int × Int × Bool × ByteArray × Int × Int × Int × Bool × Bool × Int) where
 live := [2, 3, 4, 6, 7, 8]
 mid := [0, 26]
 n := 120
 dec vs bs := match vs, bs with | [.pointer (some ⟨0, 0, some 0⟩), .int .i64 e, .string s, .pointer (some ⟨26, 0, some 0⟩), .string ms, .int .i64 i], [some ⟨[.string z, .bool zb, .int .i64 z1, .int .i64 z2, .int .i64 z3, .bool zg], 131, true⟩, some ⟨[.string p, .bool n, .int .i64 w, .int .i64 d, .int .i64 q, .bool g], 131, true⟩] => some (e, s, ms, z, zb, z1, z2, z3, zg, p, w, d, q, n, g, i) | _, _ => none
 pre := fun (e, s, ms, z, zb, z1, z2, z3, zg, p, w, d, q, n, g, i) => decide (0 ≤ i ∧ i ≤ ms.size ∧ ms.size = s.size ∧ s.size ≤ 1000 ∧ 0 ≤ d ∧ d ≤ i ∧ 0 ≤ q ∧ q ≤ i)
 fin := fun (e, s, ms, z, zb, z1, z2, z3, zg, p, w, d, q, n, g, i) Z => Z (.exit 0) [.pointer (some ⟨0, 0, some 0⟩), I e, S s, .pointer (some ⟨26, 0, some 0⟩), S ms, I ms.size] [some ⟨[S z, B zb, I z1, I z2, I z3, B zg], 131, true⟩, some ⟨[S p, B n, I w, I (d + pdGo ((bz ms).drop i.toNat)), I (q + pqGo (bz s) ((bz ms).drop i.toNat) i), B g], 131, true⟩]
theorem r30_0 (e : Int) (s : ByteArray) (ms : ByteArray) (z : ByteArray) (zb : Bool) (z1 : Int) (z2 : Int) (z3 : Int) (zg : Bool) (p : ByteArray) (w : Int) (d : Int) (q : Int) (n : Bool) (g : Bool) (i : Int) (jk : Tmps) (R : Exit → List Value → List (Option Blk) → Prop) : (codeQ Tryz.prog G7 noL Tryz.f143.ntmps (loopOf Tryz.f143 0) (tl S30_0.live (V30_0 (e, s, ms, z, zb, z1, z2, z3, zg, p, w, d, q, n, g, i)) jk) (ml S30_0.mid (B30_0 (e, s, ms, z, zb, z1, z2, z3, zg, p, w, d, q, n, g, i))) S30_0.n fun e t' m' _ => R e (List.map t' S30_0.live) (List.map m' S30_0.mid)) = ( bif decide (i < (↑(ByteArray.size ms) : Int)) then bif decide (0 ≤ i ∧ i < (↑(ByteArray.size ms) : Int)) && (byteAt ms (Int.toNat i) == 100 || decide (0 ≤ i ∧ i < (↑(ByteArray.size ms) : Int)) && true) then bif byteAt ms (Int.toNat i) == 100 || byteAt ms (Int.toNat i) == 99 then bif decide ((0 : Int) ≤ 0 ∧ 0 ≤ i ∧ i ≤ (↑(ByteArray.size s) : Int)) then bif decide (ByteArray.size (ByteArray.extract s 0 (Int.toNat i)) ≤ 9223372036854775807) then bif hasZ (bz (ByteArray.extract s 0 (Int.toNat i))) 86 then R Exit.normal [.pointer (some (.mk 0 0 (some 0))), I e, S s, .pointer (some (.mk 26 0 (some 0))), S ms, I (IntKind.wrap .i64 (i + 1))] [some (.mk [S z, B zb, I z1, I z2, I z3, B zg] 131 true), some (.mk [S p, B n, I w, I (IntKind.wrap .i64 (d + 1)), I (IntKind.wrap .i64 (q + 1)), B g] 131 true)] else R Exit.normal [.pointer (some (.mk 0 0 (some 0))), I e, S s, .pointer (some (.mk 26 0 (some 0))), S ms, I (IntKind.wrap .i64 (i + 1))] [some (.mk [S z, B zb, I z1, I z2, I z3, B zg] 131 true), some (.mk [S p, B n, I w, I (IntKind.wrap .i64 (d + 1)), I q, B g] 131 true)] else False else False else R Exit.normal [.pointer (some (.mk 0 0 (some 0))), I e, S s, .pointer (some (.mk 26 0 (some 0))), S ms, I (IntKind.wrap .i64 (i + 1))] [some (.mk [S z, B zb, I z1, I z2, I z3, B zg] 131 true), some (.mk [S p, B n, I w, I d, I q, B g] 131 true)] else False else R (Exit.exit 0) [.pointer (some (.mk 0 0 (some 0))), I e, S s, .pointer (some (.mk 26 0 (some 0))), S ms, I i] [some (.mk [S z, B zb, I z1, I z2, I z3, B zg] 131 true), some (.mk [S p, B n, I w, I d, I q, B g] 131 true)]) := by kernel_rfl
theorem l30_0 : LOKf Tryz.prog (oneL 0 S30_0.h) Tryz.f143 := by
 refine lokf_one (h := S30_0.h) (by kernel_rfl) (loop_specQ ok_G7 hmix (by kernel_rfl) (lok_none _) S30_0 V30_0 B30_0 (fun (e, s, ms, z, zb, z1, z2, z3, zg, p, w, d, q, n, g, i) => (ms.size - i).toNat) ?_ ?_ ?_)
 ·intro vs bs s h
  simp only [S30_0] at h
  split at h
  all_goals first | (cases h; exact ⟨rfl, rfl⟩) | cases h
 ·exact fun _ _ _ h => h
 ·intro ⟨e, s, ms, z, zb, z1, z2, z3, zg, p, w, d, q, n, g, i⟩ jk Z hp hf
  rw [r30_0]
  simp only [S30_0] at hp hf
  simp only [decide_eq_true_eq] at hp
  refine cond_intro (fun h => ?_) (fun h => ?_)
  ·have h := of_decide_eq_true h
   rw [bz_at (s := ms) hp.1 h, pdGo, pqGo] at hf
   have h1 : decide (0 ≤ i ∧ i < (ms.size : Int)) = true := decide_eq_true (by omega)
   have ex : bz (s.extract 0 i.toNat) = (bz s).take i.toNat := by rw [bz_extract]; simp
   have exs : (s.extract 0 i.toNat).size ≤ 1000 := by rw [← bz_length, ex, List.length_take, bz_length]; omega
   refine c_t (by rw [h1]; simp) (cond_intro (fun a => c_t (decide_eq_true (by omega)) (c_t (decide_eq_true (by omega)) ?_)) (fun a => ?_))
   ·have a' : isP (byteAt ms i.toNat) = true := a
    rw [a', cond_true, Bool.true_and] at hf
    rw [ex, w64 (n := d + 1) (by omega), w64 (n := i + 1) (by omega)]
    refine cond_intro (fun b => ?_) (fun b => ?_)
    ·rw [b, cond_true, ← Int.add_assoc, ← Int.add_assoc] at hf
     rw [w64 (n := q + 1) (by omega)]
     exact ⟨(e, s, ms, z, zb, z1, z2, z3, zg, p, w, d + 1, q + 1, n, g, i + 1), rfl, rfl, by simp only [S30_0, decide_eq_true_eq]; omega, by simp only; omega, hf⟩
    ·rw [b, cond_false, Int.zero_add, ← Int.add_assoc] at hf
     exact ⟨(e, s, ms, z, zb, z1, z2, z3, zg, p, w, d + 1, q, n, g, i + 1), rfl, rfl, by simp only [S30_0, decide_eq_true_eq]; omega, by simp only; omega, hf⟩
   ·have a' : isP (byteAt ms i.toNat) = false := a
    rw [a', cond_false, Bool.false_and, cond_false, Int.zero_add, Int.zero_add] at hf
    rw [w64 (by omega)]
    exact ⟨(e, s, ms, z, zb, z1, z2, z3, zg, p, w, d, q, n, g, i + 1), rfl, rfl, by simp only [S30_0, decide_eq_true_eq]; omega, by simp only; omega, hf⟩
  ·have h := of_decide_eq_false h
   rw [bz_end (s := ms) (by omega), pdGo, pqGo, Int.add_zero, Int.add_zero] at hf
   obtain rfl : i = ms.size := by omega
   exact hf
theorem up_rng {c : Int} (h : 0 ≤ c ∧ c < 256) : 0 ≤ upZ c ∧ upZ c < 256 := by unfold upZ; split <;> omega
theorem xp_rng : ∀ (l : List Int) (st n : Int) (out : List Int), IsB l → IsB out → out.length ≤ 32 → IsB (xpGo l st n out).1 ∧ (xpGo l st n out).1.length ≤ 32
 | [], st, n, out, _, h2, h3 => ⟨h2, h3⟩
 | c :: r, st, n, out, h1, h2, h3 => by
  have hc := h1 c (List.mem_cons_self ..)
  have hr : IsB r := fun x hx => h1 x (List.mem_cons_of_mem _ hx)
  have nil : IsB (([], false) : List Int × Bool).1 ∧ (([], false) : List Int × Bool).1.length ≤ 32 := ⟨IsB.nil, Nat.zero_le _⟩
  rw [xpGo]
  by_cases e1 : st = 1
  ·rw [if_pos e1]
   split
   ·split
    ·exact xp_rng r _ _ out hr h2 h3
    ·exact nil
   ·split
    ·exact xp_rng r _ _ out hr h2 h3
    ·exact nil
  ·rw [if_neg e1]
   by_cases e2 : c = 41 ∨ st = 2 ∧ c = 40
   ·rw [if_pos e2]; exact nil
   ·rw [if_neg e2]
    by_cases e3 : c = 40
    ·rw [if_pos e3]
     exact xp_rng r _ _ out hr h2 h3
    ·rw [if_neg e3]
     by_cases hq : hasZ kL (upZ c) = true ∧ (out.length : Int) + (if st = 2 then n else 1) ≤ 32
     ·rw [if_pos hq]
      refine xp_rng r _ _ _ hr (h2.append fun x hx => ?_) ?_
      ·rw [List.eq_of_mem_replicate hx]
       exact up_rng hc
      ·rw [List.length_append]
       simp only [rep1, List.length_replicate]
       have := hq.2
       omega
     ·rw [if_neg hq]; exact nil
theorem ex_rng (s : ByteArray) : IsB (exZ (bz s)) ∧ (exZ (bz s)).length ≤ 32 := by
 unfold exZ
 split
 ·exact xp_rng _ _ _ _ (bz_isB s) IsB.nil (Nat.zero_le _)
 ·exact ⟨IsB.nil, Nat.zero_le _⟩
theorem sz_nil : sz [] = ⟨#[]⟩ := rfl
def s30 (s : ByteArray) : Bool × Value := (decide (s.size ≤ 9223372036854775807), .tuple ⟨[picV (bz s), .int .i64 (pE (bz s))]⟩)
theorem fn30 : Fn1 Tryz.prog 143 Tryz.f143 := ⟨Tryz.func143, by kernel_rfl, by kernel_rfl, by kernel_rfl⟩
theorem v30 (s : ByteArray) (R : Value → Prop) : bodyQ Tryz.prog G7 (oneL 0 S30_0.h) Tryz.f143 [Enc.enc s] (fun _ => none) 0 (fun v _ _ => R v) = ( bif decide (ByteArray.size s ≤ 9223372036854775807) then bif eE (bz s) != 0 then R (.tuple (.mk [.agg (.mk [S (ByteArray.mk #[]), B false, I 0, I 0, I 0, B false]), I (eE (bz s))])) else bif decide (ByteArray.size (sz (exZ (bz s))) ≤ 9223372036854775807) then bif charZ (bz (sz (exZ (bz s)))) then R (.tuple (.mk [.agg (.mk [S (sz (exZ (bz s))), B false, I (↑(ByteArray.size (sz (exZ (bz s)))) : Int), I 0, I 0, B false]), I 0])) else bif decide (ByteArray.size (sz (exZ (bz s))) ≤ 1000) then bif !numV (bz (sz (exZ (bz s)))) then R (.tuple (.mk [.agg (.mk [S (ByteArray.mk #[]), B false, I 0, I 0, I 0, B false]), I 30])) else bif decide (ByteArray.size (sz (exZ (bz s))) ≤ 9223372036854775807) then bif decide (ByteArray.size (sz (exZ (bz s))) ≤ 1000) then bif decide (ByteArray.size (sz (exZ (bz s))) ≤ 1000) then bif LSpec.pre S30_0 (0, sz (exZ (bz s)), sz (marksZ (bz (sz (exZ (bz s))))), ByteArray.mk #[], false, 0, 0, 0, false, sz (exZ (bz s)), IntKind.wrap .i64 ((↑(ByteArray.size (sz (exZ (bz s)))) : Int) - (↑(cntZ (bz (sz (exZ (bz s)))) 86) : Int)), 0, 0, true, signsZ (bz (sz (exZ (bz s)))) == 1, 0) then ∀ (x : Tmps), R (.tuple (.mk [.agg (.mk [S (sz (exZ (bz s))), B true, I (IntKind.wrap .i64 ((↑(ByteArray.size (sz (exZ (bz s)))) : Int) - (↑(cntZ (bz (sz (exZ (bz s)))) 86) : Int))), I (0 + pdGo (List.drop (Int.toNat 0) (bz (sz (marksZ (bz (sz (exZ (bz s))))))))), I (0 + pqGo (bz (sz (exZ (bz s)))) (List.drop (Int.toNat 0) (bz (sz (marksZ (bz (sz (exZ (bz s)))))))) 0), B (signsZ (bz (sz (exZ (bz s)))) == 1)]), I 0])) else False else False else False else False else False else False else False) := by kernel_rfl
theorem ok30 : PureOK Tryz.prog 143 (sp1 s30) := by
 refine qure1 ok_G7 hmix fn30 l30_0 (Nat.le_of_ble_eq_true (by kernel_rfl)) fun s hc => ?_
 rw [DoesQ, v30]
 have hc : (s.size ≤ 9223372036854775807) := of_decide_eq_true hc
 try dsimp only [s30]
 obtain ⟨hb, hl⟩ := ex_rng s
 have hmB := marks_isB (exZ (bz s))
 have hml := marks_len (exZ (bz s))
 have hcn := cnt_le (exZ (bz s)) 86
 rw [bz_sz hb, sz_size]
 refine c_t (decide_eq_true hc) (cond_intro (fun he => ?_) (fun he => ?_))
 ·have ho : exOK (bz s) = false := by
   cases h : exOK (bz s) with
   | false => rfl
   | true => rw [eE, h] at he; cases he
  simp [picV, pS, pN, pW, pD, pQ, pG, pE, eE, vOK, ho, sz_nil]
 ·have ho : exOK (bz s) = true := by
   cases h : exOK (bz s) with
   | true => rfl
   | false => rw [eE, h] at he; cases he
  refine c_t (decide_eq_true (by omega)) (cond_intro (fun hch => ?_) (fun hch => c_t (decide_eq_true (by omega)) (cond_intro (fun hn => ?_) (fun hn => c_t (decide_eq_true (by omega)) (c_t (decide_eq_true (by omega)) (c_t (decide_eq_true (by omega)) (c_t ?_ (fun x => ?_))))))))
  ·simp [picV, pS, pN, pW, pD, pQ, pG, pE, vOK, ho, hch, numV]
  ·have hn : numV (exZ (bz s)) = false := by simpa using hn
   simp [picV, pS, pN, pW, pD, pQ, pG, pE, vOK, ho, hch, hn, sz_nil]
  ·have e1 : (sz (marksZ (exZ (bz s)))).size = (exZ (bz s)).length := by rw [sz_size, hml]
   have e2 : (sz (exZ (bz s))).size = (exZ (bz s)).length := sz_size _
   simp only [S30_0, decide_eq_true_eq, e1]
   omega
  ·have hn : numV (exZ (bz s)) = true := by simpa using hn
   rw [bz_sz hmB, drop0, w64 (by omega)]
   simp [picV, pS, pN, pW, pD, pQ, pG, pE, vOK, ho, hch, hn]
structure Pic where
 s : ByteArray
 n : Bool
 w : Int
 d : Int
 q : Int
 g : Bool
instance : Enc Pic where
 enc p := .agg ⟨[.string p.s, .bool p.n, .int .i64 p.w, .int .i64 p.d, .int .i64 p.q, .bool p.g]⟩
 dec | .agg ⟨[.string a, .bool b, .int .i64 c, .int .i64 d, .int .i64 e, .bool f]⟩ => some ⟨a, b, c, d, e, f⟩ | _ => none
 dec_some := by
  intro v a h
  split at h
  ·cases h; rfl
  ·cases h
 plain_enc _ := rfl
def G8 : Env := Env.nil.add 143 (sp1 s30)
theorem ok_G8 : EnvOK Tryz.prog G8 := env_add env_nil ok30
def tyK (l : List Int) : Int := if vOK l = true then (if pN l = true then 1 else 3) else 0
def tyP (l : List Int) : Int := if vOK l = true then (if pN l = true then pD l else pW l) else 0
def tyV (l : List Int) : Value := .agg ⟨[.int .i64 (tyK l), .int .i64 (tyP l), .int .i64 (pQ l), .bool false, .string ⟨#[]⟩]⟩
def ssZ (c dr : Int) (m : Bool) : Int := bif dr != 0 && c == dr then 32 else bif hasZ [67, 82, 68, 66] c then (bif m then c else 32) else sgZ c m
theorem pE_ne (l : List Int) : (pE l != 0) = !vOK l := by
 unfold pE
 cases vOK l <;> rfl
theorem pE_eq (l : List Int) : (pE l == 0) = vOK l := by
 unfold pE
 cases vOK l <;> rfl
theorem pN_vOK {l : List Int} (h : pN l = true) : vOK l = true := by
 simp only [pN, Bool.and_eq_true] at h
 simp [vOK, h.1, h.2]
theorem pN_and (l : List Int) : (vOK l && pN l) = pN l := by
 cases h : pN l with
 | false => simp
 | true => simp [pN_vOK h]
theorem ld_cnt : ∀ (ms : List Int) (fm bh pt : Bool) (dg : Int), (ldGo ms fm bh pt dg).1 = true → (ldGo ms fm bh pt dg).2.2.2 = dg + pdGo ms
 | [], fm, bh, pt, dg, _ => by simp [ldGo, pdGo]
 | m :: r, fm, bh, pt, dg, h => by
  rw [ldGo] at h ⊢
  rw [pdGo]
  cases h1 : (m == 118) with
  | true =>
   rw [h1, cond_true] at h
   have hm := eq_of_beq h1
   subst hm
   simp only [cond_true, isP]
   rw [ld_cnt r _ _ _ _ h]
   simp
  | false =>
   rw [h1, cond_false] at h
   cases h2 : (m == 100) with
   | true =>
    rw [h2, cond_true] at h
    simp only [cond_true, cond_false, isP, h2, Bool.true_or]
    rw [ld_cnt r _ _ _ _ h]
    omega
   | false =>
    rw [h2, cond_false] at h
    cases h3 : (m == 99) with
    | true =>
     rw [h3, cond_true] at h
     cases fm with
     | true => cases h
     | false =>
      rw [cond_false] at h
      simp only [cond_true, cond_false, isP, h2, h3, Bool.false_or]
      rw [ld_cnt r _ _ _ _ h]
      omega
    | false =>
     rw [h3, cond_false] at h
     simp only [cond_false, isP, h2, h3, Bool.false_or]
     rw [ld_cnt r _ _ _ _ h]
     omega
theorem pd_app : ∀ a b : List Int, pdGo (a ++ b) = pdGo a + pdGo b
 | [], b => by simp [pdGo]
 | m :: r, b => by simp only [List.cons_append, pdGo, pd_app r b]; omega
theorem pq_rng (s : List Int) : ∀ (a : List Int) (i : Int), 0 ≤ pqGo s a i ∧ pqGo s a i ≤ pdGo a
 | [], i => by simp [pqGo, pdGo]
 | m :: r, i => by
  have := pq_rng s r (i + 1)
  simp only [pqGo, pdGo]
  cases isP m <;> cases hasZ (s.take i.toNat) 86 <;> simp <;> omega
theorem body_ncr {s : List Int} (h : (bodyZ s).any (hasZ [65, 88, 67, 68]) = false) : crZ (bodyZ s) = false := by
 cases hc : crZ (bodyZ s) with
 | false => rfl
 | true =>
  exfalso
  simp only [crZ, Bool.and_eq_true, Bool.or_eq_true, decide_eq_true_eq] at hc
  have : ∀ c ∈ bodyZ s, hasZ [65, 88, 67, 68] c = false := by simpa using h
  rcases hc.2 with h1 | h1
  ·have hm : (67 : Int) ∈ (bodyZ s).drop ((bodyZ s).length - 2) := by rw [h1]; simp
   exact absurd (this _ (List.mem_of_mem_drop hm)) (by decide)
  ·have hm : (68 : Int) ∈ (bodyZ s).drop ((bodyZ s).length - 2) := by rw [h1]; simp
   exact absurd (this _ (List.mem_of_mem_drop hm)) (by decide)
theorem marks_body {s : List Int} (h : (bodyZ s).any (hasZ [65, 88, 67, 68]) = false) : marksZ (bodyZ s) = mkGo (drZ (bodyZ s)) false (bodyZ s) := by
 have hc := body_ncr h
 have gen : ∀ l : List Int, crZ l = false → bodyZ l = l := fun l h => by simp [bodyZ, h]
 have hb : bodyZ (bodyZ s) = bodyZ s := gen _ hc
 unfold marksZ
 rw [hb, hc]
 simp
structure NumP (s : List Int) : Prop where
 nch : charZ s = false
 plain : (bodyZ s).any (hasZ [65, 88, 67, 68]) = false
 one : (cntZ (bodyZ s) 86 : Int) ≤ 1
 dr : driftsZ (bodyZ s) = true
 ld : leadsZ (bodyZ s) (mkGo (drZ (bodyZ s)) false (bodyZ s)) = true
 sg : signsZ s ≤ 1
 st : statsZ (bodyZ s) (mkGo (drZ (bodyZ s)) false (bodyZ s)) = true
theorem numV_iff {s : List Int} : numV s = true ↔ NumP s := by
 constructor
 ·intro h
  simp only [numV, Bool.and_eq_true, Bool.not_eq_true', decide_eq_true_eq] at h
  obtain ⟨h1, h2, h3, h4, h5, h6, h7⟩ := h
  rw [marks_body h2] at h5 h7
  exact ⟨h1, h2, h3, h4, h5, h6, h7⟩
 ·rintro ⟨h1, h2, h3, h4, h5, h6, h7⟩
  rw [← marks_body h2] at h5 h7
  simp only [numV, Bool.and_eq_true, Bool.not_eq_true', decide_eq_true_eq]
  exact ⟨h1, h2, h3, h4, h5, h6, h7⟩
theorem num_digits {s : List Int} (h : NumP s) : 1 ≤ pdGo (marksZ s) ∧ pdGo (marksZ s) ≤ 9 := by
 have hl := h.ld
 have e : pdGo (marksZ s) = pdGo (mkGo (drZ (bodyZ s)) false (bodyZ s)) := by
  unfold marksZ
  rw [pd_app]
  split
  ·have : pdGo [115, 115] = 0 := by decide
   omega
  ·simp [pdGo]
 rw [e]
 unfold leadsZ at hl
 cases h1 : (hasZ (bodyZ s) 90 && hasZ (bodyZ s) 42) with
 | true => rw [h1] at hl; cases hl
 | false =>
  rw [h1, cond_false] at hl
  cases h2 : ((hasZ (bodyZ s) 90 || hasZ (bodyZ s) 42) && drZ (bodyZ s) != 0) with
  | true => rw [h2] at hl; cases hl
  | false =>
   rw [h2, cond_false] at hl
   simp only [Bool.and_eq_true, decide_eq_true_eq] at hl
   obtain ⟨g1, g2, g3, _⟩ := hl
   have := ld_cnt _ _ _ _ _ g1
   omega
theorem pN_num {l : List Int} (h : pN l = true) : NumP (exZ l) := by
 simp only [pN, Bool.and_eq_true] at h
 exact numV_iff.1 h.2
theorem pD_rng {l : List Int} (h : pN l = true) : 1 ≤ pD l ∧ pD l ≤ 9 ∧ 0 ≤ pQ l ∧ pQ l ≤ pD l := by
 have h1 := num_digits (pN_num h)
 have h2 := pq_rng (exZ l) (marksZ (exZ l)) 0
 simp only [pD, pQ, h, if_true]
 omega
def s48 (s : ByteArray) : Bool × Value := (decide (s.size ≤ 9223372036854775807), .int .i64 (pE (bz s)))
theorem fn48 : Fn1 Tryz.prog 69 Tryz.f69 := ⟨Tryz.func69, by kernel_rfl, by kernel_rfl, by kernel_rfl⟩
theorem v48 (s : ByteArray) (R : Value → Prop) : bodyQ Tryz.prog G8 noL Tryz.f69 [Enc.enc s] (fun _ => none) 0 (fun v _ _ => R v) = ( bif decide (ByteArray.size s ≤ 9223372036854775807) then R (I (pE (bz s))) else False) := by kernel_rfl
theorem ok48 : PureOK Tryz.prog 69 (sp1 s48) := by
 refine qure1 ok_G8 hmix fn48 lokf_none (Nat.le_of_ble_eq_true (by kernel_rfl)) fun s hc => ?_
 rw [DoesQ, v48]
 have hc : (s.size ≤ 9223372036854775807) := of_decide_eq_true hc
 try dsimp only [s48]
 exact c_t (decide_eq_true hc) rfl
def s49 (s : ByteArray) : Bool × Value := (decide (s.size ≤ 9223372036854775807), .bool (pN (bz s)))
theorem fn49 : Fn1 Tryz.prog 180 Tryz.f180 := ⟨Tryz.func180, by kernel_rfl, by kernel_rfl, by kernel_rfl⟩
theorem v49 (s : ByteArray) (R : Value → Prop) : bodyQ Tryz.prog G8 noL Tryz.f180 [Enc.enc s] (fun _ => none) 0 (fun v _ _ => R v) = ( bif decide (ByteArray.size s ≤ 9223372036854775807) then bif pE (bz s) == 0 || true then R (B (pE (bz s) == 0 && pN (bz s))) else False else False) := by kernel_rfl
theorem ok49 : PureOK Tryz.prog 180 (sp1 s49) := by
 refine qure1 ok_G8 hmix fn49 lokf_none (Nat.le_of_ble_eq_true (by kernel_rfl)) fun s hc => ?_
 rw [DoesQ, v49]
 have hc : (s.size ≤ 9223372036854775807) := of_decide_eq_true hc
 try dsimp only [s49]
 rw [pE_eq]
 exact c_t (decide_eq_true hc) (c_t (by simp) (by rw [pN_and]))
def s47 (s : ByteArray) : Bool × Value := (decide (s.size ≤ 9223372036854775807), .tuple ⟨[tyV (bz s), .int .i64 (pE (bz s))]⟩)
theorem fn47 : Fn1 Tryz.prog 111 Tryz.f111 := ⟨Tryz.func111, by kernel_rfl, by kernel_rfl, by kernel_rfl⟩
theorem v47 (s : ByteArray) (R : Value → Prop) : bodyQ Tryz.prog G8 noL Tryz.f111 [Enc.enc s] (fun _ => none) 0 (fun v _ _ => R v) = ( bif decide (ByteArray.size s ≤ 9223372036854775807) then bif pE (bz s) != 0 then R (.tuple (.mk [.agg (.mk [I 0, I 0, I 0, B false, S (ByteArray.mk #[])]), I (pE (bz s))])) else bif pN (bz s) then R (.tuple (.mk [.agg (.mk [I 1, I (pD (bz s)), I (pQ (bz s)), B false, S (ByteArray.mk #[])]), I 0])) else R (.tuple (.mk [.agg (.mk [I 3, I (pW (bz s)), I 0, B false, S (ByteArray.mk #[])]), I 0])) else False) := by kernel_rfl
theorem ok47 : PureOK Tryz.prog 111 (sp1 s47) := by
 refine qure1 ok_G8 hmix fn47 lokf_none (Nat.le_of_ble_eq_true (by kernel_rfl)) fun s hc => ?_
 rw [DoesQ, v47]
 have hc : (s.size ≤ 9223372036854775807) := of_decide_eq_true hc
 try dsimp only [s47]
 rw [pE_ne]
 refine c_t (decide_eq_true hc) (cond_intro (fun h => ?_) (fun h => ?_))
 ·have h : vOK (bz s) = false := by simpa using h
  have hn : pN (bz s) = false := by
   cases q : pN (bz s) with
   | false => rfl
   | true => rw [pN_vOK q] at h; cases h
  simp [tyV, tyK, tyP, pQ, h, hn]
 ·have h : vOK (bz s) = true := by simpa using h
  refine cond_intro (fun hn => ?_) (fun hn => ?_)
  ·simp [tyV, tyK, tyP, pE, h, hn]
  ·simp [tyV, tyK, tyP, pE, pQ, h, hn]
end Go.Px
end
section
namespace Go.Px
open Go Go.Ab Go.Proofs
def digZ : Int → Nat → List Int
 | _, 0 => []
 | v, n + 1 => digZ (v / 10) n ++ [48 + v % 10]
def endGo : List Int → List Int → Int → Int
 | [], _, o => o
 | m :: r, ds, o => bif (m == 118 || m == 100) || (m == 99 && ds.headD 0 != 48) then o else endGo r (bif m == 99 then ds.tail else ds) (o + 1)
def endZ (ms ds : List Int) (w : Int) (k : Nat) : Int := bif !hasZ ms 99 then 0 else bif !hasZ ms 100 && decide (ds = rep1 48 k) then w else endGo ms ds 0
end Go.Px
end
section
namespace Go.Px
open Go Go.Ab Go.Proofs
def fdGo (le fill dr : Int) (neg : Bool) : List Int → List Int → List Int → Int → List Int
 | [], _, _, _ => []
 | m :: r, sp, ds, o =>
  bif m == 100 then fmZ (sp.headD 0) (ds.headD 0) neg :: fdGo le fill dr neg r sp.tail ds.tail (o + 1)
  else bif m == 99 then (bif decide (o < le) then fill else ds.headD 0) :: fdGo le fill dr neg r sp.tail ds.tail (o + 1)
  else bif m == 105 then (bif sp.headD 0 == 66 then 32 else bif decide (o < le) then fill else sp.headD 0) :: fdGo le fill dr neg r sp.tail ds (o + 1)
  else bif m != 118 then ssZ (sp.headD 0) dr neg :: fdGo le fill dr neg r sp.tail ds (o + 1)
  else fdGo le fill dr neg r sp.tail ds o
def fdFl (sp : List Int) : Int := if hasZ sp 42 = true then 42 else 32
def fdLe (sp : List Int) (w : Int) (k : Nat) (n : Int) : Int := endZ (marksZ sp) (digZ n.natAbs k) w k
def fdBl (sp : List Int) (w : Int) (k : Nat) (n : Int) : Bool := decide (fdLe sp w k n > 0) && (fdLe sp w k n == w && (n == 0 && !hasZ (marksZ sp) 100))
def fdDr (sp : List Int) : Int := bif !hasZ sp 90 && (!hasZ sp 42 && hasZ (marksZ sp) 99) then drZ sp else 0
def fdOut (sp : List Int) (w : Int) (k : Nat) (n : Int) : List Int := fdGo (fdLe sp w k n) (fdFl sp) (fdDr sp) (decide (n < 0)) (marksZ sp) sp (digZ n.natAbs k) 0
def fieldZ (sp : List Int) (w : Int) (k : Nat) (n : Int) : List Int :=
 bif fdBl sp w k n then rep1 (fdFl sp) w.toNat else bif fdDr sp != 0 then (fdOut sp w k n).set (fdLe sp w k n - 1).toNat (sgZ (fdDr sp) (decide (n < 0))) else fdOut sp w k n
def fdOK (sp : List Int) (w : Int) (k : Nat) (n : Int) : Bool := fdBl sp w k n || (fdDr sp == 0 || decide (1 ≤ fdLe sp w k n ∧ fdLe sp w k n ≤ (fdOut sp w k n).length))
def s66 (p : Pic) (n : Int) : Bool × Value := (decide (p.s.size ≤ 900 ∧ 0 ≤ p.d ∧ p.d ≤ 900 ∧ pdGo (marksZ (bz p.s)) ≤ p.d ∧ 0 ≤ p.w ∧ p.w ≤ 900 ∧ -9223372036854775808 ≤ n ∧ n ≤ 9223372036854775807 ∧ fdOK (bz p.s) p.w p.d.toNat n = true), .string (sz (fieldZ (bz p.s) p.w p.d.toNat n)))
end Go.Px
end
section
namespace Go.Px
open Go Go.Ab Go.Proofs
theorem cnt_app (a b : List Int) (c : Int) : cntZ (a ++ b) c = cntZ a c + cntZ b c := by
 simp [cntZ]
theorem body_app (s : List Int) : ∃ t, s = bodyZ s ++ t ∧ (t = [] ∧ crZ s = false ∨ (t = [67, 82] ∨ t = [68, 66]) ∧ crZ s = true) := by
 unfold bodyZ
 by_cases h : crZ s = true
 ·rw [if_pos h]
  refine ⟨s.drop (s.length - 2), (List.take_append_drop ..).symm, .inr ⟨?_, h⟩⟩
  simp only [crZ, Bool.and_eq_true, Bool.or_eq_true, decide_eq_true_eq] at h
  exact h.2
 ·rw [if_neg h]
  exact ⟨[], by simp, .inl ⟨rfl, by simpa using h⟩⟩
theorem dr_sign (s : List Int) : ∀ r : List Int, drGo s r = 0 ∨ (hasZ [36, 83, 43, 45] (drGo s r) = true ∧ drGo s r ∈ r)
 | [] => .inl rfl
 | c :: r => by
  rw [drGo]
  split
  ·rename_i h
   exact .inr ⟨h.1, List.mem_cons_self ..⟩
  ·rcases dr_sign s r with h | ⟨h1, h2⟩
   ·exact .inl h
   ·exact .inr ⟨h1, List.mem_cons_of_mem _ h2⟩
def nv (l : List Int) : Nat := (l.filter (· != 118)).length
theorem nv_cons (m : Int) (r : List Int) : nv (m :: r) = (if m = 118 then 0 else 1) + nv r := by
 unfold nv
 by_cases h : m = 118
 ·simp [h]
 ·simp [h]; omega
theorem nv_app (a b : List Int) : nv (a ++ b) = nv a + nv b := by simp [nv]
theorem mk1_pt {dr : Int} (hd : dr = 0 ∨ hasZ [36, 83, 43, 45] dr = true) (seen : Bool) (c : Int) : mk1 dr seen c = 118 ↔ c = 86 := by
 constructor
 ·intro h
  unfold mk1 at h
  cases h1 : hasZ [57, 89, 84, 73, 82] c with
  | true => rw [h1] at h; cases h
  | false =>
   rw [h1, cond_false] at h
   cases h2 : (hasZ [90, 42] c || (dr != 0 && (c == dr && seen))) with
   | true => rw [h2] at h; cases h
   | false =>
    rw [h2, cond_false] at h
    cases h3 : (c == 86) with
    | true => exact eq_of_beq h3
    | false =>
     rw [h3, cond_false] at h
     cases h4 : (c == 36) <;> cases h5 : hasZ [83, 43, 45] c <;> rw [h4, h5] at h <;> exact absurd h (by decide)
 ·rintro rfl
  unfold mk1
  have h1 : hasZ [57, 89, 84, 73, 82] 86 = false := by decide
  have h2 : hasZ [90, 42] 86 = false := by decide
  have h3 : ((86 : Int) == dr) = false := by
   cases e : ((86 : Int) == dr) with
   | false => rfl
   | true =>
    rw [← eq_of_beq e] at hd
    rcases hd with hd | hd
    ·cases hd
    ·exact absurd hd (by decide)
  rw [h1, h2, h3]
  simp
theorem mk_nv {dr : Int} (hd : dr = 0 ∨ hasZ [36, 83, 43, 45] dr = true) : ∀ (l : List Int) (seen : Bool), nv (mkGo dr seen l) + cntZ l 86 = l.length
 | [], _ => rfl
 | c :: r, seen => by
  have := mk_nv hd r (seen || (dr != 0 && c == dr))
  rw [mkGo, nv_cons, List.length_cons]
  have hc : cntZ (c :: r) 86 = (if c = 86 then 1 else 0) + cntZ r 86 := by
   unfold cntZ
   by_cases h : c = 86
   ·simp [h]; omega
   ·simp [h]
  rw [hc]
  have hm := mk1_pt hd seen c
  by_cases h : c = 86
  ·rw [if_pos h, if_pos (hm.2 h)]; omega
  ·rw [if_neg h, if_neg fun e => h (hm.1 e)]; omega
theorem marks_nv (s : List Int) : nv (marksZ s) + cntZ s 86 = s.length := by
 obtain ⟨t, h, ht⟩ := body_app s
 have h1 := mk_nv (dr := drZ (bodyZ s)) ((dr_sign _ _).imp id And.left) (bodyZ s) false
 unfold marksZ
 rw [nv_app]
 have e : cntZ s 86 = cntZ (bodyZ s) 86 + cntZ t 86 := by
  conv => lhs; rw [h]
  exact cnt_app ..
 have el : s.length = (bodyZ s).length + t.length := by
  conv => lhs; rw [h]
  simp
 rcases ht with ⟨rfl, hc⟩ | ⟨rfl | rfl, hc⟩
 ·rw [if_neg (by simp [hc])]
  have : cntZ [] 86 = 0 := rfl
  have : nv [] = 0 := rfl
  simp only [List.length_nil] at el
  omega
 ·rw [if_pos hc]
  have : cntZ [67, 82] 86 = 0 := by decide
  have : nv [115, 115] = 2 := by decide
  simp only [List.length_cons, List.length_nil] at el
  omega
 ·rw [if_pos hc]
  have : cntZ [68, 66] 86 = 0 := by decide
  have : nv [115, 115] = 2 := by decide
  simp only [List.length_cons, List.length_nil] at el
  omega
end Go.Px
end
section
namespace Go.Px
open Go Go.Ab Go.Proofs
theorem pW_rng {s : ByteArray} : 0 ≤ pW (bz s) ∧ pW (bz s) ≤ 32 := by
 have := ex_rng s
 have hc := cnt_le (exZ (bz s)) 86
 unfold pW
 split
 ·split <;> omega
 ·omega
end Go.Px
end
noncomputable section
namespace Go.Px
open Go Go.Ab Go.Proofs
inductive Rw where
 | nil
 | own (d : List Value) (m cap : Nat)
def Rw.v (q : Nat) : Rw → Value
 | .nil => .slice none 0 0
 | .own _ m cap => .slice (some ⟨q, 0, some 1⟩) m cap
def Rw.b : Rw → Option Blk
 | .nil => none
 | .own d _ _ => some ⟨d, 5, true⟩
def Rw.z : Rw → List Int
 | .nil => []
 | .own d m _ => zc d m
def Rw.ok : Rw → Bool
 | .nil => true
 | .own d m cap => rowOK d m cap
def Rw.is : Rw → Bool
 | .nil => false
 | .own _ _ _ => true
end Go.Px
end
noncomputable section
namespace Go.Px
open Go Go.Ab Go.Proofs
def G15 : Env := Env.nil
theorem ok_G15 : EnvOK Tryz.prog G15 := env_nil
theorem w32 {n : Int} (h : -2147483648 ≤ n ∧ n ≤ 2147483647) : IntKind.wrap .i32 n = n := by
 rw [IntKind.wrap_i32]
 omega
def rpZ (n c : Int) : Int × Bool := if c < 48 ∨ c > 57 ∨ (n = 0 ∧ c = 48) then (0, false) else (10 * n + (c - 48), decide (10 * n + (c - 48) ≤ 32))
def s113 (n : Int) (c : R32) : Bool × Value := (decide (0 ≤ n ∧ n ≤ 32 ∧ 0 ≤ c.n ∧ c.n ≤ 2147483647), .tuple ⟨[.int .i64 (rpZ n c.n).1, .bool (rpZ n c.n).2]⟩)
theorem fn113 : Fn1 Tryz.prog 234 Tryz.f234 := ⟨Tryz.func234, by kernel_rfl, by kernel_rfl, by kernel_rfl⟩
theorem v113 (n : Int) (c : R32) (R : Value → Prop) : bodyQ Tryz.prog G15 noL Tryz.f234 [Enc.enc n, Enc.enc c] (fun _ => none) 0 (fun v _ _ => R v) = ( bif decide (R32.n c < 48) || (decide (R32.n c > 57) || (n == 0 || true)) then bif decide (R32.n c < 48) || (decide (R32.n c > 57) || n == 0 && R32.n c == 48) then R (.tuple (.mk [I 0, B false])) else R (.tuple (.mk [I (IntKind.wrap .i64 (IntKind.wrap .i64 (10 * n) + IntKind.wrap .i64 (IntKind.wrap .i32 (R32.n c - 48)))), B (decide (IntKind.wrap .i64 (IntKind.wrap .i64 (10 * n) + IntKind.wrap .i64 (IntKind.wrap .i32 (R32.n c - 48))) ≤ 32))])) else False) := by kernel_rfl
theorem ok113 : PureOK Tryz.prog 234 (sp2 s113) := by
 refine qure2 ok_G15 hmix fn113 lokf_none (Nat.le_of_ble_eq_true (by kernel_rfl)) fun n c hc => ?_
 rw [DoesQ, v113]
 have hc : (0 ≤ n ∧ n ≤ 32 ∧ 0 ≤ c.n ∧ c.n ≤ 2147483647) := of_decide_eq_true hc
 try dsimp only [s113]
 obtain ⟨c⟩ := c
 simp only at hc ⊢
 refine c_t (by simp) (cond_intro (fun h => ?_) (fun h => ?_))
 ·have h : c < 48 ∨ c > 57 ∨ (n = 0 ∧ c = 48) := by simpa using h
  simp [rpZ, h]
 ·have h : ¬ (c < 48 ∨ c > 57 ∨ (n = 0 ∧ c = 48)) := by
   intro q
   have : (decide (c < 48) || (decide (c > 57) || n == 0 && c == 48)) = true := by simpa using q
   rw [this] at h
   cases h
  rw [w64 (n := 10 * n) (by omega), w32 (n := c - 48) (by omega), w64 (n := c - 48) (by omega), w64 (by omega)]
  simp [rpZ, h]
def G16 : Env := Env.nil.add 272 (sp2 s141)
theorem ok_G16 : EnvOK Tryz.prog G16 := env_add env_nil ok141
def V114_0 : Blk × Int × Int × Rw × Int → List Value := fun (b, c, n, o, i) => [o.v 400, .int .i32 c, I n, I i]
def B114_0 : Blk × Int × Int × Rw × Int → List (Option Blk) := fun (b, c, n, o, i) => [some b, o.b]
def S114_0 : LSpecA (Blk × Int × Int × Rw × Int) where
 live := [0, 1, 31, 32]
 mid := [7, 400]
 n := 420
 ap := [(.tmp 0, 400)]
 dec vs bs := match vs, bs with
  | [.slice none 0 0, .int .i32 c, .int .i64 n, .int .i64 i], [some b, none] => some (b, c, n, .nil, i)
  | [.slice (some ⟨400, 0, some 1⟩) m cap, .int .i32 c, .int .i64 n, .int .i64 i], [some b, some ⟨d, 5, true⟩] => some (b, c, n, .own d m cap, i)
  | _, _ => none
 pre := fun (b, c, n, o, i) => o.ok && ((o.is || decide (i < n)) && (plainL b.c && decide (0 ≤ i ∧ i ≤ n ∧ n ≤ 32 ∧ 0 ≤ c ∧ c < 128 ∧ o.z.length + (n - i).toNat ≤ 1000)))
 fin := fun (b, c, n, o, i) Z => ∀ d' m' cap', rowOK d' m' cap' = true → zc d' m' = o.z ++ rep1 c (n - i).toNat → Z (.exit 0) [.slice (some ⟨400, 0, some 1⟩) m' cap', .int .i32 c, I n, I n] [some b, some ⟨d', 5, true⟩]
theorem r114_0n (b : Blk) (c : Int) (n : Int) (i : Int) (jk : Tmps) (R : Exit → List Value → List (Option Blk) → Prop) : (codeQ Tryz.prog G16 noL Tryz.f235.ntmps (loopOf Tryz.f235 0) (tl S114_0.live (V114_0 (b, c, n, .nil, i)) jk) (ml S114_0.mid (B114_0 (b, c, n, .nil, i))) S114_0.n fun e t' m' _ => S114_0.out R e t' m') = ( bif decide (i < n) then ∀ (cap : Nat) (tail : List Value), tailOK tail cap 1 1 = true → bif goodL [(425, 400)] b.1 && (goodL [(425, 400)] (.int .u8 (IntKind.wrap .u8 c) :: tail) && true) && true then R Exit.normal [.slice (some (.mk 400 0 (some 1))) 1 cap, .int .i32 c, I n, I (IntKind.wrap .i64 (i + 1))] [some (.mk (rlbL [(425, 400)] b.1) (Blk.ty b) (Blk.own b)), some (.mk (rlbL [(425, 400)] (.int .u8 (IntKind.wrap .u8 c) :: tail)) 5 true)] else False else bif goodL [] b.1 && true && true then R (Exit.exit 0) [.slice none 0 0, .int .i32 c, I n, I i] [some (.mk (rlbL [] b.1) (Blk.ty b) (Blk.own b)), none] else False) := by kernel_rfl
theorem r114_0o (b : Blk) (c : Int) (n : Int) (d : List Value) (m : Nat) (cap : Nat) (i : Int) (jk : Tmps) (R : Exit → List Value → List (Option Blk) → Prop) : (codeQ Tryz.prog G16 noL Tryz.f235.ntmps (loopOf Tryz.f235 0) (tl S114_0.live (V114_0 (b, c, n, .own d m cap, i)) jk) (ml S114_0.mid (B114_0 (b, c, n, .own d m cap, i))) S114_0.n fun e t' m' _ => S114_0.out R e t' m') = ( bif decide (i < n) then bif Nat.beq (List.length d) (cap * 1) && Nat.ble m cap && Nat.ble cap 9223372036854775807 && true && fitsA (m + 1) 1 then ∀ (cap : Nat) (tail : List Value), tailOK tail cap (m + 1) 1 = true → bif goodL [(425, 400)] b.1 && (goodL [(425, 400)] (List.take (m * 1) d ++ [.int .u8 (IntKind.wrap .u8 c)] ++ tail) && true) && true then R Exit.normal [.slice (some (.mk 400 0 (some 1))) (m + 1) cap, .int .i32 c, I n, I (IntKind.wrap .i64 (i + 1))] [some (.mk (rlbL [(425, 400)] b.1) (Blk.ty b) (Blk.own b)), some (.mk (rlbL [(425, 400)] (List.take (m * 1) d ++ [.int .u8 (IntKind.wrap .u8 c)] ++ tail)) 5 true)] else False else False else bif goodL [(400, 400)] b.1 && (goodL [(400, 400)] d && true) && true then R (Exit.exit 0) [.slice (some (.mk 400 0 (some 1))) m cap, .int .i32 c, I n, I i] [some (.mk (rlbL [(400, 400)] b.1) (Blk.ty b) (Blk.own b)), some (.mk (rlbL [(400, 400)] d) 5 true)] else False) := by kernel_rfl
theorem l114_0 : LOKf Tryz.prog (oneL 0 S114_0.hA) Tryz.f235 := by
 refine lokf_one (h := S114_0.hA) (by kernel_rfl) (loop_specA ok_G16 hmix (by kernel_rfl) (lok_none _) S114_0 V114_0 B114_0 (fun (b, c, n, o, i) => (n - i).toNat) ?_ ?_ ?_)
 ·intro vs bs s h
  simp only [S114_0] at h
  split at h
  all_goals first | (cases h; exact ⟨rfl, rfl⟩) | cases h | (split at h <;> first | (rename_i hq; cases h; have hq := Nat.eq_of_beq_eq_true hq; subst hq; exact ⟨rfl, rfl⟩) | cases h)
 ·exact fun ⟨b, c, n, o, i⟩ hp => by
   simp only [S114_0, Bool.and_eq_true] at hp
   cases o with
   | nil => simp [V114_0, B114_0, S114_0, idsLt, idsLtB, idsL, ids, Rw.v, Rw.b, ids_plainL hp.2.2.1]
   | own d m cap => simp [V114_0, B114_0, S114_0, idsLt, idsLtB, idsL, ids, Rw.v, Rw.b, ids_plainL hp.2.2.1, ids_plainL (rowOK_iff.1 hp.1).plain]
 ·intro ⟨b, c, n, o, i⟩ jk Z hp hf
  simp only [S114_0] at hp hf
  cases o with
  | nil =>
   rw [r114_0n]
   simp only [Bool.and_eq_true, decide_eq_true_eq] at hp
   obtain ⟨-, hi, hb, hp⟩ := hp
   have hi : i < n := of_decide_eq_true hi
   simp only [Rw.z, List.length_nil] at hp
   have eb : ∀ ps, rlbL ps b.c = b.c := fun ps => rlbL_plain ps hb
   have gb : ∀ ps, goodL ps b.c = true := fun ps => goodL_plain hb
   refine c_t (decide_eq_true hi) (fun cap1 tail ht => ?_)
   rw [w8 (n := c) (by omega)]
   have hh := row_new [c] ht
   have h1 : RowP (.int .u8 c :: tail) 1 cap1 := hh.1
   have h2 : zc (.int .u8 c :: tail) 1 = [c] := hh.2
   refine c_t (by simp [h1.good, gb]) ?_
   rw [h1.rlb, eb, w64 (by omega)]
   refine ⟨(b, c, n, .own _ 1 cap1, i + 1), rfl, rfl, by simp only [S114_0, Bool.and_eq_true, decide_eq_true_eq]; exact ⟨rowOK_iff.2 h1, rfl, hb, by omega, by omega, by omega, by omega, by omega, by simp only [Rw.z, h2, List.length_cons, List.length_nil]; omega⟩, by simp only; omega, ?_⟩
   intro d' m' cap' g1 g2
   refine hf d' m' cap' g1 ?_
   rw [g2]
   simp only [Rw.z]
   rw [h2, show (n - i).toNat = (n - (i + 1)).toNat + 1 by omega, ← rep1_succ]
   rfl
  | own d m cap =>
   rw [r114_0o]
   simp only [Bool.and_eq_true, decide_eq_true_eq] at hp
   obtain ⟨hr, -, hb, hp⟩ := hp
   simp only [Rw.z] at hp
   have eb : ∀ ps, rlbL ps b.c = b.c := fun ps => rlbL_plain ps hb
   have gb : ∀ ps, goodL ps b.c = true := fun ps => goodL_plain hb
   have hr := rowOK_iff.1 hr
   have hzl := zc_length hr
   refine cond_intro (fun h => ?_) (fun h => ?_)
   ·have h := of_decide_eq_true h
    rw [w8 (n := c) (by omega)]
    refine c_t (hr.ask (k := 1) (by omega)) (fun cap1 tail ht => ?_)
    obtain ⟨h1, h2⟩ := hr.app1 c ht
    refine c_t (by rw [h1.good, gb]; rfl) ?_
    rw [h1.rlb, eb, w64 (by omega)]
    have hl1 : (zc (List.take (m * 1) d ++ [Value.int IntKind.u8 c] ++ tail) (m + 1)).length = m + 1 := zc_length h1
    refine ⟨(b, c, n, .own _ (m + 1) cap1, i + 1), rfl, rfl, by simp only [S114_0, Bool.and_eq_true, decide_eq_true_eq]; exact ⟨rowOK_iff.2 h1, rfl, hb, by omega, by omega, by omega, by omega, by omega, by simp only [Rw.z, hl1]; omega⟩, by simp only; omega, ?_⟩
    intro d' m' cap' g1 g2
    refine hf d' m' cap' g1 ?_
    rw [g2]
    simp only [Rw.z]
    rw [h2, show (n - i).toNat = (n - (i + 1)).toNat + 1 by omega, ← rep1_succ, List.append_assoc]
   ·have h := of_decide_eq_false h
    refine c_t (by rw [hr.good, gb]; rfl) ?_
    rw [hr.rlb, eb]
    obtain rfl : i = n := by omega
    exact hf d m cap (rowOK_iff.2 hr) (by simp [Rw.z, rep1])
theorem fn114 : Fn1 Tryz.prog 235 Tryz.f235 := ⟨Tryz.func235, by kernel_rfl, by kernel_rfl, by kernel_rfl⟩
def G17 : Env := (Env.nil.add 234 (sp2 s113)).addG 235 (inlQ Tryz.prog G16 (oneL 0 S114_0.hA) Tryz.f235)
theorem ok_G17 : EnvOK Tryz.prog G17 := env_addG (env_add env_nil ok113) (gen_inlQ ok_G16 hmix fn114 l114_0)
end Go.Px
end
noncomputable section
namespace Go.Px
open Go Go.Ab Go.Proofs
theorem dec_cases {s : ByteArray} {p : Int} (h0 : 0 ≤ p) (h : p < s.size) : (byteAt s p.toNat < 128 → decO s p.toNat = ((byteAt s p.toNat).toNat, 1)) ∧ (128 ≤ byteAt s p.toNat → 128 ≤ (decO s p.toNat).1 ∧ (decO s p.toNat).1 ≤ 2147483647 ∧ 1 ≤ (decO s p.toNat).2) := by
 rw [decO_eq]
 have hs : p.toNat < s.size := by omega
 have e : byteAt s p.toNat = ((s[p.toNat]'hs).toNat : Int) := by
  have hl : p.toNat < s.data.toList.length := by rw [Array.length_toList]; exact hs
  simp only [byteAt, List.getElem?_eq_getElem hl]
  rfl
 rw [e]
 refine ⟨fun h => ?_, fun h => ?_⟩
 ·rw [decode_ascii s _ hs (by omega)]
  rfl
 ·have := decode_high s _ hs (by omega)
  exact ⟨this.1, decode_le s _, this.2⟩
theorem kL_lt {c : Int} (h : hasZ kL c = true) : 0 ≤ c ∧ c < 128 := by
 have : ∀ x ∈ kL, 0 ≤ x ∧ x < 128 := by decide
 exact this c (hasZ_iff.1 h)
theorem xp_n0 : ∀ (l : List Int) (n m : Int) (out : List Int), xpGo l 0 n out = xpGo l 0 m out
 | [], _, _, _ => rfl
 | c :: r, n, m, out => by
  simp only [xpGo]
  rfl
theorem xp_high {c : Int} (h : 128 ≤ c) (r : List Int) (st n : Int) (out : List Int) : xpGo (c :: r) st n out = ([], false) := by
 have hu : upZ c = c := by unfold upZ; rw [if_neg (by omega)]
 have hk : ¬ hasZ kL c = true := fun q => by have := kL_lt q; omega
 have hd : ¬ isDig c = true := fun q => by have := of_decide_eq_true q; omega
 rw [xpGo]
 split
 ·rw [if_neg (by omega), if_neg (fun q => hd q.1)]
 ·rw [if_neg (by omega), if_neg (by omega), hu, if_neg (fun q => hk q.1)]
theorem dec_step {s : ByteArray} {p : Int} (h0 : 0 ≤ p) (h : p < s.size) : 0 ≤ ((decO s p.toNat).1 : Int) ∧ ((decO s p.toNat).1 : Int) ≤ 2147483647 ∧ 1 ≤ ((decO s p.toNat).2 : Int) ∧
  ∀ st n out, xpGo ((bz s).drop p.toNat) st n out = xpGo (((decO s p.toNat).1 : Int) :: (bz s).drop (p + ((decO s p.toNat).2 : Int)).toNat) st n out := by
 obtain ⟨h1, h2⟩ := dec_cases h0 h
 have hb := byte_rng s p.toNat
 by_cases hc : byteAt s p.toNat < 128
 ·have e := h1 hc
  rw [e]
  simp only
  rw [Int.toNat_of_nonneg hb.1]
  refine ⟨hb.1, by omega, by omega, fun st n out => ?_⟩
  rw [bz_at h0 h]
  rfl
 ·obtain ⟨q1, q2, q3⟩ := h2 (by omega)
  refine ⟨by omega, by omega, by omega, fun st n out => ?_⟩
  rw [bz_at h0 h, xp_high (by omega), xp_high (by omega)]
theorem x1 {c st n : Int} {r out : List Int} (h : st = 1) (hc : c = 41) (hn : 0 < n) : xpGo (c :: r) st n out = xpGo r 2 n out := by rw [xpGo, if_pos h, if_pos hc, if_pos hn]
theorem x2 {c st n : Int} {r out : List Int} (h : st = 1) (hc : c = 41) (hn : ¬ 0 < n) : xpGo (c :: r) st n out = ([], false) := by rw [xpGo, if_pos h, if_pos hc, if_neg hn]
theorem x34 {c st n : Int} {r out : List Int} (h : st = 1) (hc : ¬ c = 41) : xpGo (c :: r) st n out = if (rpZ n c).2 = true then xpGo r 1 (rpZ n c).1 out else ([], false) := by
 rw [xpGo, if_pos h, if_neg hc, rpZ]
 by_cases q : c < 48 ∨ c > 57 ∨ (n = 0 ∧ c = 48)
 ·rw [if_pos q, if_neg, if_neg (by simp)]
  simp only [isDig, decide_eq_true_eq]
  omega
 ·rw [if_neg q]
  simp only [isDig, decide_eq_true_eq]
  by_cases q2 : 10 * n + (c - 48) ≤ 32
  ·rw [if_pos (by omega), if_pos q2]
  ·rw [if_neg (by omega), if_neg q2]
theorem rp_rng {n c : Int} (hn : 0 ≤ n) (h : (rpZ n c).2 = true) : 0 ≤ (rpZ n c).1 ∧ (rpZ n c).1 ≤ 32 := by
 unfold rpZ at h ⊢
 split at h
 ·cases h
 ·rename_i q
  rw [if_neg q]
  simp only [decide_eq_true_eq] at h ⊢
  omega
theorem x5 {c st n : Int} {r out : List Int} (h : ¬ st = 1) (hc : c = 41 ∨ st = 2 ∧ c = 40) : xpGo (c :: r) st n out = ([], false) := by rw [xpGo, if_neg h, if_pos hc]
theorem x6 {c st n : Int} {r out : List Int} (h : ¬ st = 1) (hc : ¬ (c = 41 ∨ st = 2 ∧ c = 40)) (h2 : c = 40) : xpGo (c :: r) st n out = xpGo r 1 0 out := by rw [xpGo, if_neg h, if_neg hc, if_pos h2]
theorem x7 {c st n : Int} {r out : List Int} (h : ¬ st = 1) (hc : ¬ (c = 41 ∨ st = 2 ∧ c = 40)) (h2 : ¬ c = 40) : xpGo (c :: r) st n out = if hasZ kL (upZ c) = true ∧ (out.length : Int) + (if st = 2 then n else 1) ≤ 32 then xpGo r 0 0 (out ++ rep1 (upZ c) (if st = 2 then n else 1).toNat) else ([], false) := by rw [xpGo, if_neg h, if_neg hc, if_neg h2]
theorem put_gate {u k : Int} {L : Nat} (hu : 0 ≤ u ∧ u ≤ 2147483647) (hk : 1 ≤ k ∧ k ≤ 32) (hL : L ≤ 32) :
  (decide (u ≥ 128) || decide (0 ≤ IntKind.wrap IntKind.u8 u ∧ IntKind.wrap IntKind.u8 u < 256) && (decide (idxZ (bz (ByteArray.mk #[57, 86, 90, 42, 89, 84, 73, 82, 83, 43, 45, 36, 44, 46, 47, 66, 67, 68, 65, 88])) (IntKind.wrap IntKind.u8 u) < 0) || true)) = true ∧
  (decide (u ≥ 128) || (decide (idxZ (bz (ByteArray.mk #[57, 86, 90, 42, 89, 84, 73, 82, 83, 43, 45, 36, 44, 46, 47, 66, 67, 68, 65, 88])) (IntKind.wrap IntKind.u8 u) < 0) || decide (IntKind.wrap IntKind.i64 (natO L + k) > 32))) = !(decide (hasZ kL u = true ∧ (L : Int) + k ≤ 32)) := by
 have eb : bz (ByteArray.mk #[57, 86, 90, 42, 89, 84, 73, 82, 83, 43, 45, 36, 44, 46, 47, 66, 67, 68, 65, 88]) = kL := by kernel_rfl
 rw [eb, natO_eq, w64 (by omega)]
 by_cases h : u ≥ 128
 ·have hh : ¬ (hasZ kL u = true ∧ (L : Int) + k ≤ 32) := fun q => by have := kL_lt q.1; omega
  rw [decide_eq_true h, decide_eq_false hh]
  exact ⟨rfl, rfl⟩
 ·rw [w8 (by omega), decide_eq_false h, decide_eq_true (show 0 ≤ u ∧ u < 256 by omega)]
  refine ⟨by simp, ?_⟩
  have hi := idx_has u kL
  rw [← hasZ_iff] at hi
  by_cases h1 : hasZ kL u = true
  ·rw [h1] at hi ⊢
   have hi := hi.2.2 rfl
   rw [decide_eq_false (show ¬ idxZ kL u < 0 by omega)]
   by_cases h2 : (L : Int) + k ≤ 32
   ·rw [decide_eq_false (show ¬ (L : Int) + k > 32 by omega), decide_eq_true ⟨rfl, h2⟩]; rfl
   ·rw [decide_eq_true (show (L : Int) + k > 32 by omega), decide_eq_false (fun q => h2 q.2)]; rfl
  ·have hn : idxZ kL u < 0 := by
    have : ¬ 0 ≤ idxZ kL u := fun q => h1 (hi.2.1 q)
    omega
   rw [decide_eq_true hn, decide_eq_false (show ¬ (hasZ kL u = true ∧ (L : Int) + k ≤ 32) from fun q => h1 q.1)]; rfl
theorem put_nil {u k : Int} {p : Int} {s : ByteArray} (hu : 0 ≤ u ∧ u ≤ 2147483647) (hk : 1 ≤ k ∧ k ≤ 32) {A : Prop} {Q : Nat → Nat → List Value → Prop}
  (h1 : ¬ (hasZ kL u = true ∧ ((([] : List Int).length : Nat) : Int) + k ≤ 32) → A)
  (h2 : hasZ kL u = true ∧ ((([] : List Int).length : Nat) : Int) + k ≤ 32 → ∀ d' m' cap', RowP d' m' cap' → zc d' m' = [] ++ rep1 u k.toNat → Q m' cap' d') :
  bif decide (u ≥ 128) || decide (0 ≤ IntKind.wrap IntKind.u8 u ∧ IntKind.wrap IntKind.u8 u < 256) && (decide (idxZ (bz (ByteArray.mk #[57, 86, 90, 42, 89, 84, 73, 82, 83, 43, 45, 36, 44, 46, 47, 66, 67, 68, 65, 88])) (IntKind.wrap IntKind.u8 u) < 0) || true) then
   bif decide (u ≥ 128) || (decide (idxZ (bz (ByteArray.mk #[57, 86, 90, 42, 89, 84, 73, 82, 83, 43, 45, 36, 44, 46, 47, 66, 67, 68, 65, 88])) (IntKind.wrap IntKind.u8 u) < 0) || decide (IntKind.wrap IntKind.i64 (natO 0 + k) > 32)) then A
   else
    bif LSpec.pre (LSpecA.toLSpec S114_0) (Blk.mk [Value.string s, Value.int IntKind.i64 p] 4611686018427387904 true, u, k, Rw.nil, 0) then
     ∀ (d' : List Value) (m' cap' : Nat), rowOK d' m' cap' = true → zc d' m' = Rw.z Rw.nil ++ rep1 u (Int.toNat (k - 0)) →
      bif idsLt 420 d' && true then ∀ (_ : Tmps), bif goodL [(400, 200)] d' && true && true then Q m' cap' d' else False else False
    else False
  else False := by
 obtain ⟨g1, g2⟩ := put_gate (L := 0) hu hk (by omega)
 refine c_t g1 ?_
 rw [g2]
 by_cases hq : hasZ kL u = true ∧ ((0 : Nat) : Int) + k ≤ 32
 ·rw [decide_eq_true hq]
  have hkl := kL_lt hq.1
  refine c_f rfl (c_t ?_ fun d' m' cap' r1 r2 => ?_)
  ·simp only [S114_0, Bool.and_eq_true, decide_eq_true_eq, Rw.ok, Rw.is, Rw.z, List.length_nil, Bool.false_or, true_and, plainL, plain]
   exact ⟨by omega, decide_eq_true (by omega)⟩
  ·have r1 := rowOK_iff.1 r1
   refine c_t (by rw [ids_plainB r1.plain]; rfl) fun x => c_t (by rw [r1.good]; rfl) ?_
   exact h2 hq d' m' cap' r1 (by rw [r2, Int.sub_zero]; rfl)
 ·rw [decide_eq_false hq]
  exact c_t rfl (h1 hq)
theorem put_own {u k : Int} {p : Int} {s : ByteArray} {d : List Value} {m cap : Nat} (hr : RowP d m cap) (hm : m ≤ 32) (hu : 0 ≤ u ∧ u ≤ 2147483647) (hk : 1 ≤ k ∧ k ≤ 32) {A : Prop} {Q : Nat → Nat → List Value → Prop}
  (h1 : ¬ (hasZ kL u = true ∧ ((zc d m).length : Int) + k ≤ 32) → A)
  (h2 : hasZ kL u = true ∧ ((zc d m).length : Int) + k ≤ 32 → ∀ d' m' cap', RowP d' m' cap' → zc d' m' = zc d m ++ rep1 u k.toNat → Q m' cap' d') :
  bif decide (u ≥ 128) || decide (0 ≤ IntKind.wrap IntKind.u8 u ∧ IntKind.wrap IntKind.u8 u < 256) && (decide (idxZ (bz (ByteArray.mk #[57, 86, 90, 42, 89, 84, 73, 82, 83, 43, 45, 36, 44, 46, 47, 66, 67, 68, 65, 88])) (IntKind.wrap IntKind.u8 u) < 0) || true) then
   bif decide (u ≥ 128) || (decide (idxZ (bz (ByteArray.mk #[57, 86, 90, 42, 89, 84, 73, 82, 83, 43, 45, 36, 44, 46, 47, 66, 67, 68, 65, 88])) (IntKind.wrap IntKind.u8 u) < 0) || decide (IntKind.wrap IntKind.i64 (natO m + k) > 32)) then
    bif goodL [] d && true && true then A else False
   else
    bif goodL [(200, 400)] d && true && true && (idsLt 420 d && true) then
     bif LSpec.pre (LSpecA.toLSpec S114_0) (Blk.mk [Value.string s, Value.int IntKind.i64 p] 4611686018427387904 true, u, k, Rw.own d m cap, 0) then
      ∀ (d' : List Value) (m' cap' : Nat), rowOK d' m' cap' = true → zc d' m' = Rw.z (Rw.own d m cap) ++ rep1 u (Int.toNat (k - 0)) →
       bif idsLt 420 d' && true then ∀ (_ : Tmps), bif goodL [(400, 200)] d' && true && true then Q m' cap' d' else False else False
     else False
    else False
  else False := by
 obtain ⟨g1, g2⟩ := put_gate (L := m) hu hk (by omega)
 rw [zc_length hr] at h1 h2
 have hzl := zc_length hr
 refine c_t g1 ?_
 rw [g2, hr.good, hr.good, ids_plainB hr.plain]
 by_cases hq : hasZ kL u = true ∧ (m : Int) + k ≤ 32
 ·rw [decide_eq_true hq]
  have hkl := kL_lt hq.1
  refine c_f rfl (c_t rfl (c_t ?_ fun d' m' cap' r1 r2 => ?_))
  ·simp only [S114_0, Bool.and_eq_true, decide_eq_true_eq, Rw.ok, Rw.is, Rw.z, Bool.true_or, true_and, plainL, plain]
   exact ⟨rowOK_iff.2 hr, decide_eq_true (by omega)⟩
  ·have r1 := rowOK_iff.1 r1
   refine c_t (by rw [ids_plainB r1.plain]; rfl) fun x => c_t (by rw [r1.good]; rfl) ?_
   exact h2 hq d' m' cap' r1 (by rw [r2, Int.sub_zero]; rfl)
 ·rw [decide_eq_false hq]
  exact c_t rfl (c_t rfl (h1 hq))
def V80_0 : ByteArray × Bool × Rw × Int × Int × Bool × ByteArray × Int → List Value := fun (r, rb, o, st, n, f, s, p) => [.string r, .bool rb, o.v 200, .int .i64 st, .int .i64 n, .bool f, .pointer (some ⟨7, 0, some 0⟩)]
def B80_0 : ByteArray × Bool × Rw × Int × Int × Bool × ByteArray × Int → List (Option Blk) := fun (r, rb, o, st, n, f, s, p) => [some ⟨[.string s, .int .i64 p], itTy, true⟩, o.b]
def S80_0 : LSpecA (ByteArray × Bool × Rw × Int × Int × Bool × ByteArray × Int) where
 live := [2, 3, 4, 5, 6, 7, 11]
 mid := [7, 200]
 n := 210
 ap := [(.tmp 4, 200)]
 dec vs bs := match vs, bs with
  | [.string r, .bool rb, .slice none 0 0, .int .i64 st, .int .i64 n, .bool f, .pointer (some ⟨7, 0, some 0⟩)], [some ⟨[.string s, .int .i64 p], ty, true⟩, none] => match Nat.beq ty itTy with | true => some (r, rb, .nil, st, n, f, s, p) | false => none
  | [.string r, .bool rb, .slice (some ⟨200, 0, some 1⟩) m cap, .int .i64 st, .int .i64 n, .bool f, .pointer (some ⟨7, 0, some 0⟩)], [some ⟨[.string s, .int .i64 p], ty, true⟩, some ⟨d, 5, true⟩] => match Nat.beq ty itTy with | true => some (r, rb, .own d m cap, st, n, f, s, p) | false => none
  | _, _ => none
 pre := fun (r, rb, o, st, n, f, s, p) => o.ok && (f && decide (0 ≤ p ∧ s.size ≤ 9223372036854775807 ∧ (st = 0 ∨ st = 1 ∨ (st = 2 ∧ 0 < n)) ∧ 0 ≤ n ∧ n ≤ 32 ∧ o.z.length ≤ 32))
 fin := fun (r, rb, o, st, n, f, s, p) Z => (xpGo ((bz s).drop p.toNat) st n o.z = ([], false) → (∀ st' n' f' p', Z .ret [.string ⟨#[]⟩, .bool false, .slice none 0 0, .int .i64 st', .int .i64 n', .bool f', .pointer (some ⟨7, 0, some 0⟩)] [some ⟨[.string s, .int .i64 p'], itTy, true⟩, none]) ∧ (∀ d' m' cap' st' n' f' p', rowOK d' m' cap' = true → Z .ret [.string ⟨#[]⟩, .bool false, .slice (some ⟨200, 0, some 1⟩) m' cap', .int .i64 st', .int .i64 n', .bool f', .pointer (some ⟨7, 0, some 0⟩)] [some ⟨[.string s, .int .i64 p'], itTy, true⟩, some ⟨d', 5, true⟩]) ∧ (∀ d' st' n' f' p', plainL d' = true → Z .ret [.string ⟨#[]⟩, .bool false, .slice none 0 0, .int .i64 st', .int .i64 n', .bool f', .pointer (some ⟨7, 0, some 0⟩)] [some ⟨[.string s, .int .i64 p'], itTy, true⟩, some ⟨d', 5, true⟩])) ∧ (∀ st' n' f' p', xpGo ((bz s).drop p.toNat) st n o.z = ([], decide (st' = 0)) → Z (.exit 0) [.string r, .bool rb, .slice none 0 0, .int .i64 st', .int .i64 n', .bool f', .pointer (some ⟨7, 0, some 0⟩)] [some ⟨[.string s, .int .i64 p'], itTy, true⟩, none]) ∧ (∀ d' m' cap' st' n' f' p', rowOK d' m' cap' = true → xpGo ((bz s).drop p.toNat) st n o.z = (zc d' m', decide (st' = 0)) → Z (.exit 0) [.string r, .bool rb, .slice (some ⟨200, 0, some 1⟩) m' cap', .int .i64 st', .int .i64 n', .bool f', .pointer (some ⟨7, 0, some 0⟩)] [some ⟨[.string s, .int .i64 p'], itTy, true⟩, some ⟨d', 5, true⟩])
theorem r80_0n (r : ByteArray) (rb : Bool) (st : Int) (n : Int) (f : Bool) (s : ByteArray) (p : Int) (jk : Tmps) (R : Exit → List Value → List (Option Blk) → Prop) : (codeQ Tryz.prog G17 noL Tryz.f188.ntmps (loopOf Tryz.f188 0) (tl S80_0.live (V80_0 (r, rb, .nil, st, n, f, s, p)) jk) (ml S80_0.mid (B80_0 (r, rb, .nil, st, n, f, s, p))) S80_0.n fun e t' m' _ => S80_0.out R e t' m') = ( bif decide (0 ≤ p) then bif decide (p < (↑(ByteArray.size s) : Int)) then bif st == 1 || true then bif st == 1 && (↑(Prod.fst (decO s (Int.toNat p))) : Int) == 41 then bif !decide (n > 0) then R Exit.ret [S (ByteArray.mk #[]), B false, .slice none 0 0, I 2, I n, B (decide (n > 0)), .pointer (some (.mk 7 0 (some 0)))] [some (.mk [S s, I (p + (↑(Prod.snd (decO s (Int.toNat p))) : Int))] 4611686018427387904 true), none] else R Exit.normal [S r, B rb, .slice none 0 0, I 2, I n, B (decide (n > 0)), .pointer (some (.mk 7 0 (some 0)))] [some (.mk [S s, I (p + (↑(Prod.snd (decO s (Int.toNat p))) : Int))] 4611686018427387904 true), none] else bif st == 1 then bif decide (0 ≤ n ∧ n ≤ 32 ∧ 0 ≤ (↑(Prod.fst (decO s (Int.toNat p))) : Int) ∧ (↑(Prod.fst (decO s (Int.toNat p))) : Int) ≤ 2147483647) then bif !Prod.snd (rpZ n (↑(Prod.fst (decO s (Int.toNat p))) : Int)) then R Exit.ret [S (ByteArray.mk #[]), B false, .slice none 0 0, I st, I (Prod.fst (rpZ n (↑(Prod.fst (decO s (Int.toNat p))) : Int))), B (Prod.snd (rpZ n (↑(Prod.fst (decO s (Int.toNat p))) : Int))), .pointer (some (.mk 7 0 (some 0)))] [some (.mk [S s, I (p + (↑(Prod.snd (decO s (Int.toNat p))) : Int))] 4611686018427387904 true), none] else R Exit.normal [S r, B rb, .slice none 0 0, I st, I (Prod.fst (rpZ n (↑(Prod.fst (decO s (Int.toNat p))) : Int))), B (Prod.snd (rpZ n (↑(Prod.fst (decO s (Int.toNat p))) : Int))), .pointer (some (.mk 7 0 (some 0)))] [some (.mk [S s, I (p + (↑(Prod.snd (decO s (Int.toNat p))) : Int))] 4611686018427387904 true), none] else False else bif (↑(Prod.fst (decO s (Int.toNat p))) : Int) == 41 || (st == 2 || true) then bif (↑(Prod.fst (decO s (Int.toNat p))) : Int) == 41 || st == 2 && (↑(Prod.fst (decO s (Int.toNat p))) : Int) == 40 then R Exit.ret [S (ByteArray.mk #[]), B false, .slice none 0 0, I st, I n, B false, .pointer (some (.mk 7 0 (some 0)))] [some (.mk [S s, I (p + (↑(Prod.snd (decO s (Int.toNat p))) : Int))] 4611686018427387904 true), none] else bif (↑(Prod.fst (decO s (Int.toNat p))) : Int) == 40 then bif !f then R Exit.ret [S (ByteArray.mk #[]), B false, .slice none 0 0, I 1, I 0, B f, .pointer (some (.mk 7 0 (some 0)))] [some (.mk [S s, I (p + (↑(Prod.snd (decO s (Int.toNat p))) : Int))] 4611686018427387904 true), none] else R Exit.normal [S r, B rb, .slice none 0 0, I 1, I 0, B f, .pointer (some (.mk 7 0 (some 0)))] [some (.mk [S s, I (p + (↑(Prod.snd (decO s (Int.toNat p))) : Int))] 4611686018427387904 true), none] else bif st == 2 then bif decide ((↑(Prod.fst (decO s (Int.toNat p))) : Int) ≥ 97) || true then bif decide ((↑(Prod.fst (decO s (Int.toNat p))) : Int) ≥ 97) && decide ((↑(Prod.fst (decO s (Int.toNat p))) : Int) ≤ 122) then bif decide (IntKind.wrap .i32 ((↑(Prod.fst (decO s (Int.toNat p))) : Int) - 32) ≥ 128) || decide (0 ≤ IntKind.wrap .u8 (IntKind.wrap .i32 ((↑(Prod.fst (decO s (Int.toNat p))) : Int) - 32)) ∧ IntKind.wrap .u8 (IntKind.wrap .i32 ((↑(Prod.fst (decO s (Int.toNat p))) : Int) - 32)) < 256) && (decide (idxZ (bz (ByteArray.mk #[57, 86, 90, 42, 89, 84, 73, 82, 83, 43, 45, 36, 44, 46, 47, 66, 67, 68, 65, 88])) (IntKind.wrap .u8 (IntKind.wrap .i32 ((↑(Prod.fst (decO s (Int.toNat p))) : Int) - 32))) < 0) || true) then bif decide (IntKind.wrap .i32 ((↑(Prod.fst (decO s (Int.toNat p))) : Int) - 32) ≥ 128) || (decide (idxZ (bz (ByteArray.mk #[57, 86, 90, 42, 89, 84, 73, 82, 83, 43, 45, 36, 44, 46, 47, 66, 67, 68, 65, 88])) (IntKind.wrap .u8 (IntKind.wrap .i32 ((↑(Prod.fst (decO s (Int.toNat p))) : Int) - 32))) < 0) || decide (IntKind.wrap .i64 (natO 0 + n) > 32)) then R Exit.ret [S (ByteArray.mk #[]), B false, .slice none 0 0, I 0, I n, B false, .pointer (some (.mk 7 0 (some 0)))] [some (.mk [S s, I (p + (↑(Prod.snd (decO s (Int.toNat p))) : Int))] 4611686018427387904 true), none] else bif LSpec.pre (LSpecA.toLSpec S114_0) (.mk [S s, I (p + (↑(Prod.snd (decO s (Int.toNat p))) : Int))] 4611686018427387904 true, IntKind.wrap .i32 ((↑(Prod.fst (decO s (Int.toNat p))) : Int) - 32), n, Rw.nil, 0) then ∀ (d' : List Value) (m' cap' : Nat), rowOK d' m' cap' = true → zc d' m' = Rw.z Rw.nil ++ rep1 (IntKind.wrap .i32 ((↑(Prod.fst (decO s (Int.toNat p))) : Int) - 32)) (Int.toNat (n - 0)) → bif idsLt 420 d' && true then ∀ (x : Tmps), bif goodL [(400, 200)] d' && true && true then R Exit.normal [S r, B rb, .slice (some (.mk 200 0 (some 1))) m' cap', I 0, I n, B true, .pointer (some (.mk 7 0 (some 0)))] [some (.mk [S s, I (p + (↑(Prod.snd (decO s (Int.toNat p))) : Int))] 4611686018427387904 true), some (.mk (rlbL [(400, 200)] d') 5 true)] else False else False else False else False else bif decide ((↑(Prod.fst (decO s (Int.toNat p))) : Int) ≥ 128) || decide (0 ≤ IntKind.wrap .u8 (↑(Prod.fst (decO s (Int.toNat p))) : Int) ∧ IntKind.wrap .u8 (↑(Prod.fst (decO s (Int.toNat p))) : Int) < 256) && (decide (idxZ (bz (ByteArray.mk #[57, 86, 90, 42, 89, 84, 73, 82, 83, 43, 45, 36, 44, 46, 47, 66, 67, 68, 65, 88])) (IntKind.wrap .u8 (↑(Prod.fst (decO s (Int.toNat p))) : Int)) < 0) || true) then bif decide ((↑(Prod.fst (decO s (Int.toNat p))) : Int) ≥ 128) || (decide (idxZ (bz (ByteArray.mk #[57, 86, 90, 42, 89, 84, 73, 82, 83, 43, 45, 36, 44, 46, 47, 66, 67, 68, 65, 88])) (IntKind.wrap .u8 (↑(Prod.fst (decO s (Int.toNat p))) : Int)) < 0) || decide (IntKind.wrap .i64 (natO 0 + n) > 32)) then R Exit.ret [S (ByteArray.mk #[]), B false, .slice none 0 0, I 0, I n, B false, .pointer (some (.mk 7 0 (some 0)))] [some (.mk [S s, I (p + (↑(Prod.snd (decO s (Int.toNat p))) : Int))] 4611686018427387904 true), none] else bif LSpec.pre (LSpecA.toLSpec S114_0) (.mk [S s, I (p + (↑(Prod.snd (decO s (Int.toNat p))) : Int))] 4611686018427387904 true, (↑(Prod.fst (decO s (Int.toNat p))) : Int), n, Rw.nil, 0) then ∀ (d' : List Value) (m' cap' : Nat), rowOK d' m' cap' = true → zc d' m' = Rw.z Rw.nil ++ rep1 (↑(Prod.fst (decO s (Int.toNat p))) : Int) (Int.toNat (n - 0)) → bif idsLt 420 d' && true then ∀ (x : Tmps), bif goodL [(400, 200)] d' && true && true then R Exit.normal [S r, B rb, .slice (some (.mk 200 0 (some 1))) m' cap', I 0, I n, B true, .pointer (some (.mk 7 0 (some 0)))] [some (.mk [S s, I (p + (↑(Prod.snd (decO s (Int.toNat p))) : Int))] 4611686018427387904 true), some (.mk (rlbL [(400, 200)] d') 5 true)] else False else False else False else False else False else bif decide ((↑(Prod.fst (decO s (Int.toNat p))) : Int) ≥ 97) || true then bif decide ((↑(Prod.fst (decO s (Int.toNat p))) : Int) ≥ 97) && decide ((↑(Prod.fst (decO s (Int.toNat p))) : Int) ≤ 122) then bif decide (IntKind.wrap .i32 ((↑(Prod.fst (decO s (Int.toNat p))) : Int) - 32) ≥ 128) || decide (0 ≤ IntKind.wrap .u8 (IntKind.wrap .i32 ((↑(Prod.fst (decO s (Int.toNat p))) : Int) - 32)) ∧ IntKind.wrap .u8 (IntKind.wrap .i32 ((↑(Prod.fst (decO s (Int.toNat p))) : Int) - 32)) < 256) && (decide (idxZ (bz (ByteArray.mk #[57, 86, 90, 42, 89, 84, 73, 82, 83, 43, 45, 36, 44, 46, 47, 66, 67, 68, 65, 88])) (IntKind.wrap .u8 (IntKind.wrap .i32 ((↑(Prod.fst (decO s (Int.toNat p))) : Int) - 32))) < 0) || true) then bif decide (IntKind.wrap .i32 ((↑(Prod.fst (decO s (Int.toNat p))) : Int) - 32) ≥ 128) || (decide (idxZ (bz (ByteArray.mk #[57, 86, 90, 42, 89, 84, 73, 82, 83, 43, 45, 36, 44, 46, 47, 66, 67, 68, 65, 88])) (IntKind.wrap .u8 (IntKind.wrap .i32 ((↑(Prod.fst (decO s (Int.toNat p))) : Int) - 32))) < 0) || decide (IntKind.wrap .i64 (natO 0 + 1) > 32)) then R Exit.ret [S (ByteArray.mk #[]), B false, .slice none 0 0, I st, I n, B false, .pointer (some (.mk 7 0 (some 0)))] [some (.mk [S s, I (p + (↑(Prod.snd (decO s (Int.toNat p))) : Int))] 4611686018427387904 true), none] else bif LSpec.pre (LSpecA.toLSpec S114_0) (.mk [S s, I (p + (↑(Prod.snd (decO s (Int.toNat p))) : Int))] 4611686018427387904 true, IntKind.wrap .i32 ((↑(Prod.fst (decO s (Int.toNat p))) : Int) - 32), 1, Rw.nil, 0) then ∀ (d' : List Value) (m' cap' : Nat), rowOK d' m' cap' = true → zc d' m' = Rw.z Rw.nil ++ rep1 (IntKind.wrap .i32 ((↑(Prod.fst (decO s (Int.toNat p))) : Int) - 32)) (Int.toNat (1 - 0)) → bif idsLt 420 d' && true then ∀ (x : Tmps), bif goodL [(400, 200)] d' && true && true then R Exit.normal [S r, B rb, .slice (some (.mk 200 0 (some 1))) m' cap', I st, I n, B true, .pointer (some (.mk 7 0 (some 0)))] [some (.mk [S s, I (p + (↑(Prod.snd (decO s (Int.toNat p))) : Int))] 4611686018427387904 true), some (.mk (rlbL [(400, 200)] d') 5 true)] else False else False else False else False else bif decide ((↑(Prod.fst (decO s (Int.toNat p))) : Int) ≥ 128) || decide (0 ≤ IntKind.wrap .u8 (↑(Prod.fst (decO s (Int.toNat p))) : Int) ∧ IntKind.wrap .u8 (↑(Prod.fst (decO s (Int.toNat p))) : Int) < 256) && (decide (idxZ (bz (ByteArray.mk #[57, 86, 90, 42, 89, 84, 73, 82, 83, 43, 45, 36, 44, 46, 47, 66, 67, 68, 65, 88])) (IntKind.wrap .u8 (↑(Prod.fst (decO s (Int.toNat p))) : Int)) < 0) || true) then bif decide ((↑(Prod.fst (decO s (Int.toNat p))) : Int) ≥ 128) || (decide (idxZ (bz (ByteArray.mk #[57, 86, 90, 42, 89, 84, 73, 82, 83, 43, 45, 36, 44, 46, 47, 66, 67, 68, 65, 88])) (IntKind.wrap .u8 (↑(Prod.fst (decO s (Int.toNat p))) : Int)) < 0) || decide (IntKind.wrap .i64 (natO 0 + 1) > 32)) then R Exit.ret [S (ByteArray.mk #[]), B false, .slice none 0 0, I st, I n, B false, .pointer (some (.mk 7 0 (some 0)))] [some (.mk [S s, I (p + (↑(Prod.snd (decO s (Int.toNat p))) : Int))] 4611686018427387904 true), none] else bif LSpec.pre (LSpecA.toLSpec S114_0) (.mk [S s, I (p + (↑(Prod.snd (decO s (Int.toNat p))) : Int))] 4611686018427387904 true, (↑(Prod.fst (decO s (Int.toNat p))) : Int), 1, Rw.nil, 0) then ∀ (d' : List Value) (m' cap' : Nat), rowOK d' m' cap' = true → zc d' m' = Rw.z Rw.nil ++ rep1 (↑(Prod.fst (decO s (Int.toNat p))) : Int) (Int.toNat (1 - 0)) → bif idsLt 420 d' && true then ∀ (x : Tmps), bif goodL [(400, 200)] d' && true && true then R Exit.normal [S r, B rb, .slice (some (.mk 200 0 (some 1))) m' cap', I st, I n, B true, .pointer (some (.mk 7 0 (some 0)))] [some (.mk [S s, I (p + (↑(Prod.snd (decO s (Int.toNat p))) : Int))] 4611686018427387904 true), some (.mk (rlbL [(400, 200)] d') 5 true)] else False else False else False else False else False else False else False else R (Exit.exit 0) [S r, B rb, .slice none 0 0, I st, I n, B f, .pointer (some (.mk 7 0 (some 0)))] [some (.mk [S s, I p] 4611686018427387904 true), none] else False) := by kernel_rfl
theorem r80_0o (r : ByteArray) (rb : Bool) (d : List Value) (m : Nat) (cap : Nat) (st : Int) (n : Int) (f : Bool) (s : ByteArray) (p : Int) (jk : Tmps) (R : Exit → List Value → List (Option Blk) → Prop) : (codeQ Tryz.prog G17 noL Tryz.f188.ntmps (loopOf Tryz.f188 0) (tl S80_0.live (V80_0 (r, rb, .own d m cap, st, n, f, s, p)) jk) (ml S80_0.mid (B80_0 (r, rb, .own d m cap, st, n, f, s, p))) S80_0.n fun e t' m' _ => S80_0.out R e t' m') = ( bif decide (0 ≤ p) then bif decide (p < (↑(ByteArray.size s) : Int)) then bif st == 1 || true then bif st == 1 && (↑(Prod.fst (decO s (Int.toNat p))) : Int) == 41 then bif !decide (n > 0) then bif goodL [(200, 200)] d && true && true then R Exit.ret [S (ByteArray.mk #[]), B false, .slice (some (.mk 200 0 (some 1))) m cap, I 2, I n, B (decide (n > 0)), .pointer (some (.mk 7 0 (some 0)))] [some (.mk [S s, I (p + (↑(Prod.snd (decO s (Int.toNat p))) : Int))] 4611686018427387904 true), some (.mk (rlbL [(200, 200)] d) 5 true)] else False else bif goodL [(200, 200)] d && true && true then R Exit.normal [S r, B rb, .slice (some (.mk 200 0 (some 1))) m cap, I 2, I n, B (decide (n > 0)), .pointer (some (.mk 7 0 (some 0)))] [some (.mk [S s, I (p + (↑(Prod.snd (decO s (Int.toNat p))) : Int))] 4611686018427387904 true), some (.mk (rlbL [(200, 200)] d) 5 true)] else False else bif st == 1 then bif decide (0 ≤ n ∧ n ≤ 32 ∧ 0 ≤ (↑(Prod.fst (decO s (Int.toNat p))) : Int) ∧ (↑(Prod.fst (decO s (Int.toNat p))) : Int) ≤ 2147483647) then bif !Prod.snd (rpZ n (↑(Prod.fst (decO s (Int.toNat p))) : Int)) then bif goodL [(200, 200)] d && true && true then R Exit.ret [S (ByteArray.mk #[]), B false, .slice (some (.mk 200 0 (some 1))) m cap, I st, I (Prod.fst (rpZ n (↑(Prod.fst (decO s (Int.toNat p))) : Int))), B (Prod.snd (rpZ n (↑(Prod.fst (decO s (Int.toNat p))) : Int))), .pointer (some (.mk 7 0 (some 0)))] [some (.mk [S s, I (p + (↑(Prod.snd (decO s (Int.toNat p))) : Int))] 4611686018427387904 true), some (.mk (rlbL [(200, 200)] d) 5 true)] else False else bif goodL [(200, 200)] d && true && true then R Exit.normal [S r, B rb, .slice (some (.mk 200 0 (some 1))) m cap, I st, I (Prod.fst (rpZ n (↑(Prod.fst (decO s (Int.toNat p))) : Int))), B (Prod.snd (rpZ n (↑(Prod.fst (decO s (Int.toNat p))) : Int))), .pointer (some (.mk 7 0 (some 0)))] [some (.mk [S s, I (p + (↑(Prod.snd (decO s (Int.toNat p))) : Int))] 4611686018427387904 true), some (.mk (rlbL [(200, 200)] d) 5 true)] else False else False else bif (↑(Prod.fst (decO s (Int.toNat p))) : Int) == 41 || (st == 2 || true) then bif (↑(Prod.fst (decO s (Int.toNat p))) : Int) == 41 || st == 2 && (↑(Prod.fst (decO s (Int.toNat p))) : Int) == 40 then bif goodL [(200, 200)] d && true && true then R Exit.ret [S (ByteArray.mk #[]), B false, .slice (some (.mk 200 0 (some 1))) m cap, I st, I n, B false, .pointer (some (.mk 7 0 (some 0)))] [some (.mk [S s, I (p + (↑(Prod.snd (decO s (Int.toNat p))) : Int))] 4611686018427387904 true), some (.mk (rlbL [(200, 200)] d) 5 true)] else False else bif (↑(Prod.fst (decO s (Int.toNat p))) : Int) == 40 then bif !f then bif goodL [(200, 200)] d && true && true then R Exit.ret [S (ByteArray.mk #[]), B false, .slice (some (.mk 200 0 (some 1))) m cap, I 1, I 0, B f, .pointer (some (.mk 7 0 (some 0)))] [some (.mk [S s, I (p + (↑(Prod.snd (decO s (Int.toNat p))) : Int))] 4611686018427387904 true), some (.mk (rlbL [(200, 200)] d) 5 true)] else False else bif goodL [(200, 200)] d && true && true then R Exit.normal [S r, B rb, .slice (some (.mk 200 0 (some 1))) m cap, I 1, I 0, B f, .pointer (some (.mk 7 0 (some 0)))] [some (.mk [S s, I (p + (↑(Prod.snd (decO s (Int.toNat p))) : Int))] 4611686018427387904 true), some (.mk (rlbL [(200, 200)] d) 5 true)] else False else bif st == 2 then bif decide ((↑(Prod.fst (decO s (Int.toNat p))) : Int) ≥ 97) || true then bif decide ((↑(Prod.fst (decO s (Int.toNat p))) : Int) ≥ 97) && decide ((↑(Prod.fst (decO s (Int.toNat p))) : Int) ≤ 122) then bif decide (IntKind.wrap .i32 ((↑(Prod.fst (decO s (Int.toNat p))) : Int) - 32) ≥ 128) || decide (0 ≤ IntKind.wrap .u8 (IntKind.wrap .i32 ((↑(Prod.fst (decO s (Int.toNat p))) : Int) - 32)) ∧ IntKind.wrap .u8 (IntKind.wrap .i32 ((↑(Prod.fst (decO s (Int.toNat p))) : Int) - 32)) < 256) && (decide (idxZ (bz (ByteArray.mk #[57, 86, 90, 42, 89, 84, 73, 82, 83, 43, 45, 36, 44, 46, 47, 66, 67, 68, 65, 88])) (IntKind.wrap .u8 (IntKind.wrap .i32 ((↑(Prod.fst (decO s (Int.toNat p))) : Int) - 32))) < 0) || true) then bif decide (IntKind.wrap .i32 ((↑(Prod.fst (decO s (Int.toNat p))) : Int) - 32) ≥ 128) || (decide (idxZ (bz (ByteArray.mk #[57, 86, 90, 42, 89, 84, 73, 82, 83, 43, 45, 36, 44, 46, 47, 66, 67, 68, 65, 88])) (IntKind.wrap .u8 (IntKind.wrap .i32 ((↑(Prod.fst (decO s (Int.toNat p))) : Int) - 32))) < 0) || decide (IntKind.wrap .i64 (natO m + n) > 32)) then bif goodL [] d && true && true then R Exit.ret [S (ByteArray.mk #[]), B false, .slice none 0 0, I 0, I n, B false, .pointer (some (.mk 7 0 (some 0)))] [some (.mk [S s, I (p + (↑(Prod.snd (decO s (Int.toNat p))) : Int))] 4611686018427387904 true), some (.mk (rlbL [] d) 5 true)] else False else bif goodL [(200, 400)] d && true && true && (idsLt 420 (rlbL [(200, 400)] d) && true) then bif LSpec.pre (LSpecA.toLSpec S114_0) (.mk [S s, I (p + (↑(Prod.snd (decO s (Int.toNat p))) : Int))] 4611686018427387904 true, IntKind.wrap .i32 ((↑(Prod.fst (decO s (Int.toNat p))) : Int) - 32), n, Rw.own (rlbL [(200, 400)] d) m cap, 0) then ∀ (d' : List Value) (m' cap' : Nat), rowOK d' m' cap' = true → zc d' m' = Rw.z (Rw.own (rlbL [(200, 400)] d) m cap) ++ rep1 (IntKind.wrap .i32 ((↑(Prod.fst (decO s (Int.toNat p))) : Int) - 32)) (Int.toNat (n - 0)) → bif idsLt 420 d' && true then ∀ (x : Tmps), bif goodL [(400, 200)] d' && true && true then R Exit.normal [S r, B rb, .slice (some (.mk 200 0 (some 1))) m' cap', I 0, I n, B true, .pointer (some (.mk 7 0 (some 0)))] [some (.mk [S s, I (p + (↑(Prod.snd (decO s (Int.toNat p))) : Int))] 4611686018427387904 true), some (.mk (rlbL [(400, 200)] d') 5 true)] else False else False else False else False else False else bif decide ((↑(Prod.fst (decO s (Int.toNat p))) : Int) ≥ 128) || decide (0 ≤ IntKind.wrap .u8 (↑(Prod.fst (decO s (Int.toNat p))) : Int) ∧ IntKind.wrap .u8 (↑(Prod.fst (decO s (Int.toNat p))) : Int) < 256) && (decide (idxZ (bz (ByteArray.mk #[57, 86, 90, 42, 89, 84, 73, 82, 83, 43, 45, 36, 44, 46, 47, 66, 67, 68, 65, 88])) (IntKind.wrap .u8 (↑(Prod.fst (decO s (Int.toNat p))) : Int)) < 0) || true) then bif decide ((↑(Prod.fst (decO s (Int.toNat p))) : Int) ≥ 128) || (decide (idxZ (bz (ByteArray.mk #[57, 86, 90, 42, 89, 84, 73, 82, 83, 43, 45, 36, 44, 46, 47, 66, 67, 68, 65, 88])) (IntKind.wrap .u8 (↑(Prod.fst (decO s (Int.toNat p))) : Int)) < 0) || decide (IntKind.wrap .i64 (natO m + n) > 32)) then bif goodL [] d && true && true then R Exit.ret [S (ByteArray.mk #[]), B false, .slice none 0 0, I 0, I n, B false, .pointer (some (.mk 7 0 (some 0)))] [some (.mk [S s, I (p + (↑(Prod.snd (decO s (Int.toNat p))) : Int))] 4611686018427387904 true), some (.mk (rlbL [] d) 5 true)] else False else bif goodL [(200, 400)] d && true && true && (idsLt 420 (rlbL [(200, 400)] d) && true) then bif LSpec.pre (LSpecA.toLSpec S114_0) (.mk [S s, I (p + (↑(Prod.snd (decO s (Int.toNat p))) : Int))] 4611686018427387904 true, (↑(Prod.fst (decO s (Int.toNat p))) : Int), n, Rw.own (rlbL [(200, 400)] d) m cap, 0) then ∀ (d' : List Value) (m' cap' : Nat), rowOK d' m' cap' = true → zc d' m' = Rw.z (Rw.own (rlbL [(200, 400)] d) m cap) ++ rep1 (↑(Prod.fst (decO s (Int.toNat p))) : Int) (Int.toNat (n - 0)) → bif idsLt 420 d' && true then ∀ (x : Tmps), bif goodL [(400, 200)] d' && true && true then R Exit.normal [S r, B rb, .slice (some (.mk 200 0 (some 1))) m' cap', I 0, I n, B true, .pointer (some (.mk 7 0 (some 0)))] [some (.mk [S s, I (p + (↑(Prod.snd (decO s (Int.toNat p))) : Int))] 4611686018427387904 true), some (.mk (rlbL [(400, 200)] d') 5 true)] else False else False else False else False else False else False else bif decide ((↑(Prod.fst (decO s (Int.toNat p))) : Int) ≥ 97) || true then bif decide ((↑(Prod.fst (decO s (Int.toNat p))) : Int) ≥ 97) && decide ((↑(Prod.fst (decO s (Int.toNat p))) : Int) ≤ 122) then bif decide (IntKind.wrap .i32 ((↑(Prod.fst (decO s (Int.toNat p))) : Int) - 32) ≥ 128) || decide (0 ≤ IntKind.wrap .u8 (IntKind.wrap .i32 ((↑(Prod.fst (decO s (Int.toNat p))) : Int) - 32)) ∧ IntKind.wrap .u8 (IntKind.wrap .i32 ((↑(Prod.fst (decO s (Int.toNat p))) : Int) - 32)) < 256) && (decide (idxZ (bz (ByteArray.mk #[57, 86, 90, 42, 89, 84, 73, 82, 83, 43, 45, 36, 44, 46, 47, 66, 67, 68, 65, 88])) (IntKind.wrap .u8 (IntKind.wrap .i32 ((↑(Prod.fst (decO s (Int.toNat p))) : Int) - 32))) < 0) || true) then bif decide (IntKind.wrap .i32 ((↑(Prod.fst (decO s (Int.toNat p))) : Int) - 32) ≥ 128) || (decide (idxZ (bz (ByteArray.mk #[57, 86, 90, 42, 89, 84, 73, 82, 83, 43, 45, 36, 44, 46, 47, 66, 67, 68, 65, 88])) (IntKind.wrap .u8 (IntKind.wrap .i32 ((↑(Prod.fst (decO s (Int.toNat p))) : Int) - 32))) < 0) || decide (IntKind.wrap .i64 (natO m + 1) > 32)) then bif goodL [] d && true && true then R Exit.ret [S (ByteArray.mk #[]), B false, .slice none 0 0, I st, I n, B false, .pointer (some (.mk 7 0 (some 0)))] [some (.mk [S s, I (p + (↑(Prod.snd (decO s (Int.toNat p))) : Int))] 4611686018427387904 true), some (.mk (rlbL [] d) 5 true)] else False else bif goodL [(200, 400)] d && true && true && (idsLt 420 (rlbL [(200, 400)] d) && true) then bif LSpec.pre (LSpecA.toLSpec S114_0) (.mk [S s, I (p + (↑(Prod.snd (decO s (Int.toNat p))) : Int))] 4611686018427387904 true, IntKind.wrap .i32 ((↑(Prod.fst (decO s (Int.toNat p))) : Int) - 32), 1, Rw.own (rlbL [(200, 400)] d) m cap, 0) then ∀ (d' : List Value) (m' cap' : Nat), rowOK d' m' cap' = true → zc d' m' = Rw.z (Rw.own (rlbL [(200, 400)] d) m cap) ++ rep1 (IntKind.wrap .i32 ((↑(Prod.fst (decO s (Int.toNat p))) : Int) - 32)) (Int.toNat (1 - 0)) → bif idsLt 420 d' && true then ∀ (x : Tmps), bif goodL [(400, 200)] d' && true && true then R Exit.normal [S r, B rb, .slice (some (.mk 200 0 (some 1))) m' cap', I st, I n, B true, .pointer (some (.mk 7 0 (some 0)))] [some (.mk [S s, I (p + (↑(Prod.snd (decO s (Int.toNat p))) : Int))] 4611686018427387904 true), some (.mk (rlbL [(400, 200)] d') 5 true)] else False else False else False else False else False else bif decide ((↑(Prod.fst (decO s (Int.toNat p))) : Int) ≥ 128) || decide (0 ≤ IntKind.wrap .u8 (↑(Prod.fst (decO s (Int.toNat p))) : Int) ∧ IntKind.wrap .u8 (↑(Prod.fst (decO s (Int.toNat p))) : Int) < 256) && (decide (idxZ (bz (ByteArray.mk #[57, 86, 90, 42, 89, 84, 73, 82, 83, 43, 45, 36, 44, 46, 47, 66, 67, 68, 65, 88])) (IntKind.wrap .u8 (↑(Prod.fst (decO s (Int.toNat p))) : Int)) < 0) || true) then bif decide ((↑(Prod.fst (decO s (Int.toNat p))) : Int) ≥ 128) || (decide (idxZ (bz (ByteArray.mk #[57, 86, 90, 42, 89, 84, 73, 82, 83, 43, 45, 36, 44, 46, 47, 66, 67, 68, 65, 88])) (IntKind.wrap .u8 (↑(Prod.fst (decO s (Int.toNat p))) : Int)) < 0) || decide (IntKind.wrap .i64 (natO m + 1) > 32)) then bif goodL [] d && true && true then R Exit.ret [S (ByteArray.mk #[]), B false, .slice none 0 0, I st, I n, B false, .pointer (some (.mk 7 0 (some 0)))] [some (.mk [S s, I (p + (↑(Prod.snd (decO s (Int.toNat p))) : Int))] 4611686018427387904 true), some (.mk (rlbL [] d) 5 true)] else False else bif goodL [(200, 400)] d && true && true && (idsLt 420 (rlbL [(200, 400)] d) && true) then bif LSpec.pre (LSpecA.toLSpec S114_0) (.mk [S s, I (p + (↑(Prod.snd (decO s (Int.toNat p))) : Int))] 4611686018427387904 true, (↑(Prod.fst (decO s (Int.toNat p))) : Int), 1, Rw.own (rlbL [(200, 400)] d) m cap, 0) then ∀ (d' : List Value) (m' cap' : Nat), rowOK d' m' cap' = true → zc d' m' = Rw.z (Rw.own (rlbL [(200, 400)] d) m cap) ++ rep1 (↑(Prod.fst (decO s (Int.toNat p))) : Int) (Int.toNat (1 - 0)) → bif idsLt 420 d' && true then ∀ (x : Tmps), bif goodL [(400, 200)] d' && true && true then R Exit.normal [S r, B rb, .slice (some (.mk 200 0 (some 1))) m' cap', I st, I n, B true, .pointer (some (.mk 7 0 (some 0)))] [some (.mk [S s, I (p + (↑(Prod.snd (decO s (Int.toNat p))) : Int))] 4611686018427387904 true), some (.mk (rlbL [(400, 200)] d') 5 true)] else False else False else False else False else False else False else False else False else bif goodL [(200, 200)] d && true && true then R (Exit.exit 0) [S r, B rb, .slice (some (.mk 200 0 (some 1))) m cap, I st, I n, B f, .pointer (some (.mk 7 0 (some 0)))] [some (.mk [S s, I p] 4611686018427387904 true), some (.mk (rlbL [(200, 200)] d) 5 true)] else False else False) := by kernel_rfl
theorem l80_0 : LOKf Tryz.prog (oneL 0 S80_0.hA) Tryz.f188 := by
 refine lokf_one (h := S80_0.hA) (by kernel_rfl) (loop_specA ok_G17 hmix (by kernel_rfl) (lok_none _) S80_0 V80_0 B80_0 (fun (r, rb, o, st, n, f, s, p) => (s.size - p).toNat) ?_ ?_ ?_)
 ·intro vs bs s h
  simp only [S80_0] at h
  split at h
  all_goals first | (cases h; exact ⟨rfl, rfl⟩) | cases h | (split at h <;> first | (rename_i hq; cases h; have hq := Nat.eq_of_beq_eq_true hq; subst hq; exact ⟨rfl, rfl⟩) | cases h)
 ·exact fun ⟨r, rb, o, st, n, f, s, p⟩ hp => by
   simp only [S80_0, Bool.and_eq_true] at hp
   cases o with
   | nil => simp [V80_0, B80_0, S80_0, idsLt, idsLtB, idsL, ids, Rw.v, Rw.b]
   | own d m cap => simp [V80_0, B80_0, S80_0, idsLt, idsLtB, idsL, ids, Rw.v, Rw.b, ids_plainL (rowOK_iff.1 hp.1).plain]
 ·intro ⟨r, rb, o, st, n, f, s, p⟩ jk Z hp hf
  simp only [S80_0] at hp hf
  cases o with
  | nil =>
   rw [r80_0n]
   simp only [Bool.and_eq_true, decide_eq_true_eq] at hp
   obtain ⟨-, rfl, hp⟩ := hp
   simp only [Rw.z] at hp hf
   refine c_t (decide_eq_true hp.1) (cond_intro (fun h => ?_) (fun h => ?_))
   ·have h := of_decide_eq_true h
    obtain ⟨k1, k2, k3, k4⟩ := dec_step hp.1 h
    simp only [k4] at hf
    clear k4
    generalize ((decO s p.toNat).1 : Int) = c at k1 k2 hf ⊢
    generalize ((decO s p.toNat).2 : Int) = k at k3 hf ⊢
    have mu : (s.size - (p + k)).toNat < (s.size - p).toNat := by omega
    refine c_t (by simp) (cond_intro (fun a => ?_) (fun a => ?_))
    ·have a : st = 1 ∧ c = 41 := by simpa using a
     refine cond_intro (fun b => ?_) (fun b => ?_)
     ·have b : ¬ 0 < n := by simpa using b
      exact (hf.1 (x2 a.1 a.2 b)).1 _ _ _ _
     ·have b : 0 < n := by simpa using b
      rw [x1 a.1 a.2 b] at hf
      rw [decide_eq_true b]
      exact ⟨(r, rb, .nil, 2, n, true, s, p + k), rfl, rfl, by simp only [S80_0, Bool.and_eq_true, decide_eq_true_eq]; exact ⟨rfl, trivial, by omega, hp.2.1, .inr (.inr ⟨trivial, b⟩), by omega, by omega, Nat.zero_le _⟩, mu, hf⟩
    ·refine cond_intro (fun b => c_t (decide_eq_true ⟨by omega, by omega, k1, k2⟩) ?_) (fun b => ?_)
     ·have b : st = 1 := by simpa using b
      have a : ¬ c = 41 := fun q => by rw [b, q] at a; cases a
      rw [x34 b a] at hf
      refine cond_intro (fun g => ?_) (fun g => ?_)
      ·have g : (rpZ n c).2 = false := by simpa using g
       rw [if_neg (by rw [g]; simp)] at hf
       exact (hf.1 rfl).1 _ _ _ _
      ·have g : (rpZ n c).2 = true := by simpa using g
       have gr := rp_rng hp.2.2.2.1 g
       rw [if_pos g] at hf
       rw [g, b]
       exact ⟨(r, rb, .nil, 1, (rpZ n c).1, true, s, p + k), rfl, rfl, by simp only [S80_0, Bool.and_eq_true, decide_eq_true_eq]; exact ⟨rfl, trivial, by omega, hp.2.1, .inr (.inl trivial), by omega, by omega, Nat.zero_le _⟩, mu, hf⟩
     ·have b : ¬ st = 1 := by simpa using b
      have hst : st = 0 ∨ st = 2 ∧ 0 < n := by omega
      refine c_t (by simp) (cond_intro (fun g => ?_) (fun g => ?_))
      ·have g : c = 41 ∨ st = 2 ∧ c = 40 := by simpa using g
       exact (hf.1 (x5 b g)).1 _ _ _ _
      ·have g : ¬ (c = 41 ∨ st = 2 ∧ c = 40) := by
        intro q
        have : (c == 41 || st == 2 && c == 40) = true := by simpa using q
        rw [this] at g
        cases g
       refine cond_intro (fun q => c_f rfl (?_)) (fun q => ?_)
       ·have q : c = 40 := by simpa using q
        rw [x6 b g q] at hf
        exact ⟨(r, rb, .nil, 1, 0, true, s, p + k), rfl, rfl, by simp only [S80_0, Bool.and_eq_true, decide_eq_true_eq]; exact ⟨rfl, trivial, by omega, hp.2.1, .inr (.inl trivial), by omega, by omega, Nat.zero_le _⟩, mu, hf⟩
       ·have q : ¬ c = 40 := by simpa using q
        rw [x7 b g q] at hf
        refine cond_intro (fun v => ?_) (fun v => ?_)
        ·have v : st = 2 := by simpa using v
         rw [if_pos v] at hf
         refine c_t (by simp) (cond_intro (fun y => ?_) (fun y => ?_))
         ·have y : 97 ≤ c ∧ c ≤ 122 := by simpa using y
          have hu : upZ c = c - 32 := by unfold upZ; rw [if_pos y]
          rw [hu] at hf
          rw [w32 (by omega)]
          refine put_nil ?_ ?_ (fun e => ?_) (fun e d' m' cap' r1 r2 => ?_)
          ·omega
          ·omega
          ·rw [if_neg e] at hf
           exact (hf.1 rfl).1 _ _ _ _
          ·rw [r1.rlb]
           rw [if_pos e, ← r2, xp_n0 _ 0 n] at hf
           have hl := zc_length r1
           have hl2 := congrArg List.length r2
           simp only [List.length_append, rep1, List.length_replicate] at hl2
           simp only [List.length_nil] at e hl2
           exact ⟨(r, rb, .own d' m' cap', 0, n, true, s, p + k), rfl, rfl, by simp only [S80_0, Bool.and_eq_true, decide_eq_true_eq]; exact ⟨rowOK_iff.2 r1, trivial, by omega, hp.2.1, .inl trivial, hp.2.2.2.1, hp.2.2.2.2.1, by simp only [Rw.z, hl]; omega⟩, mu, hf⟩
         ·have y : ¬ (97 ≤ c ∧ c ≤ 122) := by
           intro q
           have : (decide (c ≥ 97) && decide (c ≤ 122)) = true := by simpa using q
           rw [this] at y
           cases y
          have hu : upZ c = c := by unfold upZ; rw [if_neg y]
          rw [hu] at hf
          refine put_nil ?_ ?_ (fun e => ?_) (fun e d' m' cap' r1 r2 => ?_)
          ·omega
          ·omega
          ·rw [if_neg e] at hf
           exact (hf.1 rfl).1 _ _ _ _
          ·rw [r1.rlb]
           rw [if_pos e, ← r2, xp_n0 _ 0 n] at hf
           have hl := zc_length r1
           have hl2 := congrArg List.length r2
           simp only [List.length_append, rep1, List.length_replicate] at hl2
           simp only [List.length_nil] at e hl2
           exact ⟨(r, rb, .own d' m' cap', 0, n, true, s, p + k), rfl, rfl, by simp only [S80_0, Bool.and_eq_true, decide_eq_true_eq]; exact ⟨rowOK_iff.2 r1, trivial, by omega, hp.2.1, .inl trivial, hp.2.2.2.1, hp.2.2.2.2.1, by simp only [Rw.z, hl]; omega⟩, mu, hf⟩
        ·have v : ¬ st = 2 := by simpa using v
         have v0 : st = 0 := by omega
         rw [if_neg v] at hf
         refine c_t (by simp) (cond_intro (fun y => ?_) (fun y => ?_))
         ·have y : 97 ≤ c ∧ c ≤ 122 := by simpa using y
          have hu : upZ c = c - 32 := by unfold upZ; rw [if_pos y]
          rw [hu] at hf
          rw [w32 (by omega), v0]
          refine put_nil ?_ ?_ (fun e => ?_) (fun e d' m' cap' r1 r2 => ?_)
          ·omega
          ·omega
          ·rw [if_neg e] at hf
           exact (hf.1 rfl).1 _ _ _ _
          ·rw [r1.rlb]
           rw [if_pos e, ← r2, xp_n0 _ 0 n] at hf
           have hl := zc_length r1
           have hl2 := congrArg List.length r2
           simp only [List.length_append, rep1, List.length_replicate] at hl2
           simp only [List.length_nil] at e hl2
           exact ⟨(r, rb, .own d' m' cap', 0, n, true, s, p + k), rfl, rfl, by simp only [S80_0, Bool.and_eq_true, decide_eq_true_eq]; exact ⟨rowOK_iff.2 r1, trivial, by omega, hp.2.1, .inl trivial, hp.2.2.2.1, hp.2.2.2.2.1, by simp only [Rw.z, hl]; omega⟩, mu, hf⟩
         ·have y : ¬ (97 ≤ c ∧ c ≤ 122) := by
           intro q
           have : (decide (c ≥ 97) && decide (c ≤ 122)) = true := by simpa using q
           rw [this] at y
           cases y
          have hu : upZ c = c := by unfold upZ; rw [if_neg y]
          rw [hu] at hf
          rw [v0]
          refine put_nil ?_ ?_ (fun e => ?_) (fun e d' m' cap' r1 r2 => ?_)
          ·omega
          ·omega
          ·rw [if_neg e] at hf
           exact (hf.1 rfl).1 _ _ _ _
          ·rw [r1.rlb]
           rw [if_pos e, ← r2, xp_n0 _ 0 n] at hf
           have hl := zc_length r1
           have hl2 := congrArg List.length r2
           simp only [List.length_append, rep1, List.length_replicate] at hl2
           simp only [List.length_nil] at e hl2
           exact ⟨(r, rb, .own d' m' cap', 0, n, true, s, p + k), rfl, rfl, by simp only [S80_0, Bool.and_eq_true, decide_eq_true_eq]; exact ⟨rowOK_iff.2 r1, trivial, by omega, hp.2.1, .inl trivial, hp.2.2.2.1, hp.2.2.2.2.1, by simp only [Rw.z, hl]; omega⟩, mu, hf⟩
   ·have h := of_decide_eq_false h
    rw [bz_end (by omega)] at hf
    exact hf.2.1 st n _ p rfl
  | own d m cap =>
   rw [r80_0o]
   simp only [Bool.and_eq_true, decide_eq_true_eq] at hp
   obtain ⟨hR, rfl, hp⟩ := hp
   have hr := rowOK_iff.1 hR
   have hzl := zc_length hr
   simp only [Rw.z] at hp hf
   have hL : (Rw.own d m cap).z.length ≤ 32 := by simp only [Rw.z]; exact hp.2.2.2.2.2
   have hm : m ≤ 32 := by have := hp.2.2.2.2.2; omega
   simp only [hr.rlb]
   have hg : ∀ ps, (goodL ps d && true && true) = true := fun ps => by rw [hr.good]; rfl
   refine c_t (decide_eq_true hp.1) (cond_intro (fun h => ?_) (fun h => ?_))
   ·have h := of_decide_eq_true h
    obtain ⟨k1, k2, k3, k4⟩ := dec_step hp.1 h
    simp only [k4] at hf
    clear k4
    generalize ((decO s p.toNat).1 : Int) = c at k1 k2 hf ⊢
    generalize ((decO s p.toNat).2 : Int) = k at k3 hf ⊢
    have mu : (s.size - (p + k)).toNat < (s.size - p).toNat := by omega
    refine c_t (by simp) (cond_intro (fun a => ?_) (fun a => ?_))
    ·have a : st = 1 ∧ c = 41 := by simpa using a
     refine cond_intro (fun b => c_t (hg _) ?_) (fun b => c_t (hg _) ?_)
     ·have b : ¬ 0 < n := by simpa using b
      exact (hf.1 (x2 a.1 a.2 b)).2.1 d m cap _ _ _ _ hR
     ·have b : 0 < n := by simpa using b
      rw [x1 a.1 a.2 b] at hf
      rw [decide_eq_true b]
      exact ⟨(r, rb, .own d m cap, 2, n, true, s, p + k), rfl, rfl, by simp only [S80_0, Bool.and_eq_true, decide_eq_true_eq]; exact ⟨hR, trivial, by omega, hp.2.1, .inr (.inr ⟨trivial, b⟩), by omega, by omega, hL⟩, mu, hf⟩
    ·refine cond_intro (fun b => c_t (decide_eq_true ⟨by omega, by omega, k1, k2⟩) ?_) (fun b => ?_)
     ·have b : st = 1 := by simpa using b
      have a : ¬ c = 41 := fun q => by rw [b, q] at a; cases a
      rw [x34 b a] at hf
      refine cond_intro (fun g => c_t (hg _) ?_) (fun g => c_t (hg _) ?_)
      ·have g : (rpZ n c).2 = false := by simpa using g
       rw [if_neg (by rw [g]; simp)] at hf
       exact (hf.1 rfl).2.1 d m cap _ _ _ _ hR
      ·have g : (rpZ n c).2 = true := by simpa using g
       have gr := rp_rng hp.2.2.2.1 g
       rw [if_pos g] at hf
       rw [g, b]
       exact ⟨(r, rb, .own d m cap, 1, (rpZ n c).1, true, s, p + k), rfl, rfl, by simp only [S80_0, Bool.and_eq_true, decide_eq_true_eq]; exact ⟨hR, trivial, by omega, hp.2.1, .inr (.inl trivial), by omega, by omega, hL⟩, mu, hf⟩
     ·have b : ¬ st = 1 := by simpa using b
      have hst : st = 0 ∨ st = 2 ∧ 0 < n := by omega
      refine c_t (by simp) (cond_intro (fun g => c_t (hg _) ?_) (fun g => ?_))
      ·have g : c = 41 ∨ st = 2 ∧ c = 40 := by simpa using g
       exact (hf.1 (x5 b g)).2.1 d m cap _ _ _ _ hR
      ·have g : ¬ (c = 41 ∨ st = 2 ∧ c = 40) := by
        intro q
        have : (c == 41 || st == 2 && c == 40) = true := by simpa using q
        rw [this] at g
        cases g
       refine cond_intro (fun q => c_f rfl (c_t (hg _) ?_)) (fun q => ?_)
       ·have q : c = 40 := by simpa using q
        rw [x6 b g q] at hf
        exact ⟨(r, rb, .own d m cap, 1, 0, true, s, p + k), rfl, rfl, by simp only [S80_0, Bool.and_eq_true, decide_eq_true_eq]; exact ⟨hR, trivial, by omega, hp.2.1, .inr (.inl trivial), by omega, by omega, hL⟩, mu, hf⟩
       ·have q : ¬ c = 40 := by simpa using q
        rw [x7 b g q] at hf
        refine cond_intro (fun v => ?_) (fun v => ?_)
        ·have v : st = 2 := by simpa using v
         rw [if_pos v] at hf
         refine c_t (by simp) (cond_intro (fun y => ?_) (fun y => ?_))
         ·have y : 97 ≤ c ∧ c ≤ 122 := by simpa using y
          have hu : upZ c = c - 32 := by unfold upZ; rw [if_pos y]
          rw [hu] at hf
          rw [w32 (by omega)]
          refine put_own hr hm ?_ ?_ (fun e => ?_) (fun e d' m' cap' r1 r2 => ?_)
          ·omega
          ·omega
          ·rw [if_neg e] at hf
           exact (hf.1 rfl).2.2 d _ _ _ _ hr.plain
          ·rw [r1.rlb]
           rw [if_pos e, ← r2, xp_n0 _ 0 n] at hf
           have hl := zc_length r1
           have hl2 := congrArg List.length r2
           simp only [List.length_append, rep1, List.length_replicate] at hl2
           simp only [hzl] at e hl2
           exact ⟨(r, rb, .own d' m' cap', 0, n, true, s, p + k), rfl, rfl, by simp only [S80_0, Bool.and_eq_true, decide_eq_true_eq]; exact ⟨rowOK_iff.2 r1, trivial, by omega, hp.2.1, .inl trivial, hp.2.2.2.1, hp.2.2.2.2.1, by simp only [Rw.z, hl]; omega⟩, mu, hf⟩
         ·have y : ¬ (97 ≤ c ∧ c ≤ 122) := by
           intro q
           have : (decide (c ≥ 97) && decide (c ≤ 122)) = true := by simpa using q
           rw [this] at y
           cases y
          have hu : upZ c = c := by unfold upZ; rw [if_neg y]
          rw [hu] at hf
          refine put_own hr hm ?_ ?_ (fun e => ?_) (fun e d' m' cap' r1 r2 => ?_)
          ·omega
          ·omega
          ·rw [if_neg e] at hf
           exact (hf.1 rfl).2.2 d _ _ _ _ hr.plain
          ·rw [r1.rlb]
           rw [if_pos e, ← r2, xp_n0 _ 0 n] at hf
           have hl := zc_length r1
           have hl2 := congrArg List.length r2
           simp only [List.length_append, rep1, List.length_replicate] at hl2
           simp only [hzl] at e hl2
           exact ⟨(r, rb, .own d' m' cap', 0, n, true, s, p + k), rfl, rfl, by simp only [S80_0, Bool.and_eq_true, decide_eq_true_eq]; exact ⟨rowOK_iff.2 r1, trivial, by omega, hp.2.1, .inl trivial, hp.2.2.2.1, hp.2.2.2.2.1, by simp only [Rw.z, hl]; omega⟩, mu, hf⟩
        ·have v : ¬ st = 2 := by simpa using v
         have v0 : st = 0 := by omega
         rw [if_neg v] at hf
         refine c_t (by simp) (cond_intro (fun y => ?_) (fun y => ?_))
         ·have y : 97 ≤ c ∧ c ≤ 122 := by simpa using y
          have hu : upZ c = c - 32 := by unfold upZ; rw [if_pos y]
          rw [hu] at hf
          rw [w32 (by omega), v0]
          refine put_own hr hm ?_ ?_ (fun e => ?_) (fun e d' m' cap' r1 r2 => ?_)
          ·omega
          ·omega
          ·rw [if_neg e] at hf
           exact (hf.1 rfl).2.2 d _ _ _ _ hr.plain
          ·rw [r1.rlb]
           rw [if_pos e, ← r2, xp_n0 _ 0 n] at hf
           have hl := zc_length r1
           have hl2 := congrArg List.length r2
           simp only [List.length_append, rep1, List.length_replicate] at hl2
           simp only [hzl] at e hl2
           exact ⟨(r, rb, .own d' m' cap', 0, n, true, s, p + k), rfl, rfl, by simp only [S80_0, Bool.and_eq_true, decide_eq_true_eq]; exact ⟨rowOK_iff.2 r1, trivial, by omega, hp.2.1, .inl trivial, hp.2.2.2.1, hp.2.2.2.2.1, by simp only [Rw.z, hl]; omega⟩, mu, hf⟩
         ·have y : ¬ (97 ≤ c ∧ c ≤ 122) := by
           intro q
           have : (decide (c ≥ 97) && decide (c ≤ 122)) = true := by simpa using q
           rw [this] at y
           cases y
          have hu : upZ c = c := by unfold upZ; rw [if_neg y]
          rw [hu] at hf
          rw [v0]
          refine put_own hr hm ?_ ?_ (fun e => ?_) (fun e d' m' cap' r1 r2 => ?_)
          ·omega
          ·omega
          ·rw [if_neg e] at hf
           exact (hf.1 rfl).2.2 d _ _ _ _ hr.plain
          ·rw [r1.rlb]
           rw [if_pos e, ← r2, xp_n0 _ 0 n] at hf
           have hl := zc_length r1
           have hl2 := congrArg List.length r2
           simp only [List.length_append, rep1, List.length_replicate] at hl2
           simp only [hzl] at e hl2
           exact ⟨(r, rb, .own d' m' cap', 0, n, true, s, p + k), rfl, rfl, by simp only [S80_0, Bool.and_eq_true, decide_eq_true_eq]; exact ⟨rowOK_iff.2 r1, trivial, by omega, hp.2.1, .inl trivial, hp.2.2.2.1, hp.2.2.2.2.1, by simp only [Rw.z, hl]; omega⟩, mu, hf⟩
   ·have h := of_decide_eq_false h
    rw [bz_end (by omega)] at hf
    exact c_t (hg _) (hf.2.2 d m cap st n _ p hR rfl)
def s80 (s : ByteArray) : Bool × Value := (decide (s.size ≤ 9223372036854775807), .tuple ⟨[.string (sz (xpGo (bz s) 0 0 []).1), .bool (exOK (bz s))]⟩)
theorem fn80 : Fn1 Tryz.prog 188 Tryz.f188 := ⟨Tryz.func188, by kernel_rfl, by kernel_rfl, by kernel_rfl⟩
theorem v80 (s : ByteArray) (R : Value → Prop) : bodyQ Tryz.prog G17 (oneL 0 S80_0.hA) Tryz.f188 [Enc.enc s] (fun _ => none) 0 (fun v _ _ => R v) = ( bif LSpec.pre (LSpecA.toLSpec S80_0) (ByteArray.mk #[], false, Rw.nil, 0, 0, true, s, 0) then (xpGo (List.drop (Int.toNat 0) (bz s)) 0 0 (Rw.z Rw.nil) = ([], false) → (∀ (st' n' : Int) (f' : Bool) (p' : Int) (x : Tmps), R (.tuple (.mk [S (ByteArray.mk #[]), B false]))) ∧ (∀ (d' : List Value) (m' cap' : Nat) (st' n' : Int) (f' : Bool) (p' : Int), rowOK d' m' cap' = true → bif idsLt 210 d' && true then ∀ (x : Tmps), R (.tuple (.mk [S (ByteArray.mk #[]), B false])) else False) ∧ ∀ (d' : List Value) (st' n' : Int) (f' : Bool) (p' : Int), plainL d' = true → bif idsLt 210 d' && true then ∀ (x : Tmps), R (.tuple (.mk [S (ByteArray.mk #[]), B false])) else False) ∧ (∀ (st' n' : Int) (f' : Bool) (p' : Int), xpGo (List.drop (Int.toNat 0) (bz s)) 0 0 (Rw.z Rw.nil) = ([], decide (st' = 0)) → ∀ (x : Tmps), bif st' == 0 || true then R (.tuple (.mk [S (bif st' == 0 then ByteArray.empty else ByteArray.empty), B (st' == 0 && decide (natO 0 > 0))])) else False) ∧ ∀ (d' : List Value) (m' cap' : Nat) (st' n' : Int) (f' : Bool) (p' : Int), rowOK d' m' cap' = true → xpGo (List.drop (Int.toNat 0) (bz s)) 0 0 (Rw.z Rw.nil) = (zc d' m', decide (st' = 0)) → bif idsLt 210 d' && true then ∀ (x : Tmps), bif bytesOK d' 0 m' && (st' == 0 || true) then R (.tuple (.mk [S (bif st' == 0 then bytesOf d' 0 m' else bytesOf d' 0 m'), B (st' == 0 && decide (natO m' > 0))])) else False else False else False) := by kernel_rfl
theorem ok80 : PureOK Tryz.prog 188 (sp1 s80) := by
 refine qure1 ok_G17 hmix fn80 l80_0 (Nat.le_of_ble_eq_true (by kernel_rfl)) fun s hc => ?_
 rw [DoesQ, v80]
 have hc : (s.size ≤ 9223372036854775807) := of_decide_eq_true hc
 try dsimp only [s80]
 refine c_t ?_ ⟨fun h => ?_, fun st' n' f' p' h x => ?_, fun d' m' cap' st' n' f' p' hr h => ?_⟩
 ·simp only [S80_0, Rw.ok, Rw.z, Bool.true_and]
  exact decide_eq_true ⟨by omega, by omega, .inl trivial, by omega, by omega, by simp⟩
 ·have h : xpGo (bz s) 0 0 [] = ([], false) := h
  have e : exOK (bz s) = false := by simp [exOK, h]
  rw [h, e]
  exact ⟨fun _ _ _ _ _ => rfl, fun d' m' cap' _ _ _ _ hr => c_t (by rw [ids_plainB (rowOK_iff.1 hr).plain]; rfl) fun _ => rfl, fun d' _ _ _ _ hp => c_t (by rw [ids_plainB hp]; rfl) fun _ => rfl⟩
 ·have h : xpGo (bz s) 0 0 [] = ([], decide (st' = 0)) := h
  have e : exOK (bz s) = false := by simp [exOK, h]
  rw [h, e]
  refine c_t (by simp) ?_
  rw [natO_eq]
  have e1 : (bif st' == 0 then ByteArray.empty else ByteArray.empty) = sz [] := by cases st' == 0 <;> rfl
  have e2 : (st' == 0 && decide (((0 : Nat) : Int) > 0)) = false := by simp
  rw [e1, e2]
 ·have h : xpGo (bz s) 0 0 [] = (zc d' m', decide (st' = 0)) := h
  have hr := rowOK_iff.1 hr
  have hl := zc_length hr
  refine c_t (by rw [ids_plainB hr.plain]; rfl) fun x => c_t (by rw [hr.str.1]; simp) ?_
  rw [hr.str.2, natO_eq]
  have e1 : (bif st' == 0 then sz (zc d' m') else sz (zc d' m')) = sz (zc d' m') := by cases st' == 0 <;> rfl
  have e2 : exOK (bz s) = (st' == 0 && decide ((m' : Int) > 0)) := by
   rw [exOK, h]
   simp only
   rw [Bool.eq_iff_iff]
   simp only [Bool.and_eq_true, decide_eq_true_eq, beq_iff_eq, Bool.not_eq_true', List.isEmpty_eq_false_iff]
   constructor
   ·rintro ⟨a, b⟩
    have := List.length_pos_iff.2 b
    exact ⟨a, by omega⟩
   ·rintro ⟨a, b⟩
    exact ⟨a, fun q => by rw [q] at hl; simp at hl; omega⟩
  rw [e1, e2, h]
end Go.Px
end
noncomputable section
namespace Go.Px
open Go Go.Ab Go.Proofs Go.Shelf
theorem c280 : Callable Tryz.prog 280 := cal Tryz.func280 (by kernel_rfl) (by kernel_rfl)
def lastZ : List Int → Int → Int
 | [], _ => -1
 | b :: l, c => if lastZ l c = -1 then (if b = c then 0 else -1) else lastZ l c + 1
theorem lastZ_spec (c : Int) : ∀ l : List Int, (lastZ l c = -1 ∧ ∀ j, j < l.length → l.getD j 0 ≠ c) ∨ (∃ i : Nat, i < l.length ∧ lastZ l c = i ∧ l.getD i 0 = c ∧ ∀ j, i < j → j < l.length → l.getD j 0 ≠ c)
 | [] => .inl ⟨rfl, fun j h => by simp at h⟩
 | b :: l => by
  rcases lastZ_spec c l with ⟨e, h⟩ | ⟨i, hi, e, hc, h⟩
  ·simp only [lastZ, e, if_true]
   by_cases hb : b = c
   ·rw [if_pos hb]
    refine .inr ⟨0, by simp, rfl, by simpa using hb, fun j h1 h2 => ?_⟩
    obtain ⟨j, rfl⟩ : ∃ k, j = k + 1 := ⟨j - 1, by omega⟩
    simpa using h j (by simpa using h2)
   ·rw [if_neg hb]
    refine .inl ⟨rfl, fun j h1 => ?_⟩
    cases j with
    | zero => simpa using hb
    | succ j => simpa using h j (by simpa using h1)
  ·simp only [lastZ]
   rw [if_neg (by omega), e]
   refine .inr ⟨i + 1, by simpa using hi, by omega, by simpa using hc, fun j h1 h2 => ?_⟩
   obtain ⟨j, rfl⟩ : ∃ k, j = k + 1 := ⟨j - 1, by omega⟩
   simpa using h j (by omega) (by simpa using h2)
theorem last_zl (s : ByteArray) (c : Int) : Lib.lastIndexByte s c = lastZ (bz s) c := by
 have hd : ∀ j, j < s.size → ((s.data[j]!).toNat : Int) = (bz s).getD j 0 := fun j hj => by
  have hj' : j < s.data.size := hj
  rw [getElem!_pos s.data j hj']
  simp only [bz, List.getD_eq_getElem?_getD, List.getElem?_map, Array.getElem?_toList]
  rw [Array.getElem?_eq_getElem hj']
  rfl
 rcases Lib.lastIndexByte_spec s c with ⟨e, h⟩ | ⟨i, hi, e, hc, h⟩ <;> rcases lastZ_spec c (bz s) with ⟨e', h'⟩ | ⟨i', hi', e', hc', h'⟩
 ·rw [e, e']
 ·rw [bz_length] at hi'
  exact absurd hc' (by rw [← hd i' hi']; exact h i' hi')
 ·rw [hd i hi] at hc
  exact absurd hc (h' i (by rw [bz_length]; exact hi))
 ·rw [bz_length] at hi' h'
  rw [hd i hi] at hc
  rw [e, e']
  rcases Nat.lt_trichotomy i i' with q | q | q
  ·exact absurd hc' (by rw [← hd i' hi']; exact h i' q hi')
  ·rw [q]
  ·exact absurd hc (h' i q hi)
theorem last_rng (l : List Int) (c : Int) : -1 ≤ lastZ l c ∧ lastZ l c < l.length := by
 rcases lastZ_spec c l with ⟨e, _⟩ | ⟨i, hi, e, _⟩ <;> omega
def s280 (s : ByteArray) (c : U8) : Bool × Value := (decide (s.size ≤ 1000), .int .i64 (lastZ (bz s) c.n))
theorem ok280 : PureOK Tryz.prog 280 (sp2 s280) := shelf2 c280 fun s c hc w _ => by
 refine (Any.strings_LastIndexByte Tryz.lays149 s c.n (by have : s.size ≤ 1000 := of_decide_eq_true hc; omega) w).mono fun e w' ⟨h1, h2⟩ => ⟨?_, below_of_eq h2⟩
 rw [h1, last_zl]
 rfl
end Go.Px
end
noncomputable section
namespace Go.Px
open Go Go.Ab Go.Proofs Go.Shelf
structure VwP (d : List Value) (m : Nat) : Prop where
 bytes : isBytes d = true
 len : d.length = m
 rng : IsB (d.map iv)
def vwOK (d : List Value) (m : Nat) : Bool := isBytes d && (Nat.beq d.length m && (d.map iv).all fun c => decide (0 ≤ c ∧ c < 256))
theorem vwOK_iff {d : List Value} {m : Nat} : vwOK d m = true ↔ VwP d m := by
 simp only [vwOK, Bool.and_eq_true, Nat.beq_eq, List.all_eq_true, decide_eq_true_eq]
 exact ⟨fun ⟨a, b, c⟩ => ⟨a, b, c⟩, fun ⟨a, b, c⟩ => ⟨a, b, c⟩⟩
theorem isBytes_plain {d : List Value} (h : isBytes d = true) : plainL d = true := by
 rw [← cz_of h]
 exact cz_plain _
theorem VwP.plain {d : List Value} {m : Nat} (h : VwP d m) : plainL d = true := isBytes_plain h.bytes
theorem vw_str (s : ByteArray) : VwP (Lib.strCells s) s.size ∧ zc (Lib.strCells s) s.size = bz s := by
 rw [strCells_eq]
 have e : (cz (bz s)).map iv = bz s := by
  rw [cz, List.map_map]
  have : (iv ∘ fun n : Int => Value.int .u8 n) = id := by funext n; rfl
  rw [this, List.map_id]
 refine ⟨⟨cz_isBytes _, by simp, by rw [e]; exact bz_isB s⟩, ?_⟩
 rw [zc, List.take_of_length_le (by simp), e]
theorem VwP.zlen {d : List Value} {m : Nat} (h : VwP d m) : (zc d m).length = m := by
 simp only [zc, List.length_map, List.length_take, h.len]
 omega
theorem at_bytes : ∀ {d : List Value} {j : Nat}, isBytes d = true → j < d.length → isIntAt .u8 d j = true ∧ intAt d j = (d.map iv).getD j 0
 | .int .u8 n :: r, 0, _, _ => ⟨rfl, rfl⟩
 | .int .u8 n :: r, j + 1, h, hj => by
  have := at_bytes (d := r) (j := j) (by simpa [isBytes] using h) (by simpa using hj)
  simpa [isIntAt, intAt] using this
theorem VwP.at {d : List Value} {m : Nat} (h : VwP d m) {j : Int} (h0 : 0 ≤ j) (hj : j < m) : isIntAt .u8 d j.toNat = true ∧ (0 ≤ intAt d j.toNat ∧ intAt d j.toNat < 256) ∧ (zc d m).drop j.toNat = intAt d j.toNat :: (zc d m).drop (j + 1).toNat := by
 have hl := h.len
 obtain ⟨q1, q2⟩ := at_bytes h.bytes (j := j.toNat) (by omega)
 refine ⟨q1, ?_, ?_⟩
 ·rw [q2, List.getD_eq_getElem?_getD]
  cases hh : (d.map iv)[j.toNat]? with
  | none => simp
  | some c => exact h.rng c (List.mem_of_getElem? hh)
 have e : zc d m = d.map iv := by rw [zc, List.take_of_length_le (by omega)]
 rw [e, q2, getD_drop _ _ (by rw [List.length_map]; omega), show (j + 1).toNat = j.toNat + 1 by omega]
theorem VwP.good {d : List Value} {m : Nat} (h : VwP d m) (ps : List (Nat × Nat)) : (goodL ps d && true && true) = true := by rw [goodL_plain h.plain]; rfl
theorem VwP.rlb {d : List Value} {m : Nat} (h : VwP d m) (ps : List (Nat × Nat)) : rlbL ps d = d := rlbL_plain ps h.plain
theorem VwP.end {d : List Value} {m : Nat} (h : VwP d m) {j : Int} (hj : (m : Int) ≤ j) : (zc d m).drop j.toNat = [] := List.drop_eq_nil_of_le (by rw [h.zlen]; omega)
def k5 : List Int := [44, 46, 47, 66, 86]
theorem idx_neg (l : List Int) (c : Int) : decide (idxZ l c < 0) = !hasZ l c := by
 have := idx_has c l
 rw [← hasZ_iff] at this
 cases h : hasZ l c with
 | true => rw [h] at this; have := this.2.2 rfl; simp; omega
 | false =>
  rw [h] at this
  have : ¬ 0 ≤ idxZ l c := fun q => by have := this.2.1 q; cases this
  simp
  omega
theorem ch_at {i : Int} (h0 : 0 ≤ i) (h : i < 4) : ∃ c, intAt [Value.int IntKind.u8 36, Value.int IntKind.u8 83, Value.int IntKind.u8 43, Value.int IntKind.u8 45] (0 + i.toNat * 1) = c ∧
  isIntAt IntKind.u8 [Value.int IntKind.u8 36, Value.int IntKind.u8 83, Value.int IntKind.u8 43, Value.int IntKind.u8 45] (0 + i.toNat * 1) = true ∧
  oneB (Utf8.encode c) = true ∧ (bz (Utf8.encode c)).getD 0 0 = c ∧ (0 < c ∧ c < 128) ∧ List.drop i.toNat [36, 83, 43, 45] = c :: List.drop (i + 1).toNat [36, 83, 43, 45] := by
 have : i = 0 ∨ i = 1 ∨ i = 2 ∨ i = 3 := by omega
 rcases this with rfl | rfl | rfl | rfl
 ·exact ⟨36, rfl, rfl, by kernel_rfl, by kernel_rfl, by omega, rfl⟩
 ·exact ⟨83, rfl, rfl, by kernel_rfl, by kernel_rfl, by omega, rfl⟩
 ·exact ⟨43, rfl, rfl, by kernel_rfl, by kernel_rfl, by omega, rfl⟩
 ·exact ⟨45, rfl, rfl, by kernel_rfl, by kernel_rfl, by omega, rfl⟩
theorem idx_lt (c : Int) : ∀ {l : List Int}, c ∈ l → 0 ≤ idxZ l c ∧ idxZ l c < l.length
 | b :: l, h => by
  simp only [idxZ]
  by_cases hb : b = c
  ·rw [if_pos hb]; simp only [List.length_cons]; omega
  ·rw [if_neg hb]
   have := idx_lt c (l := l) (by rcases List.mem_cons.1 h with q | q; exact absurd q.symm hb; exact q)
   rw [if_neg (by omega)]
   simp only [List.length_cons]
   omega
theorem idx_last (c : Int) : ∀ {l : List Int}, c ∈ l → idxZ l c ≤ lastZ l c
 | b :: l, h => by
  simp only [idxZ, lastZ]
  have := last_rng l c
  by_cases hl : c ∈ l
  ·have ih := idx_last c hl
   have i1 := idx_lt c hl
   rw [if_neg (show ¬ lastZ l c = -1 by omega)]
   split
   ·omega
   ·split <;> omega
  ·have hb : b = c := by rcases List.mem_cons.1 h with q | q; exact q.symm; exact absurd q hl
   rw [if_pos hb, if_pos hb]
   split <;> omega
theorem cnt_mem {l : List Int} {c : Int} (h : ¬ (cntZ l c : Int) < 2) : c ∈ l := by
 have : 0 < cntZ l c := by omega
 unfold cntZ at this
 obtain ⟨x, hx⟩ := List.exists_mem_of_length_pos this
 obtain ⟨h1, h2⟩ := List.mem_filter.1 hx
 exact eq_of_beq h2 ▸ h1
def drP (c : Int) (l : List Int) : Bool := l.all fun x => x == c || hasZ k5 x
def drC (b : List Int) (c : Int) : Bool := !hasZ (b.take (idxZ b c).toNat) 86 && drP c ((b.take (lastZ b c + 1).toNat).drop (idxZ b c).toNat)
def drfGo : List Int → List Int → Int → Int → Bool × Int × Int
 | [], _, d, f => (true, d, f)
 | c :: r, b, d, f => bif decide ((cntZ b c : Int) < 2) then drfGo r b d f else bif d != 0 then (false, 0, 0) else bif drC b c then drfGo r b c (idxZ b c) else (false, 0, 0)
def G20 : Env := (((Env.nil.add 272 (sp2 s141)).add 279 (sp2 s157)).add 129 (sp2 s132)).add 280 (sp2 s280)
theorem ok_G20 : EnvOK Tryz.prog G20 := env_add (env_add (env_add (env_add env_nil ok141) ok157) ok132) ok280
def V131_2 : ByteArray × Bool × Int × Int × Int × ByteArray × Int × Int × Bool × List Value × Nat × Nat × Int × Int → List Value := fun (b, r, c, L4, i, s, dr, f, cr, d, m, cap, L, j) => [.pointer (some ⟨3, 0, some 0⟩), S b, B r, C8 c, .slice (some ⟨300, 0, some 1⟩) 4 4, I L4, I i, .slice (some ⟨390, 0, some 1⟩) m cap, I L, I j]
def B131_2 : ByteArray × Bool × Int × Int × Int × ByteArray × Int × Int × Bool × List Value × Nat × Nat × Int × Int → List (Option Blk) := fun (b, r, c, L4, i, s, dr, f, cr, d, m, cap, L, j) => [some ⟨[S s, B true, I 0, I 0, I 0, B false, .slice none 0 0, C8 dr, I f, B cr, C8 32, I 0], 156, true⟩, some ⟨[C8 36, C8 83, C8 43, C8 45], 5, false⟩, some ⟨d, 5, false⟩]
def S131_2 : LSpecA (ByteArray × Bool × Int × Int × Int × ByteArray × Int × Int × Bool × List Value × Nat × Nat × Int × Int) where
 live := [0, 1, 4, 6, 14, 15, 16, 58, 59, 60]
 mid := [3, 300, 390]
 n := 400
 ap := [(.tmp 58, 390)]
 dec vs bs := match vs, bs with | [.pointer (some ⟨3, 0, some 0⟩), .string b, .bool r, .int .u8 c, .slice (some ⟨300, 0, some 1⟩) 4 4, .int .i64 L4, .int .i64 i, .slice (some ⟨390, 0, some 1⟩) m cap, .int .i64 L, .int .i64 j], [some ⟨[.string s, .bool true, .int .i64 0, .int .i64 0, .int .i64 0, .bool false, .slice none 0 0, .int .u8 dr, .int .i64 f, .bool cr, .int .u8 32, .int .i64 0], 156, true⟩, some ⟨[.int .u8 36, .int .u8 83, .int .u8 43, .int .u8 45], 5, false⟩, some ⟨d, 5, false⟩] => some (b, r, c, L4, i, s, dr, f, cr, d, m, cap, L, j) | _, _ => none
 pre := fun (b, r, c, L4, i, s, dr, f, cr, d, m, cap, L, j) => vwOK d m && decide (0 ≤ j ∧ j ≤ m ∧ m ≤ 100 ∧ L = m)
 fin := fun (b, r, c, L4, i, s, dr, f, cr, d, m, cap, L, j) Z => (bif drP c ((zc d m).drop j.toNat) then Z (.exit 2) [.pointer (some ⟨3, 0, some 0⟩), S b, B r, C8 c, .slice (some ⟨300, 0, some 1⟩) 4 4, I L4, I i, .slice (some ⟨390, 0, some 1⟩) m cap, I L, I m] [some ⟨[S s, B true, I 0, I 0, I 0, B false, .slice none 0 0, C8 dr, I f, B cr, C8 32, I 0], 156, true⟩, some ⟨[C8 36, C8 83, C8 43, C8 45], 5, false⟩, some ⟨d, 5, false⟩] else ∀ j', Z .ret [.pointer (some ⟨3, 0, some 0⟩), S b, B false, C8 c, .slice (some ⟨300, 0, some 1⟩) 4 4, I L4, I i, .slice (some ⟨390, 0, some 1⟩) m cap, I L, I j'] [some ⟨[S s, B true, I 0, I 0, I 0, B false, .slice none 0 0, C8 dr, I f, B cr, C8 32, I 0], 156, true⟩, some ⟨[C8 36, C8 83, C8 43, C8 45], 5, false⟩, some ⟨d, 5, false⟩])
theorem r131_2 (b : ByteArray) (r : Bool) (c : Int) (L4 : Int) (i : Int) (s : ByteArray) (dr : Int) (f : Int) (cr : Bool) (d : List Value) (m : Nat) (cap : Nat) (L : Int) (j : Int) (jk : Tmps) (R : Exit → List Value → List (Option Blk) → Prop) : (codeQ Tryz.prog G20 noL Tryz.f244.ntmps (loopOf Tryz.f244 2) (tl S131_2.live (V131_2 (b, r, c, L4, i, s, dr, f, cr, d, m, cap, L, j)) jk) (ml S131_2.mid (B131_2 (b, r, c, L4, i, s, dr, f, cr, d, m, cap, L, j))) S131_2.n fun e t' m' _ => S131_2.out R e t' m') = ( bif decide (j < L) then bif decide (0 ≤ j ∧ j < (↑m : Int)) then bif isIntAt IntKind.u8 d (0 + Int.toNat j * 1) then bif bif intAt d (0 + Int.toNat j * 1) != c then decide (0 ≤ intAt d (0 + Int.toNat j * 1) ∧ intAt d (0 + Int.toNat j * 1) < 256) && true else true then bif intAt d (0 + Int.toNat j * 1) != c && decide (idxZ (bz (ByteArray.mk #[44, 46, 47, 66, 86])) (intAt d (0 + Int.toNat j * 1)) < 0) then bif goodL [(390, 390)] d && true && true then R Exit.ret [.pointer (some (.mk 3 0 (some 0))), S b, B false, .int .u8 c, .slice (some (.mk 300 0 (some 1))) 4 4, I L4, I i, .slice (some (.mk 390 0 (some 1))) m cap, I L, I j] [some (.mk [S s, B true, I 0, I 0, I 0, B false, .slice none 0 0, .int .u8 dr, I f, B cr, .int .u8 32, I 0] 156 true), some (.mk [.int .u8 36, .int .u8 83, .int .u8 43, .int .u8 45] 5 false), some (.mk (rlbL [(390, 390)] d) 5 false)] else False else bif goodL [(390, 390)] d && true && true then R Exit.normal [.pointer (some (.mk 3 0 (some 0))), S b, B r, .int .u8 c, .slice (some (.mk 300 0 (some 1))) 4 4, I L4, I i, .slice (some (.mk 390 0 (some 1))) m cap, I L, I (IntKind.wrap .i64 (j + 1))] [some (.mk [S s, B true, I 0, I 0, I 0, B false, .slice none 0 0, .int .u8 dr, I f, B cr, .int .u8 32, I 0] 156 true), some (.mk [.int .u8 36, .int .u8 83, .int .u8 43, .int .u8 45] 5 false), some (.mk (rlbL [(390, 390)] d) 5 false)] else False else False else False else False else bif goodL [(390, 390)] d && true && true then R (Exit.exit 2) [.pointer (some (.mk 3 0 (some 0))), S b, B r, .int .u8 c, .slice (some (.mk 300 0 (some 1))) 4 4, I L4, I i, .slice (some (.mk 390 0 (some 1))) m cap, I L, I j] [some (.mk [S s, B true, I 0, I 0, I 0, B false, .slice none 0 0, .int .u8 dr, I f, B cr, .int .u8 32, I 0] 156 true), some (.mk [.int .u8 36, .int .u8 83, .int .u8 43, .int .u8 45] 5 false), some (.mk (rlbL [(390, 390)] d) 5 false)] else False) := by kernel_rfl
theorem l131_2 : ∀ t m n K, S131_2.hA t m n K → Ab.Sem Tryz.prog Tryz.f244.ntmps (.loop (loopOf Tryz.f244 2)) t m n K := by
 refine loop_specA ok_G20 hmix (by kernel_rfl) (lok_none _) S131_2 V131_2 B131_2 (fun (b, r, c, L4, i, s, dr, f, cr, d, m, cap, L, j) => (m - j).toNat) ?_ ?_ ?_
 ·intro vs bs s h
  simp only [S131_2] at h
  split at h
  all_goals first | (cases h; exact ⟨rfl, rfl⟩) | cases h | (split at h <;> first | (rename_i hq; cases h; have hq := Nat.eq_of_beq_eq_true hq; subst hq; exact ⟨rfl, rfl⟩) | cases h)
 ·exact fun ⟨b, r, c, L4, i, s, dr, f, cr, d, m, cap, L, j⟩ hp => by
   simp only [S131_2, Bool.and_eq_true] at hp
   simp [V131_2, B131_2, S131_2, idsLt, idsLtB, idsL, ids, ids_plainL (vwOK_iff.1 hp.1).plain]
 ·intro ⟨b, r, c, L4, i, s, dr, f, cr, d, m, cap, L, j⟩ jk Z hp hf
  rw [r131_2]
  simp only [S131_2] at hp hf
  simp only [Bool.and_eq_true, decide_eq_true_eq] at hp
  obtain ⟨hv, hp⟩ := hp
  have hV := hv
  have hv := vwOK_iff.1 hv
  have k : bz ⟨#[44, 46, 47, 66, 86]⟩ = k5 := rfl
  rw [k, Nat.mul_one, Nat.zero_add]
  simp only [hv.rlb]
  refine cond_intro (fun h => ?_) (fun h => ?_)
  ·have h := of_decide_eq_true h
   obtain ⟨a1, a2, a3⟩ := hv.at hp.1 (by omega)
   rw [a3] at hf
   rw [decide_eq_true a2, idx_neg]
   have e : drP c (intAt d j.toNat :: List.drop (j + 1).toNat (zc d m)) = ((intAt d j.toNat == c || hasZ k5 (intAt d j.toNat)) && drP c (List.drop (j + 1).toNat (zc d m))) := rfl
   rw [e] at hf
   refine c_t (decide_eq_true (by omega)) (c_t a1 (c_t (by cases (intAt d j.toNat != c) <;> rfl) (cond_intro (fun q => c_t (hv.good _) ?_) (fun q => c_t (hv.good _) ?_))))
   ·have q' : (intAt d j.toNat == c || hasZ k5 (intAt d j.toNat)) = false := by
     simp only [Bool.and_eq_true, bne_iff_ne, Bool.not_eq_true'] at q
     rw [q.2, Bool.or_false]
     simpa using q.1
    rw [q', Bool.false_and, cond_false] at hf
    exact hf j
   ·have q' : (intAt d j.toNat == c || hasZ k5 (intAt d j.toNat)) = true := by
     cases h1 : (intAt d j.toNat == c) with
     | true => rfl
     | false =>
      have h2 : (intAt d j.toNat != c) = true := by rw [bne, h1]; rfl
      rw [h2, Bool.true_and, Bool.not_eq_false'] at q
      rw [q]
      rfl
    rw [q', Bool.true_and] at hf
    rw [w64 (by omega)]
    exact ⟨(b, r, c, L4, i, s, dr, f, cr, d, m, cap, L, j + 1), rfl, rfl, by simp only [S131_2, Bool.and_eq_true, decide_eq_true_eq]; exact ⟨hV, by omega⟩, by simp only; omega, hf⟩
  ·have h := of_decide_eq_false h
   rw [hv.end (by omega), drP, List.all_nil, cond_true] at hf
   obtain rfl : j = m := by omega
   exact c_t (hv.good _) hf
theorem lk131 : LOK Tryz.prog (oneL 2 S131_2.hA) Tryz.f244.ntmps (loopOf Tryz.f244 0) := lok_one (by kernel_rfl) l131_2
def V131_0 : ByteArray × Bool × Int × Int × ByteArray × Int × Int × Bool → List Value := fun (b, r, L4, i, s, dr, f, cr) => [.pointer (some ⟨3, 0, some 0⟩), S b, B r, .slice (some ⟨300, 0, some 1⟩) 4 4, I L4, I i]
def B131_0 : ByteArray × Bool × Int × Int × ByteArray × Int × Int × Bool → List (Option Blk) := fun (b, r, L4, i, s, dr, f, cr) => [some ⟨[S s, B true, I 0, I 0, I 0, B false, .slice none 0 0, C8 dr, I f, B cr, C8 32, I 0], 156, true⟩, some ⟨[C8 36, C8 83, C8 43, C8 45], 5, false⟩]
def S131_0 : LSpecA (ByteArray × Bool × Int × Int × ByteArray × Int × Int × Bool) where
 live := [0, 1, 4, 14, 15, 16]
 mid := [3, 300]
 n := 310
 ap := [(.tmp 14, 300)]
 dec vs bs := match vs, bs with | [.pointer (some ⟨3, 0, some 0⟩), .string b, .bool r, .slice (some ⟨300, 0, some 1⟩) 4 4, .int .i64 L4, .int .i64 i], [some ⟨[.string s, .bool true, .int .i64 0, .int .i64 0, .int .i64 0, .bool false, .slice none 0 0, .int .u8 dr, .int .i64 f, .bool cr, .int .u8 32, .int .i64 0], 156, true⟩, some ⟨[.int .u8 36, .int .u8 83, .int .u8 43, .int .u8 45], 5, false⟩] => some (b, r, L4, i, s, dr, f, cr) | _, _ => none
 pre := fun (b, r, L4, i, s, dr, f, cr) => decide (L4 = 4 ∧ 0 ≤ i ∧ i ≤ 4 ∧ b.size ≤ 100 ∧ 0 ≤ dr ∧ dr < 256)
 fin := fun (b, r, L4, i, s, dr, f, cr) Z => (bif (drfGo (List.drop i.toNat [36, 83, 43, 45]) (bz b) dr f).1 then ∀ dr' f', drfGo (List.drop i.toNat [36, 83, 43, 45]) (bz b) dr f = (true, dr', f') → Z (.exit 0) [.pointer (some ⟨3, 0, some 0⟩), S b, B r, .slice (some ⟨300, 0, some 1⟩) 4 4, I L4, I 4] [some ⟨[S s, B true, I 0, I 0, I 0, B false, .slice none 0 0, C8 (dr'), I (f'), B cr, C8 32, I 0], 156, true⟩, some ⟨[C8 36, C8 83, C8 43, C8 45], 5, false⟩] else ∀ i' dr' f', Z .ret [.pointer (some ⟨3, 0, some 0⟩), S b, B false, .slice (some ⟨300, 0, some 1⟩) 4 4, I L4, I i'] [some ⟨[S s, B true, I 0, I 0, I 0, B false, .slice none 0 0, C8 (dr'), I (f'), B cr, C8 32, I 0], 156, true⟩, some ⟨[C8 36, C8 83, C8 43, C8 45], 5, false⟩])
theorem r131_0 (b : ByteArray) (r : Bool) (L4 : Int) (i : Int) (s : ByteArray) (dr : Int) (f : Int) (cr : Bool) (jk : Tmps) (R : Exit → List Value → List (Option Blk) → Prop) : (codeQ Tryz.prog G20 (oneL 2 S131_2.hA) Tryz.f244.ntmps (loopOf Tryz.f244 0) (tl S131_0.live (V131_0 (b, r, L4, i, s, dr, f, cr)) jk) (ml S131_0.mid (B131_0 (b, r, L4, i, s, dr, f, cr))) S131_0.n fun e t' m' _ => S131_0.out R e t' m') = ( bif decide (i < L4) then bif decide (0 ≤ i ∧ i < 4) then bif isIntAt IntKind.u8 [.int .u8 36, .int .u8 83, .int .u8 43, .int .u8 45] (0 + Int.toNat i * 1) then bif oneB (Utf8.encode (intAt [.int .u8 36, .int .u8 83, .int .u8 43, .int .u8 45] (0 + Int.toNat i * 1))) then bif decide ((↑(cntZ (bz b) (List.getD (bz (Utf8.encode (intAt [.int .u8 36, .int .u8 83, .int .u8 43, .int .u8 45] (0 + Int.toNat i * 1)))) 0 0)) : Int) < 2) then R Exit.normal [.pointer (some (.mk 3 0 (some 0))), S b, B r, .slice (some (.mk 300 0 (some 1))) 4 4, I L4, I (IntKind.wrap .i64 (i + 1))] [some (.mk [S s, B true, I 0, I 0, I 0, B false, .slice none 0 0, .int .u8 dr, I f, B cr, .int .u8 32, I 0] 156 true), some (.mk [.int .u8 36, .int .u8 83, .int .u8 43, .int .u8 45] 5 false)] else bif dr != 0 then R Exit.ret [.pointer (some (.mk 3 0 (some 0))), S b, B false, .slice (some (.mk 300 0 (some 1))) 4 4, I L4, I i] [some (.mk [S s, B true, I 0, I 0, I 0, B false, .slice none 0 0, .int .u8 dr, I f, B cr, .int .u8 32, I 0] 156 true), some (.mk [.int .u8 36, .int .u8 83, .int .u8 43, .int .u8 45] 5 false)] else bif decide (0 ≤ intAt [.int .u8 36, .int .u8 83, .int .u8 43, .int .u8 45] (0 + Int.toNat i * 1) ∧ intAt [.int .u8 36, .int .u8 83, .int .u8 43, .int .u8 45] (0 + Int.toNat i * 1) < 256) then bif decide (ByteArray.size b ≤ 1000) then bif decide ((0 : Int) ≤ 0 ∧ 0 ≤ idxZ (bz b) (intAt [.int .u8 36, .int .u8 83, .int .u8 43, .int .u8 45] (0 + Int.toNat i * 1)) ∧ idxZ (bz b) (intAt [.int .u8 36, .int .u8 83, .int .u8 43, .int .u8 45] (0 + Int.toNat i * 1)) ≤ (↑(ByteArray.size b) : Int)) then bif hasZ (bz (ByteArray.extract b 0 (Int.toNat (idxZ (bz b) (intAt [.int .u8 36, .int .u8 83, .int .u8 43, .int .u8 45] (0 + Int.toNat i * 1)))))) (List.getD (bz (ByteArray.mk #[86])) 0 0) then R Exit.ret [.pointer (some (.mk 3 0 (some 0))), S b, B false, .slice (some (.mk 300 0 (some 1))) 4 4, I L4, I i] [some (.mk [S s, B true, I 0, I 0, I 0, B false, .slice none 0 0, .int .u8 (intAt [.int .u8 36, .int .u8 83, .int .u8 43, .int .u8 45] (0 + Int.toNat i * 1)), I (idxZ (bz b) (intAt [.int .u8 36, .int .u8 83, .int .u8 43, .int .u8 45] (0 + Int.toNat i * 1))), B cr, .int .u8 32, I 0] 156 true), some (.mk [.int .u8 36, .int .u8 83, .int .u8 43, .int .u8 45] 5 false)] else bif decide (0 ≤ idxZ (bz b) (intAt [.int .u8 36, .int .u8 83, .int .u8 43, .int .u8 45] (0 + Int.toNat i * 1)) ∧ idxZ (bz b) (intAt [.int .u8 36, .int .u8 83, .int .u8 43, .int .u8 45] (0 + Int.toNat i * 1)) ≤ IntKind.wrap .i64 (lastZ (bz b) (intAt [.int .u8 36, .int .u8 83, .int .u8 43, .int .u8 45] (0 + Int.toNat i * 1)) + 1) ∧ IntKind.wrap .i64 (lastZ (bz b) (intAt [.int .u8 36, .int .u8 83, .int .u8 43, .int .u8 45] (0 + Int.toNat i * 1)) + 1) ≤ (↑(ByteArray.size b) : Int)) then ∀ (cap : Nat), Nat.ble (ByteArray.size (ByteArray.extract b (Int.toNat (idxZ (bz b) (intAt [.int .u8 36, .int .u8 83, .int .u8 43, .int .u8 45] (0 + Int.toNat i * 1)))) (Int.toNat (IntKind.wrap .i64 (lastZ (bz b) (intAt [.int .u8 36, .int .u8 83, .int .u8 43, .int .u8 45] (0 + Int.toNat i * 1)) + 1))))) cap = true → bif goodL [(355, 390)] (Lib.strCells (ByteArray.extract b (Int.toNat (idxZ (bz b) (intAt [.int .u8 36, .int .u8 83, .int .u8 43, .int .u8 45] (0 + Int.toNat i * 1)))) (Int.toNat (IntKind.wrap .i64 (lastZ (bz b) (intAt [.int .u8 36, .int .u8 83, .int .u8 43, .int .u8 45] (0 + Int.toNat i * 1)) + 1))))) && true && true && (idsLt 400 (rlbL [(355, 390)] (Lib.strCells (ByteArray.extract b (Int.toNat (idxZ (bz b) (intAt [.int .u8 36, .int .u8 83, .int .u8 43, .int .u8 45] (0 + Int.toNat i * 1)))) (Int.toNat (IntKind.wrap .i64 (lastZ (bz b) (intAt [.int .u8 36, .int .u8 83, .int .u8 43, .int .u8 45] (0 + Int.toNat i * 1)) + 1)))))) && true) then bif LSpec.pre (LSpecA.toLSpec S131_2) (b, r, intAt [.int .u8 36, .int .u8 83, .int .u8 43, .int .u8 45] (0 + Int.toNat i * 1), L4, i, s, intAt [.int .u8 36, .int .u8 83, .int .u8 43, .int .u8 45] (0 + Int.toNat i * 1), idxZ (bz b) (intAt [.int .u8 36, .int .u8 83, .int .u8 43, .int .u8 45] (0 + Int.toNat i * 1)), cr, rlbL [(355, 390)] (Lib.strCells (ByteArray.extract b (Int.toNat (idxZ (bz b) (intAt [.int .u8 36, .int .u8 83, .int .u8 43, .int .u8 45] (0 + Int.toNat i * 1)))) (Int.toNat (IntKind.wrap .i64 (lastZ (bz b) (intAt [.int .u8 36, .int .u8 83, .int .u8 43, .int .u8 45] (0 + Int.toNat i * 1)) + 1))))), ByteArray.size (ByteArray.extract b (Int.toNat (idxZ (bz b) (intAt [.int .u8 36, .int .u8 83, .int .u8 43, .int .u8 45] (0 + Int.toNat i * 1)))) (Int.toNat (IntKind.wrap .i64 (lastZ (bz b) (intAt [.int .u8 36, .int .u8 83, .int .u8 43, .int .u8 45] (0 + Int.toNat i * 1)) + 1)))), cap, natO (ByteArray.size (ByteArray.extract b (Int.toNat (idxZ (bz b) (intAt [.int .u8 36, .int .u8 83, .int .u8 43, .int .u8 45] (0 + Int.toNat i * 1)))) (Int.toNat (IntKind.wrap .i64 (lastZ (bz b) (intAt [.int .u8 36, .int .u8 83, .int .u8 43, .int .u8 45] (0 + Int.toNat i * 1)) + 1))))), 0) then bif drP (intAt [.int .u8 36, .int .u8 83, .int .u8 43, .int .u8 45] (0 + Int.toNat i * 1)) (List.drop (Int.toNat 0) (zc (rlbL [(355, 390)] (Lib.strCells (ByteArray.extract b (Int.toNat (idxZ (bz b) (intAt [.int .u8 36, .int .u8 83, .int .u8 43, .int .u8 45] (0 + Int.toNat i * 1)))) (Int.toNat (IntKind.wrap .i64 (lastZ (bz b) (intAt [.int .u8 36, .int .u8 83, .int .u8 43, .int .u8 45] (0 + Int.toNat i * 1)) + 1)))))) (ByteArray.size (ByteArray.extract b (Int.toNat (idxZ (bz b) (intAt [.int .u8 36, .int .u8 83, .int .u8 43, .int .u8 45] (0 + Int.toNat i * 1)))) (Int.toNat (IntKind.wrap .i64 (lastZ (bz b) (intAt [.int .u8 36, .int .u8 83, .int .u8 43, .int .u8 45] (0 + Int.toNat i * 1)) + 1))))))) then bif idsLt 400 (rlbL [(355, 390)] (Lib.strCells (ByteArray.extract b (Int.toNat (idxZ (bz b) (intAt [.int .u8 36, .int .u8 83, .int .u8 43, .int .u8 45] (0 + Int.toNat i * 1)))) (Int.toNat (IntKind.wrap .i64 (lastZ (bz b) (intAt [.int .u8 36, .int .u8 83, .int .u8 43, .int .u8 45] (0 + Int.toNat i * 1)) + 1)))))) && true then ∀ (x : Tmps), R Exit.normal [.pointer (some (.mk 3 0 (some 0))), S b, B r, .slice (some (.mk 300 0 (some 1))) 4 4, I L4, I (IntKind.wrap .i64 (i + 1))] [some (.mk [S s, B true, I 0, I 0, I 0, B false, .slice none 0 0, .int .u8 (intAt [.int .u8 36, .int .u8 83, .int .u8 43, .int .u8 45] (0 + Int.toNat i * 1)), I (idxZ (bz b) (intAt [.int .u8 36, .int .u8 83, .int .u8 43, .int .u8 45] (0 + Int.toNat i * 1))), B cr, .int .u8 32, I 0] 156 true), some (.mk [.int .u8 36, .int .u8 83, .int .u8 43, .int .u8 45] 5 false)] else False else ∀ (j' : Int), bif idsLt 400 (rlbL [(355, 390)] (Lib.strCells (ByteArray.extract b (Int.toNat (idxZ (bz b) (intAt [.int .u8 36, .int .u8 83, .int .u8 43, .int .u8 45] (0 + Int.toNat i * 1)))) (Int.toNat (IntKind.wrap .i64 (lastZ (bz b) (intAt [.int .u8 36, .int .u8 83, .int .u8 43, .int .u8 45] (0 + Int.toNat i * 1)) + 1)))))) && true then ∀ (x : Tmps), R Exit.ret [.pointer (some (.mk 3 0 (some 0))), S b, B false, .slice (some (.mk 300 0 (some 1))) 4 4, I L4, I i] [some (.mk [S s, B true, I 0, I 0, I 0, B false, .slice none 0 0, .int .u8 (intAt [.int .u8 36, .int .u8 83, .int .u8 43, .int .u8 45] (0 + Int.toNat i * 1)), I (idxZ (bz b) (intAt [.int .u8 36, .int .u8 83, .int .u8 43, .int .u8 45] (0 + Int.toNat i * 1))), B cr, .int .u8 32, I 0] 156 true), some (.mk [.int .u8 36, .int .u8 83, .int .u8 43, .int .u8 45] 5 false)] else False else False else False else False else False else False else False else False else False else False else R (Exit.exit 0) [.pointer (some (.mk 3 0 (some 0))), S b, B r, .slice (some (.mk 300 0 (some 1))) 4 4, I L4, I i] [some (.mk [S s, B true, I 0, I 0, I 0, B false, .slice none 0 0, .int .u8 dr, I f, B cr, .int .u8 32, I 0] 156 true), some (.mk [.int .u8 36, .int .u8 83, .int .u8 43, .int .u8 45] 5 false)]) := by kernel_rfl
theorem l131_0 : ∀ t m n K, S131_0.hA t m n K → Ab.Sem Tryz.prog Tryz.f244.ntmps (.loop (loopOf Tryz.f244 0)) t m n K := by
 refine loop_specA ok_G20 hmix (by kernel_rfl) lk131 S131_0 V131_0 B131_0 (fun (b, r, L4, i, s, dr, f, cr) => (4 - i).toNat) ?_ ?_ ?_
 ·intro vs bs s h
  simp only [S131_0] at h
  split at h
  all_goals first | (cases h; exact ⟨rfl, rfl⟩) | cases h | (split at h <;> first | (rename_i hq; cases h; have hq := Nat.eq_of_beq_eq_true hq; subst hq; exact ⟨rfl, rfl⟩) | cases h)
 ·exact fun ⟨b, r, L4, i, s, dr, f, cr⟩ hp => by
   simp [V131_0, B131_0, S131_0, idsLt, idsLtB, idsL, ids]
 ·intro ⟨b, r, L4, i, s, dr, f, cr⟩ jk Z hp hf
  rw [r131_0]
  simp only [S131_0] at hp hf
  simp only [decide_eq_true_eq] at hp
  have hL4 := hp.1
  refine cond_intro (fun h => ?_) (fun h => ?_)
  ·have h := of_decide_eq_true h
   obtain ⟨c, c1, c2, c3, c4, c5, c6⟩ := ch_at hp.2.1 (by omega)
   rw [c1, c2, c4, c3, w64 (n := i + 1) (by omega)]
   rw [c6, drfGo] at hf
   clear c1 c2 c3 c4 c6
   refine c_t (decide_eq_true (by omega)) (c_t rfl (c_t rfl (cond_intro (fun q => ?_) (fun q => ?_))))
   ·rw [q, cond_true] at hf
    exact ⟨(b, r, L4, i + 1, s, dr, f, cr), rfl, rfl, by simp only [S131_0, decide_eq_true_eq]; omega, by simp only; omega, hf⟩
   ·rw [q, cond_false] at hf
    have q := of_decide_eq_false q
    have hm := cnt_mem q
    have i1 := idx_lt c hm
    have i2 := idx_last c hm
    have i3 := last_rng (bz b) c
    rw [bz_length] at i1 i3
    refine cond_intro (fun e => ?_) (fun e => c_t (decide_eq_true (by omega)) (c_t (decide_eq_true (by omega)) (c_t (decide_eq_true (by omega)) ?_)))
    ·rw [e] at hf
     exact hf i dr f
    ·rw [e, cond_false] at hf
     have k6 : (bz ⟨#[86]⟩).getD 0 0 = 86 := rfl
     have ex : bz (b.extract 0 (idxZ (bz b) c).toNat) = (bz b).take (idxZ (bz b) c).toNat := by rw [bz_extract]; simp
     have ex2 : bz (b.extract (idxZ (bz b) c).toNat (lastZ (bz b) c + 1).toNat) = ((bz b).take (lastZ (bz b) c + 1).toNat).drop (idxZ (bz b) c).toNat := bz_extract _ _ _
     rw [k6, ex, w64 (n := lastZ (bz b) c + 1) (by omega)]
     refine cond_intro (fun e => ?_) (fun e => c_t (decide_eq_true (by omega)) (fun cap hcap => ?_))
     ·rw [drC, e] at hf
      exact hf i _ _
     ·obtain ⟨v1, v2⟩ := vw_str (b.extract (idxZ (bz b) c).toNat (lastZ (bz b) c + 1).toNat)
      have v3 := vwOK_iff.2 v1
      have hsz : (b.extract (idxZ (bz b) c).toNat (lastZ (bz b) c + 1).toNat).size ≤ 100 := by
       rw [← bz_length, ex2, List.length_drop, List.length_take, bz_length]
       omega
      have g1 := v1.good
      have g2 := v1.rlb
      have g3 := ids_plainB v1.plain
      rw [ex2] at v2
      rw [drC, e, Bool.not_false, Bool.true_and, ← v2] at hf
      simp only [g2]
      clear ex2
      generalize b.extract (idxZ (bz b) c).toNat (lastZ (bz b) c + 1).toNat = y at *
      generalize Lib.strCells y = d at *
      refine c_t (by rw [g1, g3]; rfl) (c_t ?_ (cond_intro (fun a => c_t (by rw [g3]; rfl) fun x => ?_) (fun a j' => c_t (by rw [g3]; rfl) fun x => ?_)))
      ·simp only [S131_2, Bool.and_eq_true, decide_eq_true_eq]
       exact ⟨v3, by omega, by omega, hsz, natO_eq _⟩
      ·have a : drP c (zc d y.size) = true := a
       rw [a, cond_true] at hf
       exact ⟨(b, r, L4, i + 1, s, c, idxZ (bz b) c, cr), rfl, rfl, by simp only [S131_0, decide_eq_true_eq]; omega, by simp only; omega, hf⟩
      ·have a : drP c (zc d y.size) = false := a
       rw [a] at hf
       exact hf i _ _
  ·have h := of_decide_eq_false h
   obtain rfl : i = 4 := by omega
   subst hL4
   exact hf dr f rfl
end Go.Px
end
