/-
  The arithmetic of FIXED values, plainly: what the program's and the reference's functions yield.
-/
import Derived.Test.YthaedhabookjeaaAb12
set_option linter.unusedVariables false
set_option linter.unusedSimpArgs false
namespace Go.Fx
open Go Go.Ab

structure Ty where
  k : Int
  p : Int
  q : Int
  v : Bool
  s : ByteArray
structure Vl where
  n : Int
  s : ByteArray

instance : Enc Ty where
  enc t := .agg ⟨[.int .i64 t.k, .int .i64 t.p, .int .i64 t.q, .bool t.v, .string t.s]⟩
  dec | .agg ⟨[.int .i64 k, .int .i64 p, .int .i64 q, .bool v, .string s]⟩ => some ⟨k, p, q, v, s⟩ | _ => none
  dec_some := by
    intro v a h
    split at h
    · cases h; rfl
    · cases h
  plain_enc _ := rfl
instance : Enc Vl where
  enc t := .agg ⟨[.int .i64 t.n, .string t.s]⟩
  dec | .agg ⟨[.int .i64 n, .string s]⟩ => some ⟨n, s⟩ | _ => none
  dec_some := by
    intro v a h
    split at h
    · cases h; rfl
    · cases h
  plain_enc _ := rfl

abbrev I (n : Int) : Value := .int .i64 n
abbrev B (b : Bool) : Value := .bool b
def e0 : ByteArray := ⟨#[]⟩
def T0 : Ty := ⟨0, 0, 0, false, ⟨#[]⟩⟩
def V0 : Vl := ⟨0, ⟨#[]⟩⟩
abbrev tv (t : Ty) : Value := .agg ⟨[.int .i64 t.k, .int .i64 t.p, .int .i64 t.q, .bool t.v, .string t.s]⟩
abbrev vv (v : Vl) : Value := .agg ⟨[.int .i64 v.n, .string v.s]⟩
abbrev tup (l : List Value) : Value := .tuple ⟨l⟩

def most (k : Int) : Int := if k = 1 then 9 else 31
def Valid (t : Ty) : Prop := (t.k = 1 ∨ t.k = 2) ∧ 1 ≤ t.p ∧ t.p ≤ most t.k ∧ 0 ≤ t.q ∧ t.q ≤ t.p ∧ (t.k = 2 → t.q = 0) ∧ t.v = false ∧ t.s.toList = []
instance (t : Ty) : Decidable (Valid t) := by unfold Valid; infer_instance
def base (k : Int) : Int := if k = 1 then 10 else 2
def pw (b n : Int) : Int := b ^ n.toNat
def bnd (t : Ty) : Int := pw (base t.k) t.p
def check (t : Ty) : Int := if Valid t then 0 else 5
def Fit (v : Vl) (t : Ty) : Prop := v.s.toList = [] ∧ -bnd t < v.n ∧ v.n < bnd t
instance (v : Vl) (t : Ty) : Decidable (Fit v t) := by unfold Fit; infer_instance
def fits (v : Vl) (t : Ty) : Int := if Valid t then (if Fit v t then 0 else 6) else 5
def binT (t : Ty) : Ty := if Valid t then (if t.k = 2 then t else ⟨2, 1 + (t.p * 332 + 99) / 100, 0, false, e0⟩) else T0
def isOp (op : Int) : Bool := decide (5 ≤ op ∧ op ≤ 13)
def unary (op : Int) : Bool := decide (op = 5 ∨ op = 11)
def resQ (op : Int) (a b : Ty) : Int :=
  if a.k = 2 then 0 else if op = 5 ∨ op = 11 then a.q else if op = 8 then min 9 (a.q + b.q) else if op = 9 then max 0 (9 - (a.p - a.q) - b.q) else max a.q b.q
def resD (op : Int) (a b : Ty) : Int :=
  if op = 5 ∨ op = 11 then a.p else if op = 8 then 1 + a.p + b.p else if op = 9 then most a.k else if op = 10 then b.p - b.q + max a.q b.q
  else if op = 12 ∨ op = 13 then max (a.p - a.q) (b.p - b.q) + max a.q b.q else 1 + max (a.p - a.q) (b.p - b.q) + max a.q b.q
def rty (op : Int) (a b : Ty) : Ty := ⟨a.k, min (most a.k) (resD op a b), resQ op a b, false, e0⟩
def resT (op : Int) (a b : Ty) : Ty :=
  if isOp op = false then T0 else if ¬ Valid a then T0 else if unary op then rty op a a else if ¬ Valid b then T0 else if a.k ≠ b.k then T0 else rty op a b
def resE (op : Int) (a b : Ty) : Int :=
  if isOp op = false then 1 else if ¬ Valid a then 5 else if unary op then 0 else if ¬ Valid b then 5 else if a.k ≠ b.k then 5 else 0
/-- n with d digits more behind the point (fewer: truncated). -/
def scl (n d : Int) : Int := if 0 ≤ d then n * pw 10 d else n.tdiv (pw 10 (-d))
def InB (n : Int) (t : Ty) : Prop := -bnd t < n ∧ n < bnd t
instance (n : Int) (t : Ty) : Decidable (InB n t) := by unfold InB; infer_instance
def cutN (n : Int) (t : Ty) : Int := if InB n t then n else n.tmod (bnd t)
def cutC (n : Int) (t : Ty) (c : Int) : Int := if InB n t then 0 else c
def exN (op x y : Int) : Int :=
  if op = 5 then -x else if op = 11 then max x (-x) else if op = 6 then x + y else if op = 7 then x - y else if op = 10 then x % (max y (-y)) else if op = 12 then min x y else max x y
def quoN (a b up : Int) : Int := if 0 ≤ up then (a * pw 10 up).tdiv b else a.tdiv (b * pw 10 (-up))
def opN (op : Int) (a : Int) (ta : Ty) (b : Int) (tb : Ty) : Int :=
  if op = 8 then scl (a * b) (resQ op ta tb - (ta.q + tb.q))
  else if op = 9 then quoN a b (tb.q + resQ op ta tb - ta.q)
  else exN op (scl a (max ta.q tb.q - ta.q)) (scl b (max ta.q tb.q - tb.q))
def opnds (op : Int) (a : Vl) (ta : Ty) (b : Vl) (tb : Ty) : Int := if fits a ta ≠ 0 ∨ unary op = true then fits a ta else fits b tb
def maxI : Int := 9223372036854775807
def fit64 (n : Int) : Bool := decide (-maxI ≤ n ∧ n ≤ maxI)

def tensL : List Value := [.int .i64 1, .int .i64 10, .int .i64 100, .int .i64 1000, .int .i64 10000, .int .i64 100000, .int .i64 1000000, .int .i64 10000000, .int .i64 100000000, .int .i64 1000000000,
  .int .i64 10000000000, .int .i64 100000000000, .int .i64 1000000000000, .int .i64 10000000000000, .int .i64 100000000000000, .int .i64 1000000000000000, .int .i64 10000000000000000, .int .i64 100000000000000000, .int .i64 1000000000000000000]
abbrev tyc (t : Ty) : List Value := [.int .i64 t.k, .int .i64 t.p, .int .i64 t.q, .bool t.v, .string t.s]
def fst2 (x y : Int) : Int := if x ≠ 0 then x else y
def fst3 (x y z : Int) : Int := if x ≠ 0 then x else if y ≠ 0 then y else z
def fst4 (x y z w : Int) : Int := if x ≠ 0 then x else if y ≠ 0 then y else if z ≠ 0 then z else w
def same1 (t a : Ty) : Int := if a.k = t.k then 0 else 5
def same2 (t a b : Ty) : Int := if a.k = t.k ∧ b.k = t.k then 0 else 5
def R64 (n : Int) : Prop := -9223372036854775808 ≤ n ∧ n ≤ 9223372036854775807
instance (n : Int) : Decidable (R64 n) := by unfold R64; infer_instance
def cmpI (x y : Int) : Int := if x < y then -1 else if x > y then 1 else 0
def rdT (t : Ty) (k : Int) : Ty := if Valid t then (if k < 0 ∨ k > t.q then T0 else ⟨t.k, min (most t.k) (t.p - t.q + 1 + k), k, false, e0⟩) else T0
def rdE (t : Ty) (k : Int) : Int := if Valid t then (if k < 0 ∨ k > t.q then 1 else 0) else 5
def whT (t : Ty) : Ty := if Valid t then ⟨t.k, min (most t.k) (t.p - t.q + 1), 0, false, e0⟩ else T0
def totT (t : Ty) : Ty := if Valid t then ⟨t.k, most t.k, t.q, false, e0⟩ else T0
def doE (op : Int) (a : Vl) (ta : Ty) (b : Vl) (tb : Ty) : Int :=
  if isOp op = false then 1 else if fits a ta ≠ 0 then fits a ta else if unary op = true then 0 else if fits b tb ≠ 0 then fits b tb else if ta.k ≠ tb.k then 5 else 0
def zer (op b : Int) : Prop := (op = 9 ∨ op = 10) ∧ b = 0
instance (op b : Int) : Decidable (zer op b) := by unfold zer; infer_instance
def doN1 (op : Int) (a : Int) (ta : Ty) (b : Int) (tb : Ty) : Int := if zer op b then 0 else cutN (opN op a ta b tb) (rty op ta tb)
def doC1 (op : Int) (a : Int) (ta : Ty) (b : Int) (tb : Ty) : Int := if zer op b then 3 else cutC (opN op a ta b tb) (rty op ta tb) 2
def doN (op : Int) (a : Vl) (ta : Ty) (b : Vl) (tb : Ty) : Int := if doE op a ta b tb ≠ 0 then 0 else if unary op = true then doN1 op a.n ta a.n ta else doN1 op a.n ta b.n tb
def doC (op : Int) (a : Vl) (ta : Ty) (b : Vl) (tb : Ty) : Int := if doE op a ta b tb ≠ 0 then 0 else if unary op = true then doC1 op a.n ta a.n ta else doC1 op a.n ta b.n tb
abbrev doR (op : Int) (a : Vl) (ta : Ty) (b : Vl) (tb : Ty) : Value := tup [vv ⟨doN op a ta b tb, e0⟩, I (doC op a ta b tb), I (doE op a ta b tb)]
def Q18 (n : Int) : Prop := -4000000000000000000 ≤ n ∧ n ≤ 4000000000000000000
instance (n : Int) : Decidable (Q18 n) := by unfold Q18; infer_instance
def quoOK (a b up : Int) : Prop := b ≠ 0 ∧ -18 ≤ up ∧ up ≤ 18 ∧ Q18 a ∧ Q18 b ∧ (0 ≤ up → Q18 (a * pw 10 up)) ∧ (up < 0 → Q18 (b * pw 10 (-up)))
instance (a b up : Int) : Decidable (quoOK a b up) := by unfold quoOK; infer_instance
def dvOK (op y : Int) : Prop := op = 10 → y ≠ 0
instance (op y : Int) : Decidable (dvOK op y) := by unfold dvOK; infer_instance
def cmE (a : Vl) (ta : Ty) (b : Vl) (tb : Ty) : Int := if fits a ta ≠ 0 then fits a ta else if fits b tb ≠ 0 then fits b tb else if ta.k ≠ tb.k then 5 else 0
def cmN (a : Vl) (ta : Ty) (b : Vl) (tb : Ty) : Int := if cmE a ta b tb ≠ 0 then 0 else cmpI (scl a.n (max ta.q tb.q - ta.q)) (scl b.n (max ta.q tb.q - tb.q))
def asE (v : Vl) (f t : Ty) : Int := if fits v f ≠ 0 then fits v f else check t
def asN (v : Vl) (f t : Ty) : Int := if asE v f t ≠ 0 then 0 else cutN (scl v.n (t.q - f.q)) t
def asC (v : Vl) (f t : Ty) : Int := if asE v f t ≠ 0 then 0 else cutC (scl v.n (t.q - f.q)) t 1
def rnd (n u : Int) : Int := if n < 0 then (n - u / 2).tdiv u else (n + u / 2).tdiv u
def flr (n u : Int) : Int := if n < 0 then (n - (u - 1)).tdiv u else n.tdiv u
def cei (n u : Int) : Int := if n < 0 then n.tdiv u else (n + (u - 1)).tdiv u
def rnE (v : Vl) (t : Ty) (k : Int) : Int := if fits v t ≠ 0 then fits v t else if k < 0 ∨ k > t.q then 1 else 0
def rnN (v : Vl) (t : Ty) (k : Int) : Int := if rnE v t k ≠ 0 then 0 else rnd v.n (pw 10 (t.q - k))
def flN (v : Vl) (t : Ty) : Int := if fits v t ≠ 0 then 0 else flr v.n (pw 10 t.q)
def ceN (v : Vl) (t : Ty) : Int := if fits v t ≠ 0 then 0 else cei v.n (pw 10 t.q)
def trN (v : Vl) (t : Ty) : Int := if fits v t ≠ 0 then 0 else v.n.tdiv (pw 10 t.q)
def rOK (n u : Int) : Prop := 1 ≤ u ∧ u ≤ 1000000000 ∧ -4000000000000000000 ≤ n ∧ n ≤ 4000000000000000000
instance (n u : Int) : Decidable (rOK n u) := by unfold rOK; infer_instance
def P18 : Int := 1000000000000000000
end Go.Fx
