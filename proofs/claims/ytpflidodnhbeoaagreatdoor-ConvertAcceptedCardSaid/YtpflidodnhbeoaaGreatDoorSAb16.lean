/-
  The run and the laws that serve these rows (Ab16)
-/
import Derived.Test.YtpflidodnhbeoaaGreatDoorSAb15
import Derived.Deep.SlicePairs
import Derived.WideKeyArgs
set_option linter.unusedVariables false
set_option linter.unusedSimpArgs false
noncomputable section
namespace Go.Ab
open Go Go.ChangeMaps Go.ChangeShapes Go.WideShapes Go.ChangeAt Go.RowKit Go.Joins
variable [Tabs]
section
variable {P : Program} {G : Env} {nt : Nat} {N : Nat} {w0 : World} {ι : Nm} {a : Act} {w : World}
end
def loutQ (live mid : List Nat) (n : Nat) (K : Exit → Tmps → Lk → Nat → Prop) (e : Exit) (vs : List Value) (bs : List (Option Blk)) : Prop :=
 match cnd (idsLt n vs && idsLtB n bs) with
 | true => ∀ x, K e (tl live vs x) (ml mid bs) n
 | false => False
section
variable {H : Type} {enc : TypeId × Value → H} {P : Program}
theorem trodAll_below (hl : laidOutB P = true) {W W' : World} (hb : Below W.heap.size W W') (sp : Nat → Bool) :
  ∀ {ts : List TypeId} {vs : List Value} {ds : List (DataW H)} {ps : List MemPlace}, (∀ t ∈ ts, P.readableRec t = true ∧ t < P.types.size) → (∀ p ∈ ps, p.block < W.heap.size) → (∀ p ∈ ps, sp p.block = true) →
   DataW.TrodAll enc P W 0 (fun _ => true) true ts vs ds ps → DataW.TrodAll enc P W' 0 sp true ts vs ds ps
 | [], [], [], _, _, _, _, h => have _ : Tabs := inferInstance; have _ : Tabs := inferInstance; h
 | t :: ts, v :: vs, d :: ds, ps, hr, hlt, hsp, h => by
  obtain ⟨p, q, h1, h2, rfl⟩ := h
  refine ⟨p, q, WideElems.Trod_stays hl (hr t (List.mem_cons_self ..)).1 (hr t (List.mem_cons_self ..)).2 h1 (fun x hx => hb.same (hlt x (by simp [hx]))) (fun x hx => hsp x (by simp [hx])), ?_, rfl⟩
  exact trodAll_below hl hb sp (fun t ht => hr t (List.mem_cons_of_mem _ ht)) (fun x hx => hlt x (by simp [hx])) (fun x hx => hsp x (by simp [hx])) h2
 | [], _ :: _, _, _, _, _, _, h | [], [], _ :: _, _, _, _, _, h | _ :: _, [], _, _, _, _, _, h | _ :: _, _ :: _, [], _, _, _, _, h => by simp [DataW.TrodAll] at h
end
end Go.Ab
