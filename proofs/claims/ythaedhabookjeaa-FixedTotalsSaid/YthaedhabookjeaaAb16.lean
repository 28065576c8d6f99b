/-
  Loops over what came in: a state whose blocks may differ; calls that look into what came in; arguments that read on.
-/
import Derived.Test.YthaedhabookjeaaAb15
import Derived.Deep.SlicePairs
import Derived.WideKeyArgs
set_option linter.unusedVariables false
set_option linter.unusedSimpArgs false
namespace Go.Ab
open Go Go.ChangeMaps Go.ChangeShapes Go.WideShapes Go.ChangeAt Go.RowKit Go.Joins

section
variable {P : Program} {G : Env} {nt : Nat} {N : Nat} {w0 : World} {ι : Nm} {a : Act} {w : World}
theorem loop_specV (hG : EnvOK P G) (hm : P.follows .mixedOrders = true) {L : Nat → Option LoopH} {c : Code} (hl : codeLex c = true) (hL : LOK P L nt c) {σ : Type} (S : LSpec σ)
    (V : σ → List Value) (B : σ → List (Option Blk)) (μ : σ → Nat) (hdec : ∀ {vs bs s}, S.dec vs bs = some s → vs = V s ∧ bs = B s)
    (hid : ∀ n s s', S.pre s' = true → (idsLt n (V s) && idsLtB n (B s)) = true → (idsLt n (V s') && idsLtB n (B s')) = true)
    (round : ∀ s x Z, S.pre s = true → S.fin s Z → codeQ P G L nt c (tl S.live (V s) x) (ml S.mid (B s)) S.n fun e t' m' _ => S.step V B μ s Z e (S.live.map t') (S.mid.map m')) (t : Tmps) (m : Lk) (n : Nat) (K : Exit → Tmps → Lk → Nat → Prop) (h : S.h t m n K) : Sem P nt (.loop c) t m n K := by
  intro N w0 ι a w hrel Q hQ
  simp only [LSpec.h] at h
  split at h
  case h_2 => exact h.elim
  rename_i hok
  split at h
  case h_2 => exact h.elim
  rename_i s hs
  split at h
  case h_2 => exact h.elim
  rename_i hpre
  simp only [Bool.and_eq_true] at hok
  obtain ⟨⟨⟨hn, hmid⟩, hv⟩, hb⟩ := hok
  have hn := Nat.le_of_ble_eq_true hn
  obtain ⟨e1, e2⟩ := hdec hs
  obtain ⟨x, hx⟩ := hrel.forget hv hb hmid
  rw [e1, e2] at hx
  rw [e1] at hv
  rw [e2] at hb
  have key : ∀ q s, μ s = q → S.pre s = true → S.fin s (lout S.live S.mid S.n K) → (idsLt S.n (V s) && idsLtB S.n (B s)) = true → ∀ (x : Tmps) (ι : Nm) (a : Act) (w : World),
      RelS N w0 (· < S.n) nt (tl S.live (V s) x) (ml S.mid (B s)) ι a w → ∀ Q : Exit → Act → World → Prop,
      (∀ e t' m' ι' a' w', K e t' m' S.n → (∀ k, k < S.n → ι' k = ι k) → RelS N w0 (· < S.n) nt t' m' ι' a' w' → Q e a' w') → InLoop P c Q a w := by
    intro q
    induction q using Nat.strongRecOn with
    | _ q ih =>
      intro s hq hpre hfin hids x ι a w hrel Q hQ
      refine inLoop_step (codeQ_sound hG hm c _ _ _ _ hl hL (round s x _ hpre hfin) N w0 ι a w hrel _ fun e t' m' n' ι' a' w' hk hn hι hr => ?_)
      have fin : ∀ e, lout S.live S.mid S.n K e (S.live.map t') (S.mid.map m') → Q e a' w' := by
        intro e ho
        simp only [lout] at ho
        split at ho
        case h_2 => exact ho.elim
        rename_i hii
        simp only [Bool.and_eq_true] at hii
        obtain ⟨x', hx'⟩ := hr.forget hii.1 hii.2 hmid
        exact hQ e _ _ ι' a' w' (ho x') hι hx'
      cases e with
      | normal =>
        obtain ⟨s', h1, h2, h3, h4, h5⟩ := hk
        have hids' := hid _ _ s' h3 hids
        have hids'' := hids'
        simp only [Bool.and_eq_true] at hids''
        obtain ⟨x', hx'⟩ := hr.forget (n := S.n) (live := S.live) (mid := S.mid) (by rw [h1]; exact hids''.1) (by rw [h2]; exact hids''.2) hmid
        rw [h1, h2] at hx'
        exact ih (μ s') (hq ▸ h4) s' rfl h3 h5 hids' x' ι' a' w' hx' Q fun e t2 m2 ι2 a2 w2 hk2 hι2 hr2 => hQ e t2 m2 ι2 a2 w2 hk2 (fun k hk => (hι2 k hk).trans (hι k hk)) hr2
      | _ => exact fin _ hk
  refine inLoop_loop (key _ s rfl hpre h (by simp [hv, hb]) x ι a w hx Q fun e t' m' ι' a' w' hk hι hr => ?_)
  exact hQ e t' m' S.n ι' a' w' hk hn (fun k hk => hι k (by omega)) hr

end

/-- A loop's contract, its checks marked. -/
def loutQ (live mid : List Nat) (n : Nat) (K : Exit → Tmps → Lk → Nat → Prop) (e : Exit) (vs : List Value) (bs : List (Option Blk)) : Prop :=
  match cnd (idsLt n vs && idsLtB n bs) with
  | true => ∀ x, K e (tl live vs x) (ml mid bs) n
  | false => False
def LSpec.hQ {σ : Type} (S : LSpec σ) : LoopH := fun t m n K => match cnd (Nat.ble n S.n && midLt S.n S.mid && idsLt S.n (S.live.map t) && idsLtB S.n (S.mid.map m)) with
  | true => match S.dec (S.live.map t) (S.mid.map m) with
    | some s => match S.pre s with
      | true => S.fin s (loutQ S.live S.mid S.n K)
      | false => False
    | none => False
  | false => False
theorem hQ_h {σ : Type} (S : LSpec σ) : S.hQ = S.h := rfl

/-- A pure function's contract, at a call from outside, over what lies there. -/
theorem calls_at {P : Program} {f : FuncId} {s : Ab.Spec} (h : PureOK P f s) {args : List Value} {v : Value} {w : World} {lk : Lk} {ι : Nm} (hm : RelM w.heap.size w lk ι w)
    (hs : s args (args.map (blkOf lk)) = some (true, v)) (hv : plain v = true) :
    Calls P f (args.map (ren ι)).toArray w fun e w' => e = .returned v ∧ Below w.heap.size w w' := h.2 args v _ w lk ι w hm hs hv

/-- One block to look at. -/
def vw (c : List Value) (ty : TypeId) : Lk := fun k => match Nat.beq k 0 with | true => some ⟨c, ty, false⟩ | false => none
theorem vw_viewL {c : List Value} {ty : TypeId} {own : Bool} (h : plainL c = true) (r : List (Option Blk)) (hr : ∀ x ∈ r, x = none) : viewL (some ⟨c, ty, own⟩ :: r) = vw c ty := by
  funext k
  cases k with
  | zero => simp [viewL, view1, h, vw]
  | succ k =>
    have e : Nat.beq (k + 1) 0 = false := rfl
    simp only [viewL, vw, e]
    induction r generalizing k with
    | nil => rfl
    | cons x r ih =>
      obtain rfl := hr x (List.mem_cons_self ..)
      cases k with
      | zero => rfl
      | succ k => exact ih (fun x hx => hr x (List.mem_cons_of_mem _ hx)) k rfl
theorem relM_vw {w : World} {c : List Value} {ty : TypeId} {b off : Nat} (hb : b < w.heap.size) (hc : ∀ i v, c[i]? = some v → w.cell? ⟨b, off + i, none⟩ = some v ∧ plain v = true) :
    RelM w.heap.size w (vw c ty) (fun _ => (b, off)) w where
  below := Below.refl _ _
  base := Nat.le_refl _
  blk := fun k b hk ho => by
    simp only [vw] at hk
    split at hk
    · cases hk; cases ho
    · cases hk
  view := fun k b hk _ => by
    simp only [vw] at hk
    split at hk
    · cases hk
      refine ⟨hb, fun i v hv => ?_⟩
      obtain ⟨h1, h2⟩ := hc i v hv
      rw [ren_plain _ h2]
      exact h1
    · cases hk
  inj := fun k k' b b' hk _ ho _ => by
    simp only [vw] at hk
    split at hk
    · cases hk; cases ho
    · cases hk

section
variable {H : Type} {enc : TypeId × Value → H} {P : Program}
theorem trodAll_below (hl : laidOutB P = true) {W W' : World} (hb : Below W.heap.size W W') (sp : Nat → Bool) :
    ∀ {ts : List TypeId} {vs : List Value} {ds : List (DataW H)} {ps : List MemPlace}, (∀ t ∈ ts, P.readableRec t = true ∧ t < P.types.size) → (∀ p ∈ ps, p.block < W.heap.size) → (∀ p ∈ ps, sp p.block = true) →
      DataW.TrodAll enc P W 0 (fun _ => true) true ts vs ds ps → DataW.TrodAll enc P W' 0 sp true ts vs ds ps
  | [], [], [], _, _, _, _, h => h
  | t :: ts, v :: vs, d :: ds, ps, hr, hlt, hsp, h => by
    obtain ⟨p, q, h1, h2, rfl⟩ := h
    refine ⟨p, q, WideElems.Trod_stays hl (hr t (List.mem_cons_self ..)).1 (hr t (List.mem_cons_self ..)).2 h1 (fun x hx => hb.same (hlt x (by simp [hx]))) (fun x hx => hsp x (by simp [hx])), ?_, rfl⟩
    exact trodAll_below hl hb sp (fun t ht => hr t (List.mem_cons_of_mem _ ht)) (fun x hx => hlt x (by simp [hx])) (fun x hx => hsp x (by simp [hx])) h2
  | [], _ :: _, _, _, _, _, _, h | [], [], _ :: _, _, _, _, _, h | _ :: _, [], _, _, _, _, _, h | _ :: _, _ :: _, [], _, _, _, _, h => by simp [DataW.TrodAll] at h
end
end Go.Ab
