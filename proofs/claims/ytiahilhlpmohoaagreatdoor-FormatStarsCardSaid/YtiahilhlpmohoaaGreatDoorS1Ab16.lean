/-
  Ab16: the run and laws.
-/
import Derived.Test.YtiahilhlpmohoaaGreatDoorS1Ab15
import Derived.Deep.SlicePairs
import Derived.WideKeyArgs
set_option linter.unusedVariables false
set_option linter.unusedSimpArgs false
set_option linter.unusedSectionVars false
noncomputable section
namespace Go.Ab
open Go Go.ChangeMaps Go.ChangeShapes Go.WideShapes Go.ChangeAt Go.RowKit Go.Joins
variable [Tabs]
section
variable {P : Program} {G : Env} {nt : Nat} {N : Nat} {w0 : World} {ι : Nm} {a : Act} {w : World}
theorem loop_specV(hG:ja3 P G)(hm:P.follows .mixedOrders=true){L:Nat→Option jcb}{c:Code}(hl:jch c=true)(hL:LOK P L nt c){σ:Type}(S:LSpec σ)
  (V:σ→J) (B:σ→Ya) (μ:σ→Nat) (hdec:∀{vs bs s},S.dec vs bs=some s→vs=V s∧bs=B s)
  (hid:∀n s s',S.pre s'=true→(jaw n (V s) &&jbs n (B s))=true→(jaw n (V s') &&jbs n (B s'))=true)
  (round:∀s x Z,S.pre s=true→S.fin s Z→jbn P G L nt c (tl S.live (V s) x) (ml S.mid (B s)) S.n fun e t' m' _=>S.step V B μ s Z e (S.live.map t') (S.mid.map m')) (t:Tmps) (m:Lk) (n:Nat) (K:Exit→Tmps→Lk→Nat→Prop) (h:S.h t m n K):Sem P nt (.loop c) t m n K:=by
 intro N w0 ι a w hrel Q hQ;simp only[LSpec.h]at h;split at h
 case h_2=>exact h.elim
 rename_i hok;split at h
 case h_2=>exact h.elim
 rename_i s hs;split at h
 case h_2=>exact h.elim
 rename_i hpre;simp only[jaf]at hok;obtain⟨⟨⟨hn,hmid⟩,hv⟩,hb⟩:=hok;have hn:=jag hn;obtain⟨e1,e2⟩:=hdec hs;obtain⟨x,hx⟩:=hrel.forget hv hb hmid;rw[e1,e2]at hx;rw[e1]at hv;rw[e2]at hb
 have key:∀q s,μ s=q→S.pre s=true→S.fin s (lout S.live S.mid S.n K)→(jaw S.n (V s) &&jbs S.n (B s))=true→ ∀(x:Tmps)(ι:Nm)(a:Act)(w:World),
   RelS N w0 (· <S.n) nt (tl S.live (V s) x) (ml S.mid (B s)) ι a w→ ∀Q:Exit→Act→World→Prop,
   (∀e t' m' ι' a' w',K e t' m' S.n→(∀k,k<S.n→ι' k=ι k)→RelS N w0 (· <S.n) nt t' m' ι' a' w'→Q e a' w')→ji1 P c Q a w:=by
  intro q
  induction q using Nat.strongRecOn with
  | _ q ih=>
   intro s hq hpre hfin hids x ι a w hrel Q hQ;refine inLoop_step (jcg hG hm c _ _ _ _ hl hL (round s x _ hpre hfin) N w0 ι a w hrel _ fun e t' m' n' ι' a' w' hk hn hι hr=> ?_)
   have fin:∀e,lout S.live S.mid S.n K e (S.live.map t') (S.mid.map m')→Q e a' w':=by
    intro e ho;simp only[lout]at ho;split at ho
    case h_2=>exact ho.elim
    rename_i hii;simp only[jaf]at hii;obtain⟨x',hx'⟩:=hr.forget hii.1 hii.2 hmid;exact hQ e _ _ ι' a' w' (ho x') hι hx'
   cases e with
   | normal=>
    obtain⟨s',h1,h2,h3,h4,h5⟩:=hk;have hids':=hid _ _ s' h3 hids;have hids'':=hids';simp only[jaf]at hids'';obtain⟨x',hx'⟩:=hr.forget (n:=S.n) (live:=S.live) (mid:=S.mid) (by rw[h1];exact hids''.1) (by rw[h2];exact hids''.2) hmid;rw[h1,h2]at hx';exact ih (μ s') (hq▸h4) s' rfl h3 h5 hids' x' ι' a' w' hx' Q fun e t2 m2 ι2 a2 w2 hk2 hι2 hr2=>hQ e t2 m2 ι2 a2 w2 hk2 (fun k hk=>(hι2 k hk).trans (hι k hk)) hr2
   | _=>exact fin _ hk
 refine inLoop_loop (key _ s rfl hpre h (by simp[hv,hb]) x ι a w hx Q fun e t' m' ι' a' w' hk hι hr=> ?_);exact hQ e t' m' S.n ι' a' w' hk hn (fun k hk=>hι k (by omega)) hr
end
def loutQ(live mid:List Nat)(n:Nat)(K:Exit→Tmps→Lk→Nat→Prop)(e:Exit)(vs:J)(bs:Ya):Prop:=
 match cnd (jaw n vs&&jbs n bs)with
 | true=>∀x,K e (tl live vs x) (ml mid bs) n
 | false=>False
def LSpec.hQ{σ:Type}(S:LSpec σ):jcb:=fun t m n K=>match cnd (Nat.ble n S.n&&jk7 S.n S.mid&&jaw S.n (S.live.map t) &&jbs S.n (S.mid.map m))with
 | true=>match S.dec (S.live.map t) (S.mid.map m)with
  | some s=>match S.pre s with
   | true=>S.fin s (loutQ S.live S.mid S.n K)
   | false=>False
  | none=>False
 | false=>False
def vw(c:J)(ty:TypeId):Lk:=fun k=>match Nat.beq k 0 with | true=>some ⟨c,ty,false⟩ | false=>none
section
variable {H : Type} {enc : TypeId × Value → H} {P : Program}
end
end Go.Ab
