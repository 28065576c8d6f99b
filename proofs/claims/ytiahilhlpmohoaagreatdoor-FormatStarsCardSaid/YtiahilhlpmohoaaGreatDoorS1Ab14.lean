/-
  Ab14: the run and laws.
-/
import Derived.Test.YtiahilhlpmohoaaGreatDoorS1Ab13
set_option linter.unusedVariables false
set_option linter.unusedSimpArgs false
set_option linter.unusedSectionVars false
noncomputable section
namespace Go.Ab
open Go Go.RowKit
variable [Tabs]
def jfg(b:Bool)(v1 v2:Value):Value:=match v1,v2 with
 | .bool x,.bool y=> .bool (bif b then x else y)
 | .int k x,.int k' y=>match k==k' with
  | true=> .int k (bif b then x else y)
  | false=>bif b then .int k x else .int k' y
 | .string x,.string y=> .string (bif b then x else y)
 | v1,v2=>bif b then v1 else v2
theorem mergeV_true(v1 v2:Value):jfg true v1 v2=v1:=by
 have _:=tbs;unfold jfg;split
 ·rfl
 ·split<;>rfl
 ·rfl
 ·rfl
theorem mergeV_false(v1 v2:Value):jfg false v1 v2=v2:=by
 have _:=tbs;unfold jfg;split
 ·rfl
 ·split
  ·rename_i h;simp only[cond_false];rw[eq_of_beq h]
  ·rfl
 ·rfl
 ·rfl
def jn4(known:List (Nat×Bool))(i:Nat):Option Bool:=match known with
 | []=>none
 | (j,b)::r=>match Nat.beq j i with | true=>some b | false=>jn4 r i
def knO(known:List (Nat×Bool)):Operand→Option Bool
 | .const (.bool b)=>match b with | true=>some true | false=>some false
 | .tmp i=>jn4 known i
 | _=>none
def jif(known:List (Nat×Bool))(o:Oper):List (Nat×Bool):=match o.dst with
 | none=>known
 | some d=>match o.op with
  | .move x | .assign x=>match knO known x with | some b=>(d,b)::known | none=>known
  | .pick c x y=>match knO known c with
   | some true=>match knO known x with | some b=>(d,b)::known | none=>known
   | some false=>match knO known y with | some b=>(d,b)::known | none=>known
   | none=>known
  | _=>known
def asgd(l:List Oper)(i:Nat):Bool:=l.any fun o=>match o.dst with | some d=>Nat.beq i d | none=>false
section
variable (P : Program) (G : Env)
def doJ(nt:Nat)(o:Oper)(t:Tmps)(m:Lk)(k:Tmps→Bool×Tmps):Bool×Tmps:=
 match jb7 nt o with
 | false=>(false,t)
 | true=>match jnt G o (ev t)with
  | some _=>(false,t)
  | none=>match aop P G o (ev t) m with
   | some (c,.val v)=>(bif c then(k (tput t o.dst v)).1 else false,(k (tput t o.dst v)).2)
   | _=>(false,t)
def jko(b:Bool)(l:List Oper)(t:Tmps)(x y:Bool×Tmps):Bool×Tmps:=
 (bif b then x.1 else y.1,fun i=>match asgd l i with | true=>jfg b (x.2 i) (y.2 i) | false=>t i)
def opsJ(ops:Array Oper)(nt:Nat)(m:Lk):List Oper→List (Nat×Bool)→Tmps→Bool×Tmps
 | [],_,t=>(true,t)
 | o::r,kn,t=>match o.guard with
  | none=>doJ P G nt o t m (opsJ ops nt m r (jif kn o))
  | some (j,want)=>match (ops[j]?).bind (·.dst)with
   | some d=>match Nat.blt d nt with
    | true=>match t d with
     | .bool b=>match jn4 kn d with
      | some true=>match want with
       | true=>((bif b then(doJ P G nt o t m (opsJ ops nt m r (jif kn o))).1 else false),(doJ P G nt o t m (opsJ ops nt m r (jif kn o))).2)
       | false=>((bif b then(opsJ ops nt m r kn (tput t o.dst undef)).1 else false),(opsJ ops nt m r kn (tput t o.dst undef)).2)
      | some false=>match want with
       | false=>((bif b then false else(doJ P G nt o t m (opsJ ops nt m r (jif kn o))).1),(doJ P G nt o t m (opsJ ops nt m r (jif kn o))).2)
       | true=>((bif b then false else(opsJ ops nt m r kn (tput t o.dst undef)).1),(opsJ ops nt m r kn (tput t o.dst undef)).2)
      | none=>match want with
       | true => jko b (o :: r) t (doJ P G nt o (tput t (some d) (.bool true)) m (opsJ ops nt m r (jif ((d, true) :: kn) o)))
         (opsJ ops nt m r ((d,false)::kn) (tput (tput t (some d) (.bool false)) o.dst undef))
       | false => jko b (o :: r) t (opsJ ops nt m r ((d, true) :: kn) (tput (tput t (some d) (.bool true)) o.dst undef))
         (doJ P G nt o (tput t (some d) (.bool false)) m (opsJ ops nt m r (jif ((d,false)::kn) o)))
     | _=>opsJ ops nt m r kn (tput t o.dst undef)
    | false=>(false,t)
   | none=>(false,t)
def hasGuard(ops:Array Oper):Bool:=ops.toList.any fun o=>match o.guard with | some _=>true | none=>false
end
section
variable {P : Program} {G : Env} {ops : Array Oper} {nt n : Nat} {N : Nat} {w0 : World} {t : Tmps} {m : Lk} {ι : Nm} {a : Act} {w : World} {o : Oper}
theorem jen{i:Nat}{o:Oper}{r:List Oper}(h:asgd (o::r) i=false)(v:Value):tput t o.dst v i=t i:=by
 simp only[asgd,List.any_cons,Kr]at h;cases hd:o.dst with
 | none=>rfl
 | some d=>
  rw[hd]at h;rw[tput_get,Kc];intro e;subst e;simp at h
theorem asgd_tail{i:Nat}{o:Oper}{r:List Oper}(h:asgd (o::r) i=false):asgd r i=false:=by
 have _:=tbs;simp only[asgd,List.any_cons,Kr]at h;exact h.2
theorem doJ_frame{i:Nat}{o:Oper}{r:List Oper}(h:asgd (o::r) i=false){k:Tmps→Bool×Tmps}(hk:∀t,(k t).2 i=t i)(t:Tmps):(doJ P G nt o t m k).2 i=t i:=by
 unfold doJ;split
 ·rfl
 ·split
  ·rfl
  ·split
   ·simp only[hk];exact jen h _
   ·rfl
theorem jep:∀(l:List Oper)(kn:List (Nat×Bool))(t:Tmps)(i:Nat),asgd l i=false→(opsJ P G ops nt m l kn t).2 i=t i
 | [],_,_,_,_=>rfl
 | o::r,kn,t,i,h=>by
  have ih:=fun kn t=>jep r kn t i (asgd_tail h)
  have hd:=fun kn t=>doJ_frame (P:=P) (G:=G) (nt:=nt) (m:=m) h (k:=opsJ P G ops nt m r (jif kn o)) (fun t=>ih _ t) t
  simp only[opsJ];split
  ·exact hd _ _
  ·split
   ·split
    ·split
     ·split
      ·split
       ·exact hd _ _
       ·rw[ih];exact jen h _
      ·split
       ·exact hd _ _
       ·rw[ih];exact jen h _
      ·split
       all_goals
        simp only[jko,h]
     ·rw[ih];exact jen h _
    ·rfl
   ·rfl
theorem doJ_sound{dr:Bool}{K:Tmps→Lk→Nat→Prop}{k:Tmps→Bool×Tmps}(h:(doJ P G nt o t m k).1=true)
  (hk:∀v,(k (tput t o.dst v)).1=true→(k (tput t o.dst v)).2=(doJ P G nt o t m k).2→K (tput t o.dst v) m (n+1)):doOp P G nt dr o t m n K:=by
 unfold doJ at h hk;unfold doOp;split at h
 ·cases h
 ·rename_i hok;simp only[hok]at hk ⊢;split at h
  ·cases h
  ·rename_i hg;simp only[hg]at hk ⊢;split at h
   ·rename_i c v hv;simp only[hv]at hk ⊢;cases c
    ·cases h
    ·exact hk v h rfl
   ·cases h
theorem join_true{l:List Oper}{x y:Bool×Tmps}{d:Nat}(hb:t d= .bool true)(hx:∀i,asgd l i=false→x.2 i=tput t (some d) (.bool true) i):(jko true l t x y).2=x.2:=by
 funext i;simp only[jko];split
 ·exact mergeV_true _ _
 ·rename_i h;rw[hx i h,jcq hb]
theorem join_false{l:List Oper}{x y:Bool×Tmps}{d:Nat}(hb:t d= .bool false)(hx:∀i,asgd l i=false→y.2 i=tput t (some d) (.bool false) i):(jko false l t x y).2=y.2:=by
 funext i;simp only[jko];split
 ·exact mergeV_false _ _
 ·rename_i h;rw[hx i h,jcq hb]
theorem jft{dr:Bool}{K:Tmps→Lk→Nat→Prop}:∀(l:List Oper)(kn:List (Nat×Bool))(t:Tmps)(n:Nat),(opsJ P G ops nt m l kn t).1=true→K (opsJ P G ops nt m l kn t).2 m (n+l.length)→
  opsR P G ops nt dr l t m n K
 | [],_,_,_,_,hk=>hk
 | o::r,kn,t,n,h,hk=>by
  have ih:=fun kn t (h:(opsJ P G ops nt m r kn t).1=true) (hk:K (opsJ P G ops nt m r kn t).2 m (n+(o::r).length))=>
   jft (dr:=dr) (K:=K) r kn t (n+1) h (by rw[show n+1+r.length=n+(o::r).length by simp;omega];exact hk)
  have fr:=fun kn t i (h:asgd (o::r) i=false)=>(jep (P:=P) (G:=G) (ops:=ops) (nt:=nt) (m:=m) r kn (tput t o.dst undef) i (asgd_tail h)).trans (jen h _)
  have fd:=fun kn t i (h:asgd (o::r) i=false)=>doJ_frame (P:=P) (G:=G) (nt:=nt) (m:=m) h (k:=opsJ P G ops nt m r (jif kn o)) (fun t=>jep r _ t i (asgd_tail h)) t
  have hdo:∀{kn t},(doJ P G nt o t m (opsJ P G ops nt m r (jif kn o))).1=true→K (doJ P G nt o t m (opsJ P G ops nt m r (jif kn o))).2 m (n+(o::r).length)→
    doOp P G nt dr o t m n fun t m n=>opsR P G ops nt dr r t m n K:=fun h hk=>doJ_sound h fun v h1 h2=>ih _ _ h1 (by rw[h2];exact hk)
  simp only[opsR,opR];simp only[opsJ]at h hk;split at h
  ·rename_i hg;simp only[hg]at hk ⊢;exact hdo h hk
  ·rename_i j want hg;simp only[hg]at hk ⊢;split at h
   ·rename_i d hd;simp only[hd]at hk ⊢;split at h
    ·rename_i hlt;simp only[hlt]at hk ⊢;cases hb:t d with
     | bool b=>
      simp only[hb]at h hk ⊢;split at h
      ·rename_i hkn;simp only[hkn]at hk ⊢;cases want
       ·cases b
        ·cases h
        ·simp only[cond_true,jcq hb]at h hk ⊢;exact ih _ _ h hk
       ·cases b
        ·cases h
        ·simp only[cond_true,jcq hb]at h hk ⊢;exact hdo h hk
      ·rename_i hkn;simp only[hkn]at hk ⊢;cases want
       ·cases b
        ·simp only[cond_false,jcq hb]at h hk ⊢;exact hdo h hk
        ·cases h
       ·cases b
        ·simp only[cond_false,jcq hb]at h hk ⊢;exact ih _ _ h hk
        ·cases h
      ·rename_i hkn;simp only[hkn]at hk ⊢;cases want
       ·cases b
        ·simp only at hk ⊢;rw[join_false hb (fun i hi=>fd _ _ i hi)]at hk;exact hdo h hk
        ·simp only at hk ⊢;rw[join_true hb (fun i hi=>fr _ _ i hi)]at hk;exact ih _ _ h hk
       ·cases b
        ·simp only at hk ⊢;rw[join_false hb (fun i hi=>fr _ _ i hi)]at hk;exact ih _ _ h hk
        ·simp only at hk ⊢;rw[join_true hb (fun i hi=>fd _ _ i hi)]at hk;exact hdo h hk
     | _=>
      simp only[hb]at h hk ⊢;exact ih _ _ h hk
    ·cases h
   ·cases h
def joinable(G:Env)(o:Oper):Bool:=match o.op with
 | .move _ | .assign _ | .pick _ _ _ | .load _ _ | .fieldAddr _ _ _ | .extract _ _ | .binOp _ _ _ _ _ | .unOp _ _ _ | .nilCheck _=>true
 | .call c=>match c.callee with
  | .value (.func f)=>match G f with
   | some (.pure _)=>true
   | _=>false
  | .builtin .len=>true
  | _=>false
 | _=>false
def sameG:Option (Nat×Bool)→Oper→Bool
 | some (j,b),o=>match o.guard with
  | some (j',b')=>Nat.beq j j'&& (b==b')
  | none=>false
 | none,_=>false
def preN(G:Env):List Oper→Nat×Option (Nat×Bool)
 | []=>(0,none)
 | o::r=>match joinable G o with
  | true=>((preN G r).1+1,(preN G r).2)
  | false=>(0,o.guard)
def backN(g:Option (Nat×Bool)):List Oper→Nat
 | []=>0
 | o::r=>match sameG g o with
  | true=>backN g r
  | false=>r.length+1
def jk9(G:Env)(l:List Oper):Nat:=backN (preN G l).2 (l.take (preN G l).1).reverse
def guardL(l:List Oper):Bool:=l.any fun o=>match o.guard with | some _=>true | none=>false
variable (P G ops nt) in
def opsP(l:List Oper)(t:Tmps)(m:Lk)(n:Nat)(K:Tmps→Lk→Nat→Prop):Prop:=match guardL (l.take (jk9 G l))with
 | true=>match opsJ P G ops nt m (l.take (jk9 G l)) [] t with
  | (c,t')=>bif cnd c then opsR P G ops nt false (l.drop (jk9 G l)) t' m (n+(l.take (jk9 G l)).length) K else False
 | false=>opsR P G ops nt false l t m n K
theorem opsR_app{dr:Bool}{K:Tmps→Lk→Nat→Prop}:∀(a b:List Oper),opsR P G ops nt dr (a++b)=fun t m n K=>opsR P G ops nt dr a t m n fun t m n=>opsR P G ops nt dr b t m n K
 | [],b=>by funext t m n K;rfl
 | o::a,b=>by
  funext t m n K;simp only[List.cons_append,opsR,opsR_app (K:=K) a b]
theorem opsP_sound{K:Tmps→Lk→Nat→Prop}{l:List Oper}(h:opsP P G ops nt l t m n K):opsR P G ops nt false l t m n K:=by
 unfold opsP at h;split at h
 ·rw[←KC (jk9 G l) l,opsR_app (K:=K)];rcases hc:opsJ P G ops nt m (l.take (jk9 G l)) [] t with⟨c,t'⟩
  rw[hc]at h;cases c
  ·cases h
  ·exact jft (dr:=false) (K:=fun t m n=>opsR P G ops nt false (l.drop (jk9 G l)) t m n K) _ [] t n (by rw[hc]) (by rw[hc];exact h)
 ·exact h
end
end Go.Ab
