/-
  Part 3: the run and laws.
-/
import Derived.Test.YtiahilhlpmohoaaGreatDoorL12
set_option linter.unusedVariables false
set_option linter.unusedSimpArgs false
set_option linter.unusedSectionVars false
noncomputable section
set_option maxHeartbeats 3200000
set_option maxRecDepth 100000
namespace Go.Fg
open Go Go.Ab Go.Proofs Go.Shelf Go.Px Go.Cv Go.Cx Go.Ff
open Go.Fx (Ty Vl)
attribute [local instance 5000] tabsB
def icL(l:E):U:=l.map fun n=> .int .i64 n
def isInts:U→Bool
 | []=>true
 | .int .i64 _::r=>isInts r
 | _::_=>false
def zI(d:U)(m:Nat):E:=(d.take m).map iv
def rowI(d:U)(m cap:Nat):Bool:=isInts (d.take m) && (jav d&& (Nat.beq d.length cap&& (Nat.ble m cap&&Nat.ble cap 9223372036854775807)))
inductive RwI where
 | nil
 | own (d:U) (m cap:Nat)
def RwI.v(q:Nat):RwI→Value
 | .nil=> .slice none 0 0
 | .own _ m cap=> .slice (some ⟨q,0,some 1⟩) m cap
def RwI.b:RwI→Option Blk
 | .nil=>none
 | .own d _ _=>some ⟨d,3,true⟩
def RwI.z:RwI→E
 | .nil=> []
 | .own d m _=>zI d m
def RwI.ok:RwI→Bool
 | .nil=>true
 | .own d m cap=>rowI d m cap&&Nat.ble 1 m
def plZ:List Fo→Int→E
 | [],_=> []
 | f::r,i=>bif isD f then i::plZ r (i+1)else plZ r (i+1)
def plV(c:U)(off n:Nat)(i:Int):E:=plZ ((foA c off n).drop i.toNat) i
theorem isInts_cL:∀l:E,isInts (icL l)=true
 | []=>rfl
 | _::r=>isInts_cL r
theorem icL_of:∀{d:U},isInts d=true→icL (d.map iv)=d
 | [],_=>rfl
 | .int .i64 n::r,h=>by
  have:=icL_of (d:=r) h;simp only[icL,List.map_cons,List.map_map]at this ⊢;rw[this];rfl
theorem icL_iv(l:E):(icL l).map iv=l:=by
 simp only[icL,List.map_map];have:(iv∘fun n:Int=>Value.int .i64 n)=id:=by funext n;rfl
 rw[this,List.map_id]
theorem icL_plain(l:E):jav (icL l)=true:=jay.2 fun v hv=>by
 obtain⟨n,_,rfl⟩:=List.mem_map.1 hv;rfl
theorem jc9(l:E):(icL l).length=l.length:=by simp[icL]
theorem jdo{d:U}{m cap:Nat}:rowI d m cap=true↔ ∃l r,d=icL l++r∧l.length=m∧jav r=true∧m+r.length=cap∧cap≤9223372036854775807∧zI d m=l:=by
 simp only[rowI,jaf,Nat.ble_eq,Nat.beq_eq];constructor
 ·rintro ⟨h1,h2,h3,h4,h5⟩;refine⟨zI d m,d.drop m,?_,?_,?_,?_,h5,rfl⟩
  ·rw[zI,icL_of h1,List.take_append_drop]
  ·rw[zI,List.length_map,List.length_take];omega
  ·exact jay.2 fun v hv=>jay.1 h2 v (List.mem_of_mem_drop hv)
  ·rw[List.length_drop];omega
 ·rintro ⟨l,r,rfl,rfl,h1,h2,h3,h4⟩;have e:(icL l++r).take l.length=icL l:=by rw[List.take_append_of_le_length (by rw[jc9];omega),List.take_of_length_le (by rw[jc9];omega)]
  refine⟨by rw[e];exact isInts_cL l,jay.2 fun v hv=>(List.mem_append.1 hv).elim (jay.1 (icL_plain l) v) (jay.1 h1 v),?_,by omega,h3⟩;rw[List.length_append,jc9];omega
theorem jjk(l:E)(r:U):zI (icL l++r) l.length=l:=by
 rw[zI,List.take_append_of_le_length (by rw[jc9];omega),List.take_of_length_le (by rw[jc9];omega),icL_iv]
theorem jhg{l:E}{r:U}{cap:Nat}(h:ja1 r cap l.length 1=true):rowI (icL l++r) l.length cap=true:=by
 obtain⟨h1,h2,h3,h4⟩:=jch h;exact jdo.2 ⟨l,r,rfl,rfl,h1,by omega,h4,jjk l r⟩
theorem jbx{d:U}{m cap:Nat}(h:rowI d m cap=true):jav d=true:=by
 simp only[rowI,jaf]at h;exact h.2.1
theorem rwI_own{d:U}{m cap:Nat}(h:(RwI.own d m cap).ok=true):rowI d m cap=true:=by
 simp only[RwI.ok,jaf]at h;exact h.1
def I0:Env:=Env.nil.add 106 (sp1 Ff.s71)
theorem ok_I0:jao Tryz.prog I0:=jak ja7 Ff.ok71
def V46_0:Blk×U×Nat×Nat×Nat×Nat×Nat×Nat×Nat×Int×RwI×Int×Int→U:=fun(b,c,ty,off,n,cap,off1,n1,cap1,i0,o,z,i)=> [.slice (some ⟨0,off,some 1⟩) n cap,I i0,.slice none 0 0,.pointer (some ⟨3,0,some 0⟩),o.v 200,.slice (some ⟨0,off1,some 1⟩) n1 cap1,I z,I i]
def B46_0:Blk×U×Nat×Nat×Nat×Nat×Nat×Nat×Nat×Int×RwI×Int×Int→F:=fun(b,c,ty,off,n,cap,off1,n1,cap1,i0,o,z,i)=> [some ⟨c,ty,false⟩,some b,o.b]
def S46_0:LSpecA (Blk×U×Nat×Nat×Nat×Nat×Nat×Nat×Nat×Int×RwI×Int×Int) where
 live:=[0,1,4,5,6,12,13,14]
 mid:=[0,3,200]
 n:=220
 ap:=[(.tmp 6,200)]
 dec vs bs:=match vs,bs with
  | [.slice (some ⟨0,off,some 1⟩) n cap,.int .i64 i0,.slice none 0 0,.pointer (some ⟨3,0,some 0⟩),.slice none 0 0,.slice (some ⟨0,off',some 1⟩) n' cap',.int .i64 z,.int .i64 i],[some ⟨c,ty,false⟩,some b,none]=>some (b,c,ty,off,n,cap,off',n',cap',i0,.nil,z,i)
  | [.slice (some ⟨0,off,some 1⟩) n cap,.int .i64 i0,.slice none 0 0,.pointer (some ⟨3,0,some 0⟩),.slice (some ⟨200,0,some 1⟩) m cp,.slice (some ⟨0,off',some 1⟩) n' cap',.int .i64 z,.int .i64 i],[some ⟨c,ty,false⟩,some b,some ⟨d,3,true⟩]=>some (b,c,ty,off,n,cap,off',n',cap',i0,.own d m cp,z,i)
  | _,_=>none
 pre:=fun(b,c,ty,off,n,cap,off1,n1,cap1,i0,o,z,i)=>jav b.c&& (o.ok&& (foOK c off n&&decide (n≤1000000∧z=n∧0≤i∧i≤n∧o.z.length≤i∧off1=off∧n1=n∧cap1=cap)))
 fin:=fun(b,c,ty,off,n,cap,off1,n1,cap1,i0,o,z,i) Z=>(o.z++plV c off n i=[]→Z (.exit 0) [.slice (some ⟨0,off,some 1⟩) n cap,I i0,.slice none 0 0,.pointer (some ⟨3,0,some 0⟩),.slice none 0 0,.slice (some ⟨0,off1,some 1⟩) n1 cap1,I z,I z] [some ⟨c,ty,false⟩,some b,none])∧(o.z++plV c off n i≠ []→ ∀d' m' cp',rowI d' m' cp'=true→zI d' m'=o.z++plV c off n i→Z (.exit 0) [.slice (some ⟨0,off,some 1⟩) n cap,I i0,.slice none 0 0,.pointer (some ⟨3,0,some 0⟩),(.slice (some ⟨200,0,some 1⟩) m' cp'),.slice (some ⟨0,off1,some 1⟩) n1 cap1,I z,I z] [some ⟨c,ty,false⟩,some b,some ⟨d',3,true⟩])
def jm(d:Int)(f:U)(a b c:Nat)(e:Value):U:=Fg.K42.cl a b c::ak d::bt::dq 3::e::f
def jn(e:Blk)(a:List (Prod Nat Nat))(b:U)(d:Nat)(f:Option Blk):F:=[some (.mk (rlbL a b) d false),iz e a,f]
def fp:List (Prod Nat Nat):=[(232,200)]
theorem r46_0n(b:Blk)(c:U)(ty:Nat)(off:Nat)(n:Nat)(cap:Nat)(off1:Nat)(n1:Nat)(cap1:Nat)(i0:Int)(z:Int)(i:Int)(jk:Tmps)(R:Exit→U→F→Prop):(jbz Tryz.prog I0 noL Tryz.f61.ntmps (ja9 Tryz.f61 0) (tl S46_0.live (V46_0 (b,c,ty,off,n,cap,off1,n1,cap1,i0,.nil,z,i)) jk) (ml S46_0.mid (B46_0 (b,c,ty,off,n,cap,off1,n1,cap1,i0,.nil,z,i))) S46_0.n fun e t' m' _=>S46_0.out R e t' m')=(bif al i z then b4 (Fg.K42.d9 i c off1) i n1 (bif decide (jaj c (off1+Fg.K42.cm i)≤4)then∀a:Nat,∀d:U,ja1 d a 1 1=true→ax (dm (jat fp (ak i::d) &&true) fp c b.c) R (jn b fp c ty (some (.mk (rlbL fp (ak i::d)) 3 true))) (jm i0 (dt z i 0 off1 n1 cap1) off n cap (am 200 0 1 a))else ax (dm true [] c b.c) R (jn b [] c ty none) (jm i0 (dt z i 0 off1 n1 cap1) off n cap bt))else bw (dm true [] c b.c) R (jn b [] c ty none) (jm i0 (Fg.K42.cl off1 n1 cap1::ar z i) off n cap bt) 0):=by kernel_rfl
def ia:List (Prod Nat Nat):=[(200,200)]
theorem r46_0o(b:Blk)(c:U)(ty:Nat)(off:Nat)(n:Nat)(cap:Nat)(off1:Nat)(n1:Nat)(cap1:Nat)(i0:Int)(d:U)(m:Nat)(cp:Nat)(z:Int)(i:Int)(jk:Tmps)(R:Exit→U→F→Prop):(jbz Tryz.prog I0 noL Tryz.f61.ntmps (ja9 Tryz.f61 0) (tl S46_0.live (V46_0 (b,c,ty,off,n,cap,off1,n1,cap1,i0,.own d m cp,z,i)) jk) (ml S46_0.mid (B46_0 (b,c,ty,off,n,cap,off1,n1,cap1,i0,.own d m cp,z,i))) S46_0.n fun e t' m' _=>S46_0.out R e t' m')=(bif al i z then b4 (Fg.K42.d9 i c off1) i n1 (bif decide (jaj c (off1+Fg.K42.cm i)≤4)then ft d cp m 8 (∀a:Nat,∀e:U,fu e a m→ax (dm (jat fp (dy d [ak i] e m 1) &&true) fp c b.c) R (jn b fp c ty (some (.mk (rlbL fp (dy d [ak i] e m 1)) 3 true))) (jm i0 (dt z i 0 off1 n1 cap1) off n cap (am 200 0 (m+1) a)))else ax (dm (jat ia d&&true) ia c b.c) R (jn b ia c ty (dv d 200 200 3)) (jm i0 (dt z i 0 off1 n1 cap1) off n cap (am 200 0 m cp)))else bw (dm (jat ia d&&true) ia c b.c) R (jn b ia c ty (dv d 200 200 3)) (jm i0 (Fg.K42.cl off1 n1 cap1::ar z i) off n cap (am 200 0 m cp)) 0):=by kernel_rfl
theorem l46_0:LOKf Tryz.prog (oneL 0 S46_0.hA) Tryz.f61:=by
 refine jbk (h:=S46_0.hA) (by kernel_rfl) (jb1 ok_I0 hmix (by kernel_rfl) (ja6 _) S46_0 V46_0 B46_0 (fun(b,c,ty,off,n,cap,off1,n1,cap1,i0,o,z,i)=>(n-i).toNat) ?_ ?_ ?_)
 ·intro vs bs s h;simp only[S46_0]at h;split at h
  all_goals first | (cases h;exact⟨rfl,rfl⟩) | cases h | (split at h<;>first | (rename_i hq;cases h;have hq:=jah hq;subst hq;exact⟨rfl,rfl⟩) | (rename_i hq;cases h;simp only[cnd,jaf,Nat.beq_eq]at hq;obtain⟨rfl,rfl,rfl⟩:=hq;exact⟨rfl,rfl⟩) | cases h)
 ·exact fun⟨b,c,ty,off,n,cap,off1,n1,cap1,i0,o,z,i⟩ hp=>by
   simp only[S46_0,jaf]at hp;have hq:=jar (jcj hp.2.2.1).2.1;have hb:=jar hp.1;cases o with
   | nil=>simp[V46_0,B46_0,S46_0,jaz,jbn,idsL,ids,RwI.v,RwI.b,hb,hq]
   | own d m cap=>simp[V46_0,B46_0,S46_0,jaz,jbn,idsL,ids,RwI.v,RwI.b,hb,hq,jar (jbx (rwI_own hp.2.1))]
 ·intro⟨b,c,ty,off,n,cap,off1,n1,cap1,i0,o,z,i⟩ jk Z hp hf;simp only[S46_0]at hp hf;simp only[jaf,jae]at hp;obtain⟨hb,hr,ho,h1,rfl,h3,h4,h5,x1,x2,x3⟩:=hp
  replace x1:=x1.symm
  replace x2:=x2.symm
  replace x3:=x3.symm
  subst x1 x2 x3;obtain⟨hl,hpl,hat⟩:=jcj ho;have eb:∀ps,rlbL ps b.c=b.c:=fun ps=>rlbL_plain ps hb
  have gb:∀ps,jat ps b.c=true:=fun ps=>goodL_plain hb
  have ec:∀ps,rlbL ps c=c:=fun ps=>rlbL_plain ps hpl
  have gc:∀ps,jat ps c=true:=fun ps=>goodL_plain hpl
  have hstep:i<(n:Int)→ ∃f,(foA c off n)[i.toNat]?=some f∧f.s.size≤9223372036854775807∧
    jam .i64 c (off+i.toNat*4)=true∧jam .i64 c (off+i.toNat*4+1)=true∧jam .i64 c (off+i.toNat*4+1+1)=true∧jbp c (off+i.toNat*4+1+1+1)=true∧
    jaj c (off+i.toNat*4)=f.k∧plV c off n i=bif isD f then i::plV c off n (i+1)else plV c off n (i+1):=fun h=>by
   obtain⟨f,hf1,hsz,q1,q2,q3,q4,e1,e2,e3,e4⟩:=hat i.toNat (by omega);refine⟨f,hf1,hsz,q1,q2,q3,q4,e1,?_⟩;rw[plV,plV,jeo hf1,plZ,show(i+1).toNat=i.toNat+1 by omega]
  have hend:i=n→plV c off n i=[]:=fun h=>by
   rw[plV,h,Int.toNat_natCast,List.drop_eq_nil_of_le (by omega),plZ]
  cases o with
  | nil=>
   rw[r46_0n];delta bw dq bt ak Fg.K42.cl jm ar iz jn dm cw b4 ax bq bp br am dt fp Fg.K42.cm Fg.K42.gu Fg.K42.dx Fg.K42.d9 al;simp only[RwI.z,List.length_nil,List.nil_append]at hf h5;apply cond_intro<;>intro h
   ·have h:=jab h;obtain⟨f,hf1,hsz,q1,q2,q3,q4,e1,ep⟩:=hstep h;rw[q1,q2,q3,q4,e1];rw[ep]at hf;refine c_t (jaa (by omega)) (c_t rfl (cond_intro (fun q=>fun cq tail ht=> ?_) (fun q=> ?_)))
    ·have hr1:=jhg (l:=[i]) ht;have hz1:=jjk [i] tail;have q:isD f=true:=q;rw[q,cond_true]at hf;refine c_t (by simp[gc,gb,goodL_plain (jbx (d:=Value.int IntKind.i64 i::tail) hr1)]) ?_;rw[ec,eb,rlbL_plain _ (jbx (d:=Value.int IntKind.i64 i::tail) hr1),w64 (by omega)];refine⟨(b,c,ty,off,n,cap,off,n,cap,i0,.own (.int .i64 i::tail) 1 cq,n,i+1),rfl,rfl,?_,by simp only;omega,?_⟩
     ·simp only[S46_0,jaf,jae];exact⟨hb,by simp only[RwI.ok,jaf];exact⟨hr1,rfl⟩,ho,h1,trivial,by omega,by omega,by simp only[RwI.z];rw[show zI (Value.int IntKind.i64 i::tail) 1=[i]from hz1];simp;omega,by trivial,by trivial,by trivial⟩
     ·simp only[S46_0,RwI.z];rw[show zI (Value.int IntKind.i64 i::tail) 1=[i]from hz1];exact hf
    ·have q:isD f=false:=q;rw[q,cond_false]at hf;refine c_t (by simp[gc,gb]) ?_;rw[ec,eb,w64 (by omega)];refine⟨(b,c,ty,off,n,cap,off,n,cap,i0,.nil,n,i+1),rfl,rfl,?_,by simp only;omega,?_⟩
     ·simp only[S46_0,jaf,jae];exact⟨hb,hr,ho,h1,trivial,by omega,by omega,by simp only[RwI.z,List.length_nil];omega,by trivial,by trivial,by trivial⟩
     ·simp only[S46_0,RwI.z,List.nil_append];exact hf
   ·have h:=jac h;obtain rfl:i=n:=by omega
    refine c_t (by simp[gc,gb]) ?_;rw[ec,eb];exact hf.1 (hend rfl)
  | own d m cp=>
   rw[r46_0o];delta bw dq bt ak Fg.K42.cl jm am ar iz jn dv ia dm cw b4 ax bq bp br dt gq jz ft dy fp fu Fg.K42.cm Fg.K42.gu Fg.K42.dx Fg.K42.d9 al;simp only[RwI.z]at hf h5;simp only[RwI.ok,jaf,Nat.ble_eq]at hr;obtain⟨hr,hm1⟩:=hr;have hdp:=jbx hr;have ed:∀ps,rlbL ps d=d:=fun ps=>rlbL_plain ps hdp
   have gd:∀ps,jat ps d=true:=fun ps=>goodL_plain hdp
   apply cond_intro<;>intro h
   ·have h:=jab h;obtain⟨f,hf1,hsz,q1,q2,q3,q4,e1,ep⟩:=hstep h;rw[q1,q2,q3,q4,e1];rw[ep]at hf;obtain⟨l,r,rfl,rfl,t1,t2,t3,t4⟩:=jdo.1 hr;rw[t4]at hf h5;refine c_t (jaa (by omega)) (c_t rfl (cond_intro (fun q=>c_t ?_ fun cq tail ht=> ?_) (fun q=> ?_)))
    ·simp only[jaf,Nat.beq_eq,Nat.ble_eq,jb3,List.length_append,jc9];exact⟨⟨⟨⟨by omega,by omega⟩,by omega⟩,trivial⟩,by omega,by omega⟩
    ·have e:List.take (l.length*1) (icL l++r)++ [Value.int IntKind.i64 i]++tail=icL (l++ [i])++tail:=by
      rw[List.take_append_of_le_length (by rw[jc9];omega),List.take_of_length_le (by rw[jc9];omega)];simp[icL]
     have hr1:=jhg (l:=l++ [i]) (r:=tail) (cap:=cq) (by rw[List.length_append];exact ht);have hz1:=jjk (l++ [i]) tail;have q:isD f=true:=q;rw[q,cond_true]at hf;rw[e];have gp:=jbx hr1;refine c_t (by simp[gc,gb,goodL_plain gp]) ?_;rw[ec,eb,rlbL_plain _ gp,w64 (by omega)];refine⟨(b,c,ty,off,n,cap,off,n,cap,i0,.own (icL (l++ [i])++tail) (l.length+1) cq,n,i+1),rfl,rfl,?_,by simp only;omega,?_⟩
     ·rw[List.length_append]at hr1;simp only[S46_0,jaf,jae];rw[List.length_append]at hz1;exact⟨hb,by simp only[RwI.ok,jaf,Nat.ble_eq];exact⟨hr1,by omega⟩,ho,h1,trivial,by omega,by omega,by simp only[RwI.z];rw[show zI (icL (l++ [i])++tail) (l.length+1)=l++ [i]from hz1];simp;omega,by trivial,by trivial,by trivial⟩
     ·simp only[S46_0,RwI.z];rw[List.length_append]at hz1;rw[show zI (icL (l++ [i])++tail) (l.length+1)=l++ [i]from hz1,List.append_assoc];exact hf
    ·have q:isD f=false:=q;rw[q,cond_false]at hf;refine c_t (by simp[gc,gb,gd]) ?_;rw[ec,eb,ed,w64 (by omega)];refine⟨(b,c,ty,off,n,cap,off,n,cap,i0,.own (icL l++r) l.length cp,n,i+1),rfl,rfl,?_,by simp only;omega,?_⟩
     ·simp only[S46_0,jaf,jae];exact⟨hb,by simp only[RwI.ok,jaf,Nat.ble_eq];exact⟨hr,hm1⟩,ho,h1,trivial,by omega,by omega,by simp only[RwI.z,t4];omega,by trivial,by trivial,by trivial⟩
     ·simp only[S46_0,RwI.z,t4];exact hf
   ·have h:=jac h;obtain rfl:i=n:=by omega
    refine c_t (by simp[gc,gb,gd]) ?_;rw[ec,eb,ed];rw[hend rfl,List.append_nil]at hf
    have hz:zI d m≠ []:=by
     obtain⟨l,r,rfl,rfl,t1,t2,t3,t4⟩:=jdo.1 hr;rw[t4];intro e;rw[e]at hm1;simp at hm1
    exact hf.2 hz d m cp hr rfl
attribute [local instance 5000] tabsB
def jfw(m:Lk):Value→F
 | .tuple ⟨.slice (some a) _ _::_⟩=> [m a.block]
 | _=> []
def lq(c:U)(f g:Nat):E:=Fg.plZ (((Classical.indefiniteDescription (fun a:U→Nat→Nat→List Ff.Fo=>a=(fun b:U=>fun d=>fun e=>(Fg.fosN e (b.drop d)).getD ([]:List Ff.Fo))) Fg.jhb).val (rlbL [] c) f g).drop (Int.toNat 0)) 0
def k9(b:Bool)(a:U)(c d:Nat)(e f:Prop):Prop:=bif ii [] a 220 then bif b then(lq a c d=([]:E)→dw true (rlbL [] a) 220 e)∧(lq a c d≠([]:E)→f)else False else False
def la(a d:U)(b c e f:Nat)(g:Prop):Prop:=Fg.rowI a b c=true→List.map iv (a.take b)=Fg.RwI.z Fg.RwI.nil++Fg.plV (rlbL [] d) e f 0→dw (bu a 220) (rlbL [] d) 220 g
def fq(a:Int)(b:Nat):Int:=a.tmod (natO b)
def c7(b:Int)(a:U)(c:Nat):Int:=jaj a (0+(fq b c).toNat*1)
def l7(c:Int)(a d:U)(b e:Nat):Value:= .agg ⟨[.int .i64 (jaj (rlbL [] a) (b+Fg.K42.cm (c7 c d e))),.int .i64 (jaj (rlbL [] a) (b+Fg.K42.cm (c7 c d e)+1)),.int .i64 (jaj (rlbL [] a) (b+Fg.K42.cm (c7 c d e)+1+1)),.string (jb7 (rlbL [] a) (b+Fg.K42.cm (c7 c d e)+1+1+1))]⟩
def l8(c:Int)(a d:U)(b e:Nat):Bool:=jam .i64 (rlbL [] a) (b+Fg.K42.cm (c7 c d e)) &&Fg.K42.gu (rlbL [] a) (b+Fg.K42.cm (c7 c d e)+1)
def l4(b:Int)(c f l:U)(a d e i k:Nat)(j:Value→F→Prop):Prop:=∀g:Nat,∀h:U,ja1 h g a 4=true→gm (l8 b f c i d) (c7 b c d) (e:Int) (j (ay [am k 0 a g,l7 b f c i d]) (bk (l++h) 48)) False
def lm(a b c:Nat):Nat:=bif a.beq b then c else c+b*4
def ip(e:U)(a b c d:Nat):U:=(e.drop (lm b c d)).take (a*4)
def kg(e:U)(a b c d:Nat):Bool:=Nat.ble (lm a b c+(d-b)*4) e.length&& (ip e (d-b) a b c).all jcx
def lb(a c:Int)(b j:U)(d g h i k m:Nat)(l:Value→F→Prop):Prop:=bif bv a (c7 c b d) g then b8 (kg (rlbL [] j) g h i (c7 c b d).toNat) (jb3 ((c7 c b d).toNat-h) 40) (Nat.beq ((c7 c b d).toNat-h) 0) (gm (l8 c j b i d) (c7 c b d) (k:Int) (l (ay [bt,l7 c j b i d]) []) False) (l4 c b j (ip (rlbL [] j) ((c7 c b d).toNat-h) g h i) ((c7 c b d).toNat-h) d k i m l)else False
def jw(b:Int)(a:U):Int:=IntKind.i64.wrap (jaj a (0+(b9 b 1).toNat*1)+1)
def ez(a:U)(b:Nat):Nat:=(jw (natO b) a).toNat
def lc(b e:U)(a c d f:Nat)(g h:Prop):Prop:=bif dp (b9 (natO a) 1) (a:Int)then bif jam .i64 b (0+(b9 (natO a) 1).toNat*1)then bif bv (jw (natO a) b) (c:Int) d then b8 (kg e d (ez b a) f c) (jb3 (c-ez b a) 40) (Nat.beq (c-ez b a) 0) g h else False else False else False
def lf(j:Int)(b f g:U)(a c d e h i k:Nat):Bool:=gq (ip f (a-ez b c) d (ez b c) e++g) h 4 (a-ez b c) &&kg f d i e j.toNat&&jb3 (a-ez b c+k) 40
theorem w46(c:U)(ty:Nat)(off:Nat)(n:Nat)(cap:Nat)(i:Int)(R:Value→F→Prop):(ja4 Tryz.prog I0 (oneL 0 S46_0.hA) Tryz.f61 [.slice (some ⟨0,off,some 1⟩) n cap,I i] (vw c ty) 2 (fun v m' _=>R v (jfw m' v)))=(k9 (Fg.S46_0.toLSpec.pre (Blk.mk [ak 0,ak 0,ak 0,e7] 48 true,(rlbL [] c,(ty,(off,(n,(cap,(off,(n,(cap,(i,(Fg.RwI.nil,(natO n,(0:Int)))))))))))))) c off n (bif decide (natO 0≠0)then False else False) (∀a:U,∀b:Nat,∀d:Nat,la a c b d off n (bif decide (natO b≠0)then gm (jam .i64 a (0+(fq i b).toNat*1)) (fq i b) (b:Int) (bif aq (fq i b) 0 then bif dp (b9 (fq i b) 1) (b:Int)then bif jam .i64 a (0+(b9 (fq i b) 1).toNat*1)then lb (jw (fq i b) a) i a c b cap (jw (fq i b) a).toNat off n 244 R else False else False else bif aq i 0 then lc a (rlbL [] c) b n cap off (lb 0 i a c b cap 0 off n 253 R) (∀e:Nat,∀f:U,ja1 f e (n-ez a b) 4=true→(bif bv 0 (c7 i a b) cap then bif lf (c7 i a b) a (rlbL [] c) f n b cap off e 0 ((c7 i a b).toNat-0)then l4 i a c ((ip (rlbL [] c) (n-ez a b) cap (ez a b) off++f).take ((n-ez a b)*4)++ip (rlbL [] c) ((c7 i a b).toNat-0) cap 0 off) (n-ez a b+((c7 i a b).toNat-0)) b n off 253 R else False else False))else lb 0 i a c b cap 0 off n 241 R) False else False))):=by kernel_rfl
end Go.Fg
end
noncomputable section
set_option maxHeartbeats 3200000
set_option maxRecDepth 100000
namespace Go.Fg
open Go Go.Ab Go.Proofs Go.Shelf Go.Px Go.Cv Go.Cx Go.Ff
attribute [local instance 5000] tabsB
theorem jft:∀(l:List Fo)(k:Nat),plZ l k=(plc isD l k).map fun n:Nat=>(n:Int)
 | [],_=>rfl
 | f::r,k=>by
  have ih:=jft r (k+1);rw[plZ,plc];rw[show((k+1:Nat):Int)=(k:Int)+1 from rfl]at ih;cases isD f
  ·exact ih
  ·exact congrArg (List.cons (k:Int)) ih
theorem jd9:∀(l:List Fo),(fcL l).all jcx=true
 | []=>rfl
 | f::r=>by simp[fcL,jcx,jd9 r]
theorem cut_cells{c:U}{off n:Nat}(h:foOK c off n=true){lo q:Nat}(h2:lo+q≤n):List.take (q*4) (List.drop (off+lo*4) c)=fcL (((foA c off n).drop lo).take q):=by
 obtain⟨h1,⟨r,hr⟩,_⟩:=jfm.1 h;rw[←List.drop_drop,hr,List.drop_append_of_le_length (by rw[jcz];omega),fcL_drop,List.take_append_of_le_length (by rw[jcz,List.length_drop];omega),fcL_take]
theorem cutF{c:U}{off n cap:Nat}(h:foOK c off n=true)(hn:1≤n)(hn':n≤1000000)(hc:n≤cap){lo hi:Nat}(h1:lo≤hi)(h2:hi≤n):
  List.take ((hi-lo)*4) (List.drop (bif Nat.beq cap lo then off else off+lo*4) c)=fcL (((foA c off n).drop lo).take (hi-lo))∧
  Nat.ble ((bif Nat.beq cap lo then off else off+lo*4)+(hi-lo)*4) c.length=true∧jb3 (hi-lo) 40=true:=by
 obtain⟨g1,⟨r,hr⟩,_⟩:=jfm.1 h;have hlen:=congrArg List.length hr;rw[List.length_drop,List.length_append,jcz,g1]at hlen;refine⟨?_,?_,?_⟩
 ·cases hb:Nat.beq cap lo
  ·rw[cond_false];exact cut_cells h (by omega)
  ·have:=jah hb;rw[show hi-lo=0 by omega];simp[fcL]
 ·rw[Nat.ble_eq];cases hb:Nat.beq cap lo
  ·rw[cond_false];omega
  ·have:=jah hb;rw[cond_true];omega
 ·simp only[jb3,jaf,Nat.ble_eq];omega
def ctL(l:List Fo)(i:Nat):List Fo:=(if i%(grp isD l).1.length=0∧0<i then(grp isD l).2 else [])++((grp isD l).1.getD (i%(grp isD l).1.length) []).dropLast
def dfL(l:List Fo)(i:Nat):Fo:=(((grp isD l).1.getD (i%(grp isD l).1.length) []).getLast?).getD ⟨0,0,0,⟨#[]⟩⟩
theorem it_split{l:List Fo}{i:Nat}(h:0<(grp isD l).1.length):itL isD l i=ctL l i++ [dfL l i]:=by
 have h1:=je8 isD l (i%(grp isD l).1.length) (Nat.mod_lt _ h);unfold itL ctL dfL;rw[List.append_assoc];congr 1;generalize (grp isD l).1.getD (i%(grp isD l).1.length) []=g at h1 ⊢;have hne:g≠ []:=by rintro rfl;simp at h1
 rw[List.getLast?_eq_some_getLast hne,Option.getD_some,List.dropLast_concat_getLast hne]
abbrev fv(f:Fo):Value:= .agg ⟨[.int .i64 f.k,.int .i64 f.w,.int .i64 f.d,.string f.s]⟩
def R46(o:List Fo)(f:Fo)(v:Value)(bs:F):Prop:=
 (o=[]∧v= .tuple ⟨[.slice none 0 0,fv f]⟩)∨(o≠ []∧ ∃a cap tail,v= .tuple ⟨[oslc a 0 o.length cap,fv f]⟩∧bs=[some ⟨fcL o++tail,48,true⟩]∧ja1 tail cap o.length 4=true)
theorem ji1{o:List Fo}{f:Fo}{v:Value}{bs:F}(h:o=[])(hv:v= .tuple ⟨[.slice none 0 0,fv f]⟩):R46 o f v bs:= .inl ⟨h,hv⟩
theorem jh0{o o':List Fo}{f:Fo}{q a cap:Nat}{cs tail:U}(he:o'=o)(hq:q=o.length)(h:q≠0)(hc:cs=fcL o')(ht:ja1 tail cap q 4=true):R46 o f (.tuple ⟨[.slice (some ⟨a,0,some 1⟩) q cap,fv f]⟩) [some ⟨cs++tail,48,true⟩]:=by
 subst he hq hc;exact .inr ⟨fun e=>h (by rw[e];rfl),a,cap,tail,rfl,rfl,ht⟩
theorem jg9{l:E}{r:U}{z:Int}{j:Nat}{x:Int}(hz:z.toNat=j)(h:l[j]?=some x):jam .i64 (icL l++r) (0+z.toNat*1)=true∧jaj (icL l++r) (0+z.toNat*1)=x:=by
 rw[hz];obtain⟨hj,rfl⟩:=List.getElem?_eq_some_iff.1 h
 have:(icL l++r)[0+j*1]?=some (.int .i64 l[j]):=by
  rw[Nat.zero_add,Nat.mul_one,List.getElem?_append_left (by rw[jc9];exact hj)];simp[icL,hj]
 simp only[jam,jaj,this,beq_self_eq_true,and_self]
theorem fo_load{c:U}{off n:Nat}(h:foOK c off n=true){a:Nat}{f:Fo}(ha:(foA c off n)[a]?=some f):
  (jam .i64 c (off+a*4) && (jam .i64 c (off+a*4+1) && (jam .i64 c (off+a*4+1+1) && (jbp c (off+a*4+1+1+1) &&true))))=true∧
  jaj c (off+a*4)=f.k∧jaj c (off+a*4+1)=f.w∧jaj c (off+a*4+1+1)=f.d∧jb7 c (off+a*4+1+1+1)=f.s:=by
 obtain⟨hl,_,hat⟩:=jcj h;have hi:=(List.getElem?_eq_some_iff.1 ha).1;obtain⟨f',hf',_,q1,q2,q3,q4,e1,e2,e3,e4⟩:=hat a (by omega);rw[ha]at hf';cases hf';exact⟨by rw[q1,q2,q3,q4];rfl,e1,e2,e3,e4⟩
theorem own_last{l:List Fo}{o:Nat}(h:o<(grp isD l).1.length):l[((grp isD l).1.take o).flatten.length+((grp isD l).1.getD o []).length-1]?=some ((((grp isD l).1.getD o []).getLast?).getD ⟨0,0,0,⟨#[]⟩⟩)∧
  (l.drop ((grp isD l).1.take o).flatten.length).take (((grp isD l).1.getD o []).length-1)=((grp isD l).1.getD o []).dropLast:=by
 have h1:=je8 isD l o h;have h2:=jiu isD l o h;generalize ((grp isD l).1.take o).flatten.length=S at h2 ⊢;generalize hg:(grp isD l).1.getD o []=g at h1 h2 ⊢;have hne:g≠ []:=by rintro rfl;simp at h1
 constructor
 ·rw[List.getLast?_eq_getElem?]
  conv=>rhs;rw[←h2]
  rw[List.getElem?_take_of_lt (by rw[h2];omega),List.getElem?_drop,h2,show S+(g.length-1)=S+g.length-1 by omega]
  have hlt:S+g.length-1<l.length:=by
   have:=congrArg List.length h2;rw[List.length_take,List.length_drop]at this;omega
  rw[List.getElem?_eq_getElem hlt];rfl
 ·rw[List.dropLast_eq_take]
  conv=>rhs;rw[←h2]
  rw[List.take_take,h2,show min (g.length-1) g.length=g.length-1 by omega]
theorem S_le{l:List Fo}{o:Nat}(h:o<(grp isD l).1.length):((grp isD l).1.take o).flatten.length+((grp isD l).1.getD o []).length≤l.length:=by
 have h2:=congrArg List.length (jiu isD l o h);have h1:=je8 isD l o h;rw[List.length_take,List.length_drop]at h2;omega
theorem w46_ok{c:U}{ty off n cap:Nat}{i:Int}(ho:foOK c off n=true)(hn:n≤1000000)(hc:n≤cap)(hg:0<(grp isD (foA c off n)).1.length)(hi:0≤i):
  ja4 Tryz.prog I0 (oneL 0 S46_0.hA) Tryz.f61 [.slice (some ⟨0,off,some 1⟩) n cap,I i] (vw c ty) 2 (fun v m' _=>R46 (ctL (foA c off n) i.toNat) (dfL (foA c off n) i.toNat) v (jfw m' v)):=by
 obtain⟨hl,hpl,_⟩:=jcj ho;have hid:jaz 220 c=true:=jcc hpl;have ec:rlbL [] c=c:=rlbL_plain [] hpl;rw[w46];delta lq dw bu ck ii k9 la dp gm b8 bk ay Fg.K42.cm fq c7 l7 am Fg.K42.gu l8 l4 lm ip bt kg bv lb b9 jw ez lc gq lf aq e7 ak;rw[ec];refine c_t (by rw[hid,goodL_plain hpl];rfl) (c_t ?_ ⟨fun h=> ?_,fun h d' m' cp hr hz=> ?_⟩)
 ·simp only[S46_0,jaf,jae];exact⟨rfl,rfl,ho,hn,ja3 n,by omega,by omega,by simp[RwI.z],trivial,trivial,trivial⟩
 ·exfalso;have e:plZ (foA c off n) 0=[]:=h;have:=congrArg List.length e;rw[show(0:Int)=((0:Nat):Int)from rfl,jft,List.length_map,plc_len,←jd8,List.length_nil]at this;omega
 obtain⟨P,r,rfl,rfl,t1,t2,t3,t4⟩:=jdo.1 hr
 have hP:P=(plc isD (foA c off n) 0).map fun n:Nat=>(n:Int):=by
  rw[←jft,←t4];exact hz
 clear hz t4;generalize hL:foA c off n=L at*;have hPl:P.length=(grp isD L).1.length:=by rw[hP,List.length_map,plc_len,jd8]
 have hkn:(grp isD L).1.length≤n:=by
  rw[jd8,←hl];exact List.countP_le_length
 have n1:1≤n:=by omega
 generalize hk:(grp isD L).1.length=k at*
 have him:i.tmod (P.length:Int)=((i.toNat%k:Nat):Int):=by
  rw[hPl,Int.tmod_eq_emod_of_nonneg hi];obtain⟨j,rfl⟩:=Int.eq_ofNat_of_zero_le hi;simp
 have hok:i.toNat%k<k:=Nat.mod_lt _ hg;have hdp:=jbx hr;rw[ja3,him];generalize hoo:i.toNat%k=o at*;have hAt:=plc_own isD L o (by omega);have hS:=S_le (l:=L) (o:=o) (by omega);have hg1:=je8 isD L o (by omega);obtain⟨hA,hcut⟩:=own_last (l:=L) (o:=o) (by omega);obtain⟨f1,f2,f3,f4,f5⟩:=fo_load ho (a:=Int.toNat ((((grp isD L).1.take o).flatten.length+((grp isD L).1.getD o []).length-1:Nat):Int)) (by rw[hL];exact hA);have hdf:dfL L i.toNat=(((grp isD L).1.getD o []).getLast?).getD ⟨0,0,0,⟨#[]⟩⟩:=by unfold dfL;rw[hk,hoo]
 have hct:ctL L i.toNat=(if o=0∧0<i.toNat then(grp isD L).2 else [])++((grp isD L).1.getD o []).dropLast:=by unfold ctL;rw[hk,hoo]
 have hdl:(((grp isD L).1.getD o []).dropLast).length=((grp isD L).1.getD o []).length-1:=List.length_dropLast;generalize hG:(grp isD L).1.getD o []=g at*;generalize hSS:((grp isD L).1.take o).flatten.length=S at*;obtain⟨iA,eA⟩:=jg9 (l:=P) (r:=r) (z:=(o:Int)) (j:=o) rfl (x:=((S+g.length-1:Nat):Int)) (by rw[hP,List.getElem?_map,hAt];rfl);rw[←hdf]at f2 f3 f4 f5;refine c_t (by rw[hid];simp[jcc hdp]) fun _=>c_t (jaa (by omega)) (c_t (jaa (by omega)) ?_)
 rw[iA,eA];refine c_t rfl ?_;rw[f1,f2,f3,f4,f5];have hcond:decide (0≤((S+g.length-1:Nat):Int)∧((S+g.length-1:Nat):Int)<(n:Int))=true:=jaa (by omega);rw[hcond];simp only[cond_true];apply cond_intro<;>intro h0
 ·have h0:(o:Int)>0:=jab h0;obtain⟨p,hp1,hp2⟩:=plc_prev isD L o (by omega) (by omega);rw[hSS]at hp2;have ew:IntKind.wrap .i64 ((o:Int)-1)=((o-1:Nat):Int):=by rw[w64 (by omega)];omega
  obtain⟨iP,eP⟩:=jg9 (l:=P) (r:=r) (z:=((o-1:Nat):Int)) (j:=o-1) rfl (x:=(p:Int)) (by rw[hP,List.getElem?_map,hp1];rfl);rw[ew];rw[iP,eP];have ew2:IntKind.wrap .i64 ((p:Int)+1)=(S:Int):=by rw[w64 (by omega)];omega
  rw[ew2];obtain⟨c1,c2,c3⟩:=cutF ho n1 hn hc (lo:=Int.toNat (S:Int)) (hi:=Int.toNat ((S+g.length-1:Nat):Int)) (by omega) (by omega);rw[c1,c2,c3,hL,jd9];have e1:Int.toNat ((S+g.length-1:Nat):Int)-Int.toNat (S:Int)=g.length-1:=by omega
  rw[e1];have hctl:ctL L i.toNat=g.dropLast:=by rw[hct,if_neg (by omega),List.nil_append]
  refine c_t (jaa (by omega)) (c_t rfl (c_t (jaa (by omega)) (c_t rfl (cond_intro (fun q=> ?_) (fun q=>fun cap1 tail ht=> ?_)))))
  ·have q:=jah q;exact ji1 (by rw[hctl];exact List.length_eq_zero_iff.1 (by omega)) rfl
  ·have q:g.length-1≠0:=fun e=>by rw[e]at q;cases q
   exact jh0 (o':=(L.drop (Int.toNat (S:Int))).take (g.length-1)) (by rw[hctl];exact hcut) (by rw[hctl];omega) q rfl ht
 ·have h0:¬(o:Int)>0:=jac h0;have ho0:o=0:=by omega
  have hS0:S=0:=by rw[←hSS,ho0];rfl
  obtain⟨c1,c2,c3⟩:=cutF ho n1 hn hc (lo:=0) (hi:=Int.toNat ((S+g.length-1:Nat):Int)) (by omega) (by omega);have e1:Int.toNat ((S+g.length-1:Nat):Int)-0=g.length-1:=by omega
  rw[c1,c2,c3,hL,jd9];rw[e1];rw[hS0]at hcut;apply cond_intro<;>intro h1
  ·have h1:i>0:=jab h1;obtain⟨p,hp1,hp2,hp3⟩:=plc_last isD L (by omega);rw[hk]at hp1;have ew:IntKind.wrap .i64 ((P.length:Int)-1)=((k-1:Nat):Int):=by rw[w64 (by omega)];omega
   obtain⟨iP,eP⟩:=jg9 (l:=P) (r:=r) (z:=((k-1:Nat):Int)) (j:=k-1) rfl (x:=(p:Int)) (by rw[hP,List.getElem?_map,hp1];rfl);rw[ew];rw[iP,eP];have hflat:=congrArg List.length (jdq isD L);rw[List.length_append]at hflat;have ew2:IntKind.wrap .i64 ((p:Int)+1)=((p+1:Nat):Int):=by rw[w64 (by omega)];rfl
   rw[ew2];obtain⟨d1,d2,d3⟩:=cutF ho n1 hn hc (lo:=Int.toNat ((p+1:Nat):Int)) (hi:=n) (by omega) (by omega)
   have hrest:(L.drop (Int.toNat ((p+1:Nat):Int))).take (n-Int.toNat ((p+1:Nat):Int))=(grp isD L).2:=by
    rw[Int.toNat_natCast,hp3,List.take_of_length_le (by omega)]
   rw[hL]at d1;rw[d1,d2,d3,jd9,hrest];have hrl:n-Int.toNat ((p+1:Nat):Int)=(grp isD L).2.length:=by omega
   have hctl:ctL L i.toNat=(grp isD L).2++g.dropLast:=by rw[hct,if_pos ⟨ho0,by omega⟩]
   refine c_t (jaa (by omega)) (c_t rfl (c_t (jaa (by omega)) (c_t rfl (cond_intro (fun q1=> ?_) (fun q1=>fun cap1 tail ht1=> ?_)))))
   ·have q1:=jah q1;have hr0:(grp isD L).2=[]:=List.length_eq_zero_iff.1 (by omega);refine c_t (jaa (by omega)) (c_t rfl (cond_intro (fun q=> ?_) (fun q=>fun cap1 tail ht=> ?_)))
    ·have q:=jah q;exact ji1 (by rw[hctl,hr0,List.nil_append];exact List.length_eq_zero_iff.1 (by omega)) rfl
    ·have q:g.length-1≠0:=fun e=>by rw[e]at q;cases q
     exact jh0 (o':=(L.drop 0).take (g.length-1)) (by rw[hctl,hr0];exact hcut) (by rw[hctl,hr0,List.nil_append];omega) q rfl ht
   ·have q1:n-Int.toNat ((p+1:Nat):Int)≠0:=fun e=>by rw[e]at q1;cases q1
    rw[hrl]at ht1 ⊢;obtain⟨u1,u2,u3,u4⟩:=jch ht1;refine c_t (jaa (by omega)) (c_t ?_ fun cap2 tail2 ht=> ?_)
    ·simp only[jaf,Nat.beq_eq,Nat.ble_eq,jb3,List.length_append,jcz,Bool.true_and];exact⟨⟨⟨⟨by omega,u3⟩,u4⟩,trivial⟩,by omega,by omega⟩
    ·have ec2:List.take ((grp isD L).2.length*4) (fcL (grp isD L).2++tail)++fcL (List.take (g.length-1) (List.drop 0 L))=fcL ((grp isD L).2++g.dropLast):=by
      rw[List.take_append_of_le_length (by rw[jcz];omega),List.take_of_length_le (by rw[jcz];omega),hcut,jhv]
     exact jh0 (o':=(grp isD L).2++g.dropLast) hctl.symm (by rw[hctl,List.length_append];omega) (by omega) ec2 ht
  ·have h1:¬i>0:=jac h1;have hctl:ctL L i.toNat=g.dropLast:=by rw[hct,if_neg (by omega),List.nil_append]
   refine c_t (jaa (by omega)) (c_t rfl (cond_intro (fun q=> ?_) (fun q=>fun cap1 tail ht=> ?_)))
   ·have q:=jah q;exact ji1 (by rw[hctl];exact List.length_eq_zero_iff.1 (by omega)) rfl
   ·have q:g.length-1≠0:=fun e=>by rw[e]at q;cases q
    exact jh0 (o':=(L.drop 0).take (g.length-1)) (by rw[hctl];exact hcut) (by rw[hctl];omega) q rfl ht
end Go.Fg
end
noncomputable section
set_option maxHeartbeats 3200000
set_option maxRecDepth 100000
namespace Go.Fg
open Go Go.Ab Go.Proofs Go.Shelf Go.Px Go.Cv Go.Cx Go.Ff
open Go.Fx (Ty Vl)
attribute [local instance 5000] tabsB
def gN(l:List Fo):Nat:=(grp isD l).1.length
structure CtIs (l:List Fo)(i:Nat)(o:List Fo)(f:Fo):Prop where
 ct:ctL l i=o
 df:dfL l i=f
def out46(o:List Fo)(f:Fo)(m:Lk)(n:Nat)(K:Value→Lk→Nat→Prop):Prop:=
 (o=[]→K (.tuple ⟨[.slice none 0 0,fv f]⟩) m n)∧(o≠ []→ ∀(q cap:Nat)(tail:U),o.length=q→ja1 tail cap q 4=true→K (.tuple ⟨[oslc n 0 q cap,fv f]⟩) (m.upd n ⟨fcL o++tail,48,true⟩) (n+1))
def h46:U→Lk→Nat→(Value→Lk→Nat→Prop)→Prop:=fun args m n K=>match args with
 | [.slice (some ⟨k,off,some 1⟩) len cap,.int .i64 i]=>match noIt (m k)with
  | some b=>match cnd (foOK b.c off len&& (decide (len≤1000000∧len≤cap∧0≤i) &&Nat.ble 1 (gN (foA b.c off len))))with
   | true=>∀(o:List Fo)(f:Fo),CtIs (foA b.c off len) i.toNat o f→out46 o f m n K
   | false=>False
  | none=>False
 | _=>False
theorem jgh{m:Lk}{k:Nat}{b:Blk}(h:noIt (m k)=some b)(hp:jav b.c=true)(ty:TypeId):SubM m (fun _=>k) (vw b.c ty) 2:=by
 have hg:∀j b',vw b.c ty j=some b'→j=0∧b'=⟨b.c,ty,false⟩:=fun j b' hj=>vw_get hj
 refine⟨fun j b' hj=> ?_,fun j b' hj=> ?_⟩
 ·obtain⟨rfl,rfl⟩:=hg j b' hj;exact⟨by omega,fun i hi=>by rw[jar hp]at hi;cases hi⟩
 ·obtain⟨rfl,rfl⟩:=hg j b' hj;exact⟨rfl,b,h,fun ι=>renMap_congr fun i hi=>by rw[jar hp]at hi;cases hi⟩
section
variable {P : Program} {G : Env} {L : Nat → Option jbr} {f : FuncId} {fn : Func}
theorem jex{h:U→Lk→Nat→(Value→Lk→Nat→Prop)→Prop}(lk:Lk→Value→F)(hG:jao P G)(hm:P.follows .mixedOrders=true)(hf:Fn1 P f fn)(hL:LOKf P L fn)
  (H : ∀ args m n K, h args m n K → ∃ (args' : U) (m0 : Lk) (n0 : Nat) (ρ : Nat → Nat) (R : Value → F → Prop), SubM m ρ m0 n0 ∧ (∀ ι : Nm, args'.map (ren fun j => ι (ρ j)) = args.map (ren ι)) ∧ args'.length ≤ fn.ntmps ∧ (∀ v ∈ args', ∀ j ∈ ids v, j<n0) ∧
   jer P G L fn args' m0 n0 (fun v' m' _=>R v' (lk m' v'))∧
   ∀v' m',R v' (lk m' v')→ ∃v mm nn σ,((∀k b,m k=some b→k<n)→NewM m n m' mm nn σ)∧(∀i∈ids v,n≤i∧i<nn)∧(∀ι' ι'':Nm,(∀i,n≤i→ι'' i=ι' (σ i))→ren ι'' v=ren ι' v')∧K v mm nn):jda P f h:=by
 obtain⟨h1,h2,h3,h4⟩:=hf;cases hb:fn.body with
 | none=>rw[hb]at h2;cases h2
 | some c=>
  simp only[hb]at h4;simp only[LOKf,hb]at hL;refine⟨⟨fn,h1,h3,by rw[hb];rfl⟩,fun args m n K hh N w0 ι w hrel hwf hargs=> ?_⟩;obtain⟨args',m0,n0,ρ,R,hs,ha,hlen,hids,hd,hR⟩:=H _ _ _ _ hh;rw[jer]at hd;rw[←ha ι];refine(jc1 (N:=w.heap.size) (w0:=w) (ι:=fun j=>ι (ρ j)) hG hm h1 hb h4 hL hlen hd (hs.rel hrel) hs.lt hids).mono fun e w' ⟨v',m',n',ι',he,hv',_,_,hm',_,_⟩=> ?_
  obtain⟨v,mm,nn,σ,hn,hvi,hvr,hk⟩:=hR v' m' hv';have hn:=hn fun k b hk=>(hwf k b hk).1
  obtain⟨q1,q2⟩:=hn.rel hrel hwf hm';refine⟨v,mm,nn,_,?_,hk,hn.le,fun k hk=>nmJ_old hk,q1,q2,fun j hj=>(hvi j hj).2⟩;rw[he,hvr ι' _ fun i hi=>nmJ_new hi]
end
theorem jgo{l r:U}(h1:jav l=true)(h2:jav r=true):jav (l++r)=true:=jd6.2 ⟨h1,h2⟩
theorem R46_new{o:List Fo}{f:Fo}{m:Lk}{n:Nat}{K:Value→Lk→Nat→Prop}(h:out46 o f m n K){v':Value}{m':Lk}(hR:R46 o f v' (jfw m' v')):
  ∃v mm nn σ,((∀k b,m k=some b→k<n)→NewM m n m' mm nn σ)∧(∀i∈ids v,n≤i∧i<nn)∧(∀ι' ι'':Nm,(∀i,n≤i→ι'' i=ι' (σ i))→ren ι'' v=ren ι' v')∧K v mm nn:=by
 rcases hR with⟨h0,rfl⟩ | ⟨h0,a,cap,tail,rfl,hl,ht⟩
 ·exact⟨_,m,n,id,fun hwf=>jdp hwf m' id,by simp[ids,idsL,fv],fun _ _ _=>by simp[ren,renL,fv],h.1 h0⟩
 ·obtain⟨u1,_⟩:=jch ht
  have hb:m' a=some ⟨fcL o++tail,48,true⟩:=by
   have:[m' a]=_:=hl;simpa using this
  refine⟨_,_,_,fun _=>a,fun hwf=>jgq hwf hb (jgo (jd0 _) u1) rfl,?_,fun ι' ι'' hi=> ?_,h.2 h0 _ cap tail rfl ht⟩
  ·intro i hi;simp[ids,idsL,oslc,fv]at hi;omega
  ·simp[ren,renL,oslc,ren1,fv,hi n (Nat.le_refl n)]
theorem fn46:Fn1 Tryz.prog 61 Tryz.f61:= .m Tryz.func61
theorem jf9{k off len cap:Nat}{i:Int}(ι:Nm):[Value.slice (some ⟨0,off,some 1⟩) len cap,I i].map (ren fun _=>ι k)=[Value.slice (some ⟨k,off,some 1⟩) len cap,I i].map (ren ι):=by simp[ren,ren1]
theorem jhe{off len cap:Nat}{i:Int}:∀v∈ [Value.slice (some ⟨0,off,some 1⟩) len cap,I i],∀j∈ids v,j<2:=fun v hv j hj=>by
 simp only[List.mem_cons,List.not_mem_nil,or_false]at hv;rcases hv with rfl | rfl
 ·simp[ids]at hj;omega
 ·simp[ids]at hj
theorem gen46:jda Tryz.prog 61 h46:=by
 refine jex jfw ok_I0 hmix fn46 l46_0 fun args m n K h=> ?_
 unfold h46 at h;split at h
 ·rename_i k off len cap i;split at h
  ·rename_i b hb;split at h
   ·rename_i hc;simp only[cnd,jaf,jae,Nat.ble_eq]at hc;obtain⟨ho,⟨h1,h2,h3⟩,h4⟩:=hc;refine⟨_,_,2,_,_,jgh hb (jcj ho).2.1 30,fun ι=>jf9 ι,jag,jhe,by rw[jer];exact w46_ok ho h1 h2 h4 h3,fun v' m' hv=>R46_new (h _ _ ⟨rfl,rfl⟩) hv⟩
   ·exact h.elim
  ·exact h.elim
 ·exact h.elim
def I1:Env:=((Env.nil.add 24 K43.s12).add 56 K71.s45).addG 61 h46
theorem ok_I1:jao Tryz.prog I1:=jaq (jak (jak ja7 K43.ok12) K71.ok45) gen46
def ib(b:U)(a c:Nat):Int:=bif al 16 (a:Int) || (Fg.foA b c a).any Fg.pBad then 130 else 0
theorem w13(c:U)(ty:Nat)(off:Nat)(n:Nat)(cap:Nat)(i:Int)(R:Value→F→Prop):(ja4 Tryz.prog I1 noL Tryz.f44 [.slice (some ⟨0,off,some 1⟩) n cap,I i] (vw c ty) 2 (fun v m' _=>R v (jfw m' v)))=(b8 (Fg.foOK c off n) true (ib c n off !=0) (R (ay [bt,.int .i64 (ib c n off)]) []) (bif iy (natO n==0) (Fg.K42.jl c off n) i 0 999 then bif iy (natO n==0) (!(decide ((n:Int)=0) || (Fg.foA c off n).any Fg.isD)) i 0 999 then R (ay [bt,ak 1]) []else bif Fg.foOK c off n&& (decide (n≤1000000∧n≤cap∧0≤i) &&Nat.ble 1 (Fg.gN (Fg.foA c off n)))then∀a:List Ff.Fo,∀b:Ff.Fo,Fg.CtIs (Fg.foA c off n) i.toNat a b→(a=([]:List Ff.Fo)→(∀e:Nat,∀f:U,ja1 f e 1 4=true→R (ay [am 37 0 1 e,ak 0]) (bk (.int .i64 (Ff.Fo.k b):: .int .i64 (Ff.Fo.w b):: .int .i64 (Ff.Fo.d b):: .string (Ff.Fo.s b)::f) 48)))∧(a≠([]:List Ff.Fo)→(∀e:Nat,∀f:Nat,∀g:U,a.length=e→ja1 g f e 4=true→(bif gq (Fg.fcL a++g) f 4 e&&true&&jb3 (e+1) 40 then∀h:Nat,∀j:U,ja1 j h (e+1) 4=true→R (ay [am 38 0 (e+1) h,ak 0]) (bk (dy (Fg.fcL a++g) [.int .i64 (Ff.Fo.k b),.int .i64 (Ff.Fo.w b),.int .i64 (Ff.Fo.d b),.string (Ff.Fo.s b)] j e 4) 48)else False)))else False else False)):=by kernel_rfl
theorem w13n(i:Int)(R:Value→F→Prop):(ja4 Tryz.prog I1 noL Tryz.f44 [.slice none 0 0,I i] (fun _=>none) 0 (fun v m' _=>R v (jfw m' v)))=(bif decide (i<0) || (decide (i>999) || (natO 0==0 || true))then bif decide (i<0) || (decide (i>999) || (natO 0==0 || !true))then R (.tuple (.mk [.slice none 0 0,I 1])) []else False else False):=by kernel_rfl
end Go.Fg
end
noncomputable section
set_option maxHeartbeats 3200000
set_option maxRecDepth 100000
namespace Go.Fg
open Go Go.Ab Go.Proofs Go.Shelf Go.Px Go.Cv Go.Cx Go.Ff
attribute [local instance 5000] tabsB
def eIt(l:List Fo)(i:Int):Int:=if 16<l.length∨l.any pBad=true then 130 else if i<0∨999<i∨gN l=0 then 1 else 0
structure ItE (l:List Fo)(i e:Int):Prop where
 eq:eIt l i=e
structure ItIs (l:List Fo)(i:Int)(o:List Fo):Prop where
 eq:itL isD l i.toNat=o
def outI(l:List Fo)(i:Int)(m:Lk)(n:Nat)(K:Value→Lk→Nat→Prop):Prop:=
 (∀e:Int,ItE l i e→e≠0→K (.tuple ⟨[.slice none 0 0,.int .i64 e]⟩) m n)∧
 (ItE l i 0→ ∀(o:List Fo)(q cap:Nat)(tail:U),ItIs l i o→o.length=q→ja1 tail cap q 4=true→K (.tuple ⟨[oslc n 0 q cap,.int .i64 0]⟩) (m.upd n ⟨fcL o++tail,48,true⟩) (n+1))
def jid:U→Lk→Nat→(Value→Lk→Nat→Prop)→Prop:=fun args m n K=>match args with
 | [.slice (some ⟨k,off,some 1⟩) len cap,.int .i64 i]=>match noIt (m k)with
  | some b=>match cnd (foOK b.c off len&&decide (len≤1000000∧len≤cap))with
   | true=>outI (foA b.c off len) i m n K
   | false=>False
  | none=>False
 | [.slice none 0 0,.int .i64 _]=>K (.tuple ⟨[.slice none 0 0,.int .i64 1]⟩) m n
 | _=>False
theorem gN_any(l:List Fo):(l.any isD=true)↔gN l≠0:=by
 rw[gN,jd8];have:0<l.countP isD↔ ∃a∈l,isD a=true:=List.countP_pos_iff;rw[List.any_eq_true];constructor
 ·intro h;have:=this.2 h;omega
 ·intro h;exact this.1 (by omega)
def R13(l:List Fo)(i:Int)(v:Value)(bs:F):Prop:=
 (eIt l i≠0∧v= .tuple ⟨[.slice none 0 0,.int .i64 (eIt l i)]⟩)∨(eIt l i=0∧ ∃a cap tail,v= .tuple ⟨[oslc a 0 (itL isD l i.toNat).length cap,.int .i64 0]⟩∧bs=[some ⟨fcL (itL isD l i.toNat)++tail,48,true⟩]∧ja1 tail cap (itL isD l i.toNat).length 4=true)
theorem ji2{l o:List Fo}{i:Int}{q a cap:Nat}{cs tail:U}(he:eIt l i=0)(ho:o=itL isD l i.toNat)(hq:q=o.length)(hc:cs=fcL o)(ht:ja1 tail cap q 4=true):R13 l i (.tuple ⟨[.slice (some ⟨a,0,some 1⟩) q cap,.int .i64 0]⟩) [some ⟨cs++tail,48,true⟩]:=by
 subst ho hq hc;exact .inr ⟨he,a,cap,tail,rfl,rfl,ht⟩
theorem w13_ok{c:U}{ty off n cap:Nat}{i:Int}(ho:foOK c off n=true)(hn:n≤1000000)(hc:n≤cap):
  ja4 Tryz.prog I1 noL Tryz.f44 [.slice (some ⟨0,off,some 1⟩) n cap,I i] (vw c ty) 2 (fun v m' _=>R13 (foA c off n) i v (jfw m' v)):=by
 obtain⟨hl,hpl,_⟩:=jcj ho;rw[w13];delta b8 bk dy ay ak am gq bt aq al iy Fg.K42.jl ib;rw[ho,ja3];have hn':decide (n≤1000000)=true:=jaa hn
 try rw[hn']
 generalize hL:foA c off n=L at*;refine c_t rfl (cond_intro (fun h=> ?_) (fun h=> ?_))
 ·have hb:(decide (16<(n:Int)) || L.any pBad)=true:=by
   cases hq:(decide (16<(n:Int)) || L.any pBad)
   ·rw[hq]at h;cases h
   ·rfl
  rw[hb]
  have:eIt L i=130:=by
   rw[eIt,if_pos];rw[Bool.or_eq_true,jae]at hb;exact hb.imp (fun x=>by omega) id
  exact .inl ⟨by rw[this];decide,by rw[this];rfl⟩
 ·have hb:(decide (16<(n:Int)) || L.any pBad)=false:=by
   cases hq:(decide (16<(n:Int)) || L.any pBad)
   ·rfl
   ·rw[hq]at h;cases h
  have hb':¬(16<L.length∨L.any pBad=true):=by
   intro q
   have:(decide (16<(n:Int)) || L.any pBad)=true:=by
    rw[Bool.or_eq_true,jae];exact q.imp (fun x=>by omega) id
   rw[this]at hb;cases hb
  refine c_t (by simp) (cond_intro (fun h1=> ?_) (fun h1=> ?_))
  ·have:eIt L i=1:=by
    rw[eIt,if_neg hb',if_pos];simp only[Bool.or_eq_true,jae,beq_iff_eq,Bool.not_eq_true',Bool.or_eq_false_iff,decide_eq_false_iff_not]at h1;rcases h1 with h1 | h1 | h1 | ⟨_,h1⟩
    ·exact .inl h1
    ·exact .inr (.inl (by omega))
    ·refine .inr (.inr ?_);have:L=[]:=List.length_eq_zero_iff.1 (by omega);rw[this];rfl
    ·refine .inr (.inr ?_);cases hg:gN L with
     | zero=>rfl
     | succ k=>rw[(gN_any L).2 (by omega)]at h1;cases h1
   exact .inl ⟨by rw[this];decide,by rw[this]⟩
  ·simp only[Bool.or_eq_false_iff,decide_eq_false_iff_not,beq_eq_false_iff_ne,Bool.not_eq_false',Bool.or_eq_true,jae]at h1;obtain⟨g1,g2,g3,g4⟩:=h1;have hg:gN L≠0:=(gN_any L).1 (g4.resolve_left g3);have he:eIt L i=0:=by rw[eIt,if_neg hb',if_neg (by omega)]
   have hsp:=it_split (l:=L) (i:=i.toNat) (by rw[←gN];omega);refine c_t (by simp;omega) fun o f hof=> ?_
   obtain⟨rfl,rfl⟩:=hof;refine⟨fun h0 cap1 tail ht=> ?_,fun h0 q cap1 tail hq ht=> ?_⟩
   ·exact ji2 (cs:=[.int .i64 (dfL L i.toNat).k,.int .i64 (dfL L i.toNat).w,.int .i64 (dfL L i.toNat).d,.string (dfL L i.toNat).s]) (o:=[dfL L i.toNat]) he (by rw[hsp,h0];rfl) rfl rfl ht
   ·subst hq
    have hcl:(ctL L i.toNat).length≤2000001:=by
     have h9:=congrArg List.length (jdq isD L);have hk:i.toNat%(grp isD L).1.length<(grp isD L).1.length:=Nat.mod_lt _ (by rw[←gN];omega);have h8:=S_le (l:=L) hk;have h7:=congrArg List.length hsp;unfold itL at h7;simp only[List.length_append,List.length_cons,List.length_nil]at h7 h9;split at h7<;>(try simp only[List.length_nil]at h7) <;>omega
    obtain⟨u1,u2,u3,u4⟩:=jch ht;refine c_t ?_ fun cap2 tail2 ht2=> ?_
    ·simp only[jaf,Nat.beq_eq,Nat.ble_eq,jb3,List.length_append,jcz];exact⟨⟨⟨⟨by omega,u3⟩,u4⟩,trivial⟩,by omega,by omega⟩
    ·refine ji2 (o:=ctL L i.toNat++ [dfL L i.toNat]) he hsp.symm (by simp) ?_ ht2;rw[List.take_append_of_le_length (by rw[jcz];omega),List.take_of_length_le (by rw[jcz];omega),jhv];rfl
theorem w13n_ok{i:Int}:ja4 Tryz.prog I1 noL Tryz.f44 [.slice none 0 0,I i] (fun _=>none) 0 (fun v _ _=>v= .tuple ⟨[.slice none 0 0,.int .i64 1]⟩):=by
 have:=w13n i (fun v _=>v= .tuple ⟨[.slice none 0 0,.int .i64 1]⟩);rw[this,ja3];have e:∀x y z:Bool,(x || (y || ((((0:Nat):Int)==0) || z)))=true:=by decide
 rw[e,e];rfl
theorem R13_new{l:List Fo}{i:Int}{m:Lk}{n:Nat}{K:Value→Lk→Nat→Prop}(h:outI l i m n K){v':Value}{m':Lk}(hR:R13 l i v' (jfw m' v')):
  ∃v mm nn σ,((∀k b,m k=some b→k<n)→NewM m n m' mm nn σ)∧(∀i∈ids v,n≤i∧i<nn)∧(∀ι' ι'':Nm,(∀i,n≤i→ι'' i=ι' (σ i))→ren ι'' v=ren ι' v')∧K v mm nn:=by
 rcases hR with⟨h0,rfl⟩ | ⟨h0,a,cap,tail,rfl,hl,ht⟩
 ·exact⟨_,m,n,id,fun hwf=>jdp hwf m' id,by simp[ids,idsL],fun _ _ _=>by simp[ren,renL],h.1 _ ⟨rfl⟩ h0⟩
 ·obtain⟨u1,_⟩:=jch ht
  have hb:m' a=some ⟨fcL (itL isD l i.toNat)++tail,48,true⟩:=by
   have:[m' a]=_:=hl;simpa using this
  refine⟨_,_,_,fun _=>a,fun hwf=>jgq hwf hb (jgo (jd0 _) u1) rfl,?_,fun ι' ι'' hi=> ?_,h.2 ⟨h0⟩ _ _ cap tail ⟨rfl⟩ rfl ht⟩
  ·intro i hi;simp[ids,idsL,oslc]at hi;omega
  ·simp[ren,renL,oslc,ren1,hi n (Nat.le_refl n)]
theorem fn13:Fn1 Tryz.prog 44 Tryz.f44:= .m Tryz.func44
theorem gen13:jda Tryz.prog 44 jid:=by
 refine jex jfw ok_I1 hmix fn13 jai fun args m n K h=> ?_
 unfold jid at h;split at h
 ·rename_i k off len cap i;split at h
  ·rename_i b hb;split at h
   ·rename_i hc;simp only[cnd,jaf,jae]at hc;obtain⟨ho,h1,h2⟩:=hc;refine⟨_,_,2,_,_,jgh hb (jcj ho).2.1 30,fun ι=>jf9 ι,jag,jhe,by rw[jer];exact w13_ok ho h1 h2,fun v' m' hv=>R13_new h hv⟩
   ·exact h.elim
  ·exact h.elim
 ·rename_i i
  exact⟨[.slice none 0 0,I i],fun _=>none,0,id,fun v _=>v= .tuple ⟨[.slice none 0 0,.int .i64 1]⟩,jfc m id 0,fun ι=>rfl,jag,fun v hv j hj=>by simp only[List.mem_cons,List.not_mem_nil,or_false]at hv;rcases hv with rfl | rfl<;>simp[ids]at hj,
   by rw[jer];exact w13n_ok,fun v' m' hv=>by
    subst hv;exact⟨_,m,n,id,fun hwf=>jdp hwf m' id,by simp[ids,idsL],fun _ _ _=>by simp[ren,renL],h⟩⟩
 ·exact h.elim
theorem okIt_ex:∃d:List Fo→Int→Bool,d=fun l i=>decide (eIt l i=0):=⟨_,rfl⟩
def okIt:List Fo→Int→Bool:=Classical.choose okIt_ex
theorem jhl(l:List Fo)(i:Int):okIt l i=decide (eIt l i=0):=by rw[okIt,Classical.choose_spec okIt_ex]
def hItS:U→Lk→Nat→(Value→Lk→Nat→Prop)→Prop:=fun args m n K=>match args with
 | [.slice (some ⟨k,off,some 1⟩) len cap,.int .i64 i]=>match noIt (m k)with
  | some b=>match cnd (foOK b.c off len&& (decide (len≤1000000∧len≤cap) &&okIt (foA b.c off len) i))with
   | true=>∀(o:List Fo)(q cap:Nat)(tail:U),ItIs (foA b.c off len) i o→o.length=q→ja1 tail cap q 4=true→K (.tuple ⟨[oslc n 0 q cap,.int .i64 0]⟩) (m.upd n ⟨fcL o++tail,48,true⟩) (n+1)
   | false=>False
  | none=>False
 | _=>False
def hItE:U→Lk→Nat→(Value→Lk→Nat→Prop)→Prop:=fun args m n K=>match args with
 | [.slice (some ⟨k,off,some 1⟩) len cap,.int .i64 i]=>match noIt (m k)with
  | some b=>match cnd (foOK b.c off len&& (decide (len≤1000000∧len≤cap) && !okIt (foA b.c off len) i))with
   | true=>∀e:Int,ItE (foA b.c off len) i e→e≠0→K (.tuple ⟨[.slice none 0 0,.int .i64 e]⟩) m n
   | false=>False
  | none=>False
 | [.slice none 0 0,.int .i64 _]=>K (.tuple ⟨[.slice none 0 0,.int .i64 1]⟩) m n
 | _=>False
theorem gen_imp [T:Tabs]{f:FuncId}{h h':U→Lk→Nat→(Value→Lk→Nat→Prop)→Prop}(hg: @jda T Tryz.prog f h)(hi:∀args m n K,h' args m n K→h args m n K): @jda T Tryz.prog f h':=
 ⟨hg.1,fun args m n K hh=>hg.2 args m n K (hi args m n K hh)⟩
theorem itS_imp(args:U)(m:Lk)(n:Nat)(K:Value→Lk→Nat→Prop)(h:hItS args m n K):jid args m n K:=by
 unfold hItS at h;split at h
 ·rename_i k off len cap i;split at h
  ·rename_i b hb;split at h
   ·rename_i hc;simp only[cnd,jaf,jhl,jae]at hc;unfold jid;simp only[hb];have:(foOK b.c off len&&decide (len≤1000000∧len≤cap))=true:=by rw[jaf,jae];exact⟨hc.1,hc.2.1⟩
    rw[this];exact⟨fun e he hne=>(hne (by rw[←he.eq];exact hc.2.2)).elim,fun _=>h⟩
   ·exact h.elim
  ·exact h.elim
 ·exact h.elim
theorem itE_imp(args:U)(m:Lk)(n:Nat)(K:Value→Lk→Nat→Prop)(h:hItE args m n K):jid args m n K:=by
 unfold hItE at h;split at h
 ·rename_i k off len cap i;split at h
  ·rename_i b hb;split at h
   ·rename_i hc;simp only[cnd,jaf,jhl,jae,Bool.not_eq_true',decide_eq_false_iff_not]at hc;unfold jid;simp only[hb];have:(foOK b.c off len&&decide (len≤1000000∧len≤cap))=true:=by rw[jaf,jae];exact⟨hc.1,hc.2.1⟩
    rw[this];exact⟨h,fun he=>(hc.2.2 he.eq).elim⟩
   ·exact h.elim
  ·exact h.elim
 ·exact h
 ·exact h.elim
end Go.Fg
end
noncomputable section
set_option maxHeartbeats 3200000
set_option maxRecDepth 100000
namespace Go.Fh
open Go Go.Ab Go.Proofs Go.Shelf Go.Px Go.Cv Go.Cx Go.Ff
open Go.Fx (Ty Vl)
attribute [local instance 5000] tabsB
def c75(v:Vl)(t:Ty):Prop:=t.s.size≤9223372036854775807∧v.s.size≤9223372036854775807∧((t.k=1∨t.k=2)→ -2147483648≤v.n∧v.n≤2147483648∧ -1000≤t.q∧t.q≤1000)∧(t.k=4→jjj (bz v.s)=true∧v.s.size≤64)
instance (v:Vl)(t:Ty):Decidable (c75 v t):=by unfold c75;infer_instance
end Go.Fh
end
noncomputable section
set_option maxHeartbeats 3200000
namespace Go.Fh
open Go Go.Ab Go.Proofs Go.Shelf Go.Px Go.Cv Go.Cx Go.Ff
open Go.Fx (Ty Vl jcb InB Fit)
end Go.Fh
end
noncomputable section
set_option maxHeartbeats 3200000
set_option maxRecDepth 100000
namespace Go.Fh
open Go Go.Ab Go.Proofs Go.Shelf Go.Px Go.Cv Go.Cx Go.Ff
open Go.Fx (Ty Vl)
attribute [local instance 5000] tabsB
def wdP(f:Fo):Int:=if f.k=4 then pW (bz f.s)else f.w
theorem wdO_ex:∃d:Fo→Int,d=wdP:=⟨_,rfl⟩
def wdO:Fo→Int:=Classical.choose wdO_ex
theorem wdO_eq:wdO=wdP:=Classical.choose_spec wdO_ex
def K1:Env:=Env.nil.add 26 (sp1 Px.s35)
theorem ok_K1:jao Tryz.prog K1:=jak ja7 (jj3 Px.ok35)
def s62u(f:Fo):Bool×Value:=(decide (f.s.size≤9223372036854775807),I (wdO f))
theorem fn62:Fn1 Tryz.prog 90 Tryz.f90:= .m Tryz.func90
theorem v62u(f:Fo)(R:Value→Prop):ja4 Tryz.prog K1 noL Tryz.f90 [Enc.enc f] (fun _=>none) 0 (fun v _ _=>R v)=(bif Ff.Fo.k f !=4 then R (I (Ff.Fo.w f))else az (aw (Ff.Fo.s f)) (I (pW (bz (Ff.Fo.s f)))) R):=by kernel_rfl
theorem ok62u:jal Tryz.prog 90 (sp1 s62u):=by
 refine jcr ok_K1 hmix fn62 jai jag fun f hc=> ?_
 rw[jb5,v62u];delta az aw;have hc:(f.s.size≤9223372036854775807):=jab hc
 try dsimp only[s62u]
 have e:wdO f=if f.k=4 then pW (bz f.s)else f.w:=by rw[wdO_eq];rfl
 rw[e];refine cond_intro (fun h=> ?_) (fun h=>c_t (jaa hc) ?_)
 ·have h:¬f.k=4:=by simpa using h
  rw[if_neg h]
 ·have h:f.k=4:=by simpa using h
  rw[if_pos h]
def jkl(v:Vl)(t:Ty):Prop:=fitE v t=0
instance (v:Vl)(t:Ty):Decidable (jkl v t):=by unfold jkl;infer_instance
def cE(f:Fo)(v:Vl)(t:Ty):Prop:=f.s.size≤9223372036854775807∧t.s.size≤9223372036854775807∧v.s.size≤9223372036854775807∧jb6 f=true∧f.k≤4∧jkl v t
instance (f:Fo)(v:Vl)(t:Ty):Decidable (cE f v t):=by unfold cE;infer_instance
end Go.Fh
end
noncomputable section
set_option maxHeartbeats 3200000
set_option maxRecDepth 100000
namespace Go.Fl
open Go Go.Ab Go.Proofs Go.Shelf Go.Px Go.Cv Go.Cx Go.Ff Go.Fg Go.Fh
open Go.Fx (Ty Vl)
attribute [local instance 5000] tabsB
def isDr(f:Fo):Bool:=decide (1≤f.k∧f.k≤4)
def wdE(f:Fo):Int×Int:=if jb6 f=true∧f.k≤4 then(wdO f,0)else(0,130)
theorem weO_ex:∃d:Fo→Int×Int,d=wdE:=⟨_,rfl⟩
def weO:Fo→Int×Int:=Classical.choose weO_ex
theorem ji4:weO=wdE:=Classical.choose_spec weO_ex
def badV(c:U)(off n:Nat)(i:Int):Bool:=((foA c off n).drop i.toNat).any pBad
theorem jkm{f:Fo}(h:1≤f.k):isDr f=isD f:=by
 rw[isDr,isD];congr 1;exact propext ⟨fun h=>h.2,fun q=>⟨h,q⟩⟩
theorem jij{f:Fo}(h:jb6 f=true):1≤f.k:=by
 simp only[jb6,jaf,jae]at h;exact h.1.1
def A0:Env:=Env.nil
theorem ok_A0:jao Tryz.prog A0:=ja7
def s100(n:Int)(lo:Int)(hi:Int):Bool×Value:=(true,B (decide (lo≤n) &&decide (n≤hi)))
theorem fn100:Fn1 Tryz.prog 100 Tryz.f100:= .m Tryz.func100
theorem v100(n:Int)(lo:Int)(hi:Int)(R:Value→Prop):ja4 Tryz.prog A0 noL Tryz.f100 [Enc.enc n,Enc.enc lo,Enc.enc hi] (fun _=>none) 0 (fun v _ _=>R v)=(bif decide (n≥lo) || true then R (B (decide (n≥lo) &&decide (n≤hi)))else False):=by kernel_rfl
theorem ok100:jal Tryz.prog 100 (sp3 s100):=by
 refine qure3 ok_A0 hmix fn100 jai jag fun n lo hi hc=> ?_
 rw[jb5,v100]
 try dsimp only[s100]
 exact c_t (Bool.or_true _) rfl
def A1:Env:=((Env.nil.add 132 (sp1 Px.s30)).add 156 (sp1 Px.s48)).add 100 (sp3 s100)
theorem ok_A1:jao Tryz.prog A1:=jak (jak (jak ja7 (jj3 Px.ok30)) (jj3 Px.ok48)) ok100
def s104(f:Fo):Bool×Value:=(true,B (isDr f))
theorem fn104:Fn1 Tryz.prog 104 Tryz.f104:= .m Tryz.func104
theorem v104(f:Fo)(R:Value→Prop):ja4 Tryz.prog A1 noL Tryz.f104 [Enc.enc f] (fun _=>none) 0 (fun v _ _=>R v)=(az (ij (Ff.Fo.k f==3 || true) (Ff.Fo.k f) 1 2) (B (ij (Ff.Fo.k f==3 || Ff.Fo.k f==4) (Ff.Fo.k f) 1 2)) R):=by kernel_rfl
theorem ok104:jal Tryz.prog 104 (sp1 s104):=by
 refine jcr ok_A1 hmix fn104 jai jag fun f hc=> ?_
 rw[jb5,v104];delta az ij
 try dsimp only[s104]
 have e:isDr f=(f.k==1 || (f.k==2 || (f.k==3 || f.k==4))):=by
  rw[isDr,Bool.eq_iff_iff];simp;omega
 rw[e];exact c_t (by simp) rfl
def s103(f:Fo):Bool×Value:=(decide (f.s.size≤9223372036854775807),B (jb6 f))
theorem fn103:Fn1 Tryz.prog 103 Tryz.f103:= .m Tryz.func103
def kf(a b c:Int):Bool:= !(decide (a≤b) &&decide (b≤c))
def l5(b:Bool)(a:Ff.Fo):Bool:=kf 1 (Ff.Fo.k a) 7 || (kf 0 (Ff.Fo.w a) 255 || (kf 0 (Ff.Fo.d a) (imin (Ff.Fo.w a) 9) || b))
theorem v103(f:Fo)(R:Value→Prop):ja4 Tryz.prog A1 noL Tryz.f103 [Enc.enc f] (fun _=>none) 0 (fun v _ _=>R v)=(k8 (l5 (aq (Ff.Fo.d f) 0 || true) f) (l5 (aq (Ff.Fo.d f) 0&&Ff.Fo.k f !=3) f) f R):=by kernel_rfl
theorem ok103:jal Tryz.prog 103 (sp1 s103):=by
 refine jcr ok_A1 hmix fn103 jai jag fun f hc=> ?_
 rw[jb5,v103];delta fx az aw k8 kf l5 aq;have hc:(f.s.size≤9223372036854775807):=jab hc
 try dsimp only[s103]
 refine c_t (by simp) (cond_intro (fun h=> ?_) (fun h=>cond_intro (fun q=>c_t (jaa hc) ?_) (fun q=> ?_)))
 ·have e:jb6 f=false:=by
   rw[jb6,Bool.and_eq_false_iff];refine .inl (jad fun⟨a,b,c,d,e,g,i,j⟩=> ?_);have hm:imin f.w 9=min f.w 9:=by rw[imin];split<;>omega
   rw[hm]at h;simp only[Bool.or_eq_true,jaf,Bool.not_eq_true',Bool.and_eq_false_iff,jae,decide_eq_false_iff_not,bne_iff_ne]at h;omega
  rw[e]
 ·have q:f.k=4:=by simpa using q
  have hm:imin f.w 9=min f.w 9:=by rw[imin];split<;>omega
  rw[hm]at h;simp only[Bool.or_eq_false_iff,Bool.not_eq_false',jaf,Bool.and_eq_false_iff,jae,decide_eq_false_iff_not,bne_eq_false_iff_eq]at h;rw[jb6,jaa (by omega),jaa q];congr 1
 ·have q:¬f.k=4:=by simpa using q
  have hm:imin f.w 9=min f.w 9:=by rw[imin];split<;>omega
  rw[hm]at h;simp only[Bool.or_eq_false_iff,Bool.not_eq_false',jaf,Bool.and_eq_false_iff,jae,decide_eq_false_iff_not,bne_eq_false_iff_eq]at h;rw[jb6,jaa (by omega),jad q,empty_iff];congr 1;rw[Bool.true_and,cond_false,Bool.eq_iff_iff,jae,jae,←jax];exact List.length_eq_zero_iff.symm
def s105(f:Fo):Bool×Value:=(decide (f.s.size≤9223372036854775807),I (wdO f))
theorem fn105:Fn1 Tryz.prog 105 Tryz.f105:= .m Tryz.func105
theorem v105(f:Fo)(R:Value→Prop):ja4 Tryz.prog A1 noL Tryz.f105 [Enc.enc f] (fun _=>none) 0 (fun v _ _=>R v)=(bif Ff.Fo.k f==4 then az (aw (Ff.Fo.s f)) (I (pW (bz (Ff.Fo.s f)))) R else R (I (Ff.Fo.w f))):=by kernel_rfl
theorem ok105:jal Tryz.prog 105 (sp1 s105):=by
 refine jcr ok_A1 hmix fn105 jai jag fun f hc=> ?_
 rw[jb5,v105];delta az aw;have hc:(f.s.size≤9223372036854775807):=jab hc
 try dsimp only[s105]
 have e:wdO f=if f.k=4 then pW (bz f.s)else f.w:=by rw[wdO_eq];rfl
 rw[e];refine cond_intro (fun h=>c_t (jaa hc) ?_) (fun h=> ?_)
 ·have h:f.k=4:=by simpa using h
  rw[if_pos h]
 ·have h:¬f.k=4:=by simpa using h
  rw[if_neg h]
def A2:Env:=((Env.nil.add 104 (sp1 s104)).add 103 (sp1 s103)).add 105 (sp1 s105)
theorem ok_A2:jao Tryz.prog A2:=jak (jak (jak ja7 ok104) ok103) ok105
def s48(f:Fo):Bool×Value:=(decide (f.s.size≤9223372036854775807),.tuple ⟨[I (weO f).1,I (weO f).2]⟩)
theorem fn48:Fn1 Tryz.prog 48 Tryz.f48:= .m Tryz.func48
theorem v48(f:Fo)(R:Value→Prop):ja4 Tryz.prog A2 noL Tryz.f48 [Enc.enc f] (fun _=>none) 0 (fun v _ _=>R v)=(b8 (aw (Ff.Fo.s f)) (!Ff.jb6 f || true) (!Ff.jb6 f || !Fl.isDr f) (R (ay (ar 0 130))) (az (aw (Ff.Fo.s f)) (ay [I (Fh.wdO f),ak 0]) R)):=by kernel_rfl
theorem ok48:jal Tryz.prog 48 (sp1 s48):=by
 refine jcr ok_A2 hmix fn48 jai jag fun f hc=> ?_
 rw[jb5,v48];delta b8 az ay ak aw ar;have hc:(f.s.size≤9223372036854775807):=jab hc
 try dsimp only[s48]
 refine c_t (by simp[hc]) (cond_intro (fun h=> ?_) (fun h=>c_t (jaa hc) ?_))
 ·rw[ji4,wdE,if_neg];rintro ⟨a,b⟩;rw[a,jkm (jij a),isD,jaa b]at h;cases h
 ·simp only[Bool.or_eq_false_iff,Bool.not_eq_false']at h;obtain⟨a,b⟩:=h;rw[jkm (jij a),isD,jae]at b;rw[ji4,wdE,if_pos ⟨a,b⟩]
def A3:Env:=(Env.nil.add 78 (sp1 Ff.s37)).add 90 (sp1 Fh.s62u)
theorem ok_A3:jao Tryz.prog A3:=jak (jak ja7 Ff.ok37) Fh.ok62u
def s31(f:Fo):Bool×Value:=(decide (f.s.size≤9223372036854775807),.tuple ⟨[I (weO f).1,I (weO f).2]⟩)
theorem fn31:Fn1 Tryz.prog 31 Tryz.f31:= .m Tryz.func31
theorem v31(f:Fo)(R:Value→Prop):ja4 Tryz.prog A3 noL Tryz.f31 [Enc.enc f] (fun _=>none) 0 (fun v _ _=>R v)=(dl ((if Ff.jb6 f=true∧Ff.Fo.k f≤4 then(0:Int)else(130:Int)) !=0) (Ff.Fo.s f) (R (ay [ak 0,I (if Ff.jb6 f=true∧Ff.Fo.k f≤4 then 0 else 130)])) (az (aw (Ff.Fo.s f)) (ay [I (Fh.wdO f),ak 0]) R)):=by kernel_rfl
theorem ok31:jal Tryz.prog 31 (sp1 s31):=by
 refine jcr ok_A3 hmix fn31 jai jag fun f hc=> ?_
 rw[jb5,v31];delta aw dl az ay ak;have hc:(f.s.size≤9223372036854775807):=jab hc
 try dsimp only[s31]
 refine c_t (jaa hc) (cond_intro (fun h=> ?_) (fun h=>c_t (jaa hc) ?_))
 ·by_cases q:jb6 f=true∧f.k≤4
  ·rw[if_pos q]at h;cases h
  ·rw[if_neg q,ji4,wdE,if_neg q]
 ·by_cases q:jb6 f=true∧f.k≤4
  ·rw[ji4,wdE,if_pos q]
  ·rw[if_neg q]at h;cases h
def V46_0:U×Nat×Nat×Nat×Nat×Int×Int→U:=fun(c,ty,off,n,cap,r,i)=> [.slice (some ⟨0,off,some 1⟩) n cap,I r,I i]
def B46_0:U×Nat×Nat×Nat×Nat×Int×Int→F:=fun(c,ty,off,n,cap,r,i)=> [some ⟨c,ty,false⟩]
def S46_0:LSpec (U×Nat×Nat×Nat×Nat×Int×Int) where
 live:=[0,2,3]
 mid:=[0]
 n:=60
 dec vs bs:=match vs,bs with | [.slice (some ⟨0,off,some 1⟩) n cap,.int .i64 r,.int .i64 i],[some ⟨c,ty,false⟩]=>some (c,ty,off,n,cap,r,i) | _,_=>none
 pre:=fun(c,ty,off,n,cap,r,i)=>foOK c off n&&decide (n≤1000000∧0≤i∧i≤n)
 fin:=fun(c,ty,off,n,cap,r,i) Z=>(bif badV c off n i then∀j:Int,Z .ret [.slice (some ⟨0,off,some 1⟩) n cap,I 130,I j] [some ⟨c,ty,false⟩]else Z (.exit 0) [.slice (some ⟨0,off,some 1⟩) n cap,I r,I n] [some ⟨c,ty,false⟩])
theorem r46_0(c:U)(ty:Nat)(off:Nat)(n:Nat)(cap:Nat)(r:Int)(i:Int)(jk:Tmps)(R:Exit→U→F→Prop):(jbz Tryz.prog A2 noL Tryz.f46.ntmps (ja9 Tryz.f46 0) (tl S46_0.live (V46_0 (c,ty,off,n,cap,r,i)) jk) (ml S46_0.mid (B46_0 (c,ty,off,n,cap,r,i))) S46_0.n fun e t' m' _=>R e (List.map t' S46_0.live) (List.map m' S46_0.mid))=(Fg.K42.j9 (!Ff.jb6 (Fg.K42.fk i c off)) R i (natO n) c (ar 130 i) (dt r i 0 off n cap) (ar r i) off n ty cap):=by kernel_rfl
theorem l46_0:LOKf Tryz.prog (oneL 0 S46_0.hQ) Tryz.f46:=by
 refine jbk (h:=S46_0.hQ) (by kernel_rfl) (jdy ok_A2 hmix (by kernel_rfl) (ja6 _) S46_0 V46_0 B46_0 (fun(c,ty,off,n,cap,r,i)=>(n-i).toNat) ?_ ?_ ?_)
 ·intro vs bs s h;simp only[S46_0]at h;split at h
  all_goals first | (cases h;exact⟨rfl,rfl⟩) | cases h | (split at h<;>first | (rename_i hq;cases h;have hq:=jah hq;subst hq;exact⟨rfl,rfl⟩) | (rename_i hq;cases h;simp only[cnd,jaf,Nat.beq_eq]at hq;obtain⟨rfl,rfl,rfl⟩:=hq;exact⟨rfl,rfl⟩) | cases h)
 ·exact fun k ⟨c,ty,off,n,cap,r,i⟩ ⟨c',ty',off',n',cap',r',i'⟩ hp h=>by
   simp only[S46_0,jaf]at hp;have hq:=jcc (n:=k) (jcj hp.1).2.1;simp_all[V46_0,B46_0,jbn,jaz,idsL,ids]
 ·intro⟨c,ty,off,n,cap,r,i⟩ jk Z hp hf;rw[r46_0];delta Fg.K42.il Fg.K42.cl cw b4 ek aw Fg.K42.cm Fg.K42.dx Fg.K42.gu Fg.K42.d9 al Fg.K42.j9 ak ar bq bp br am dt Fg.K42.fk;simp only[S46_0]at hp hf;simp only[jaf,jae]at hp;obtain⟨ho,h1,h3,h4⟩:=hp;obtain⟨hl,hpl,hat⟩:=jcj ho;rw[badV]at hf;rw[ja3];apply cond_intro<;>intro h
  ·have h:=jab h;obtain⟨f,hf1,hsz,q1,q2,q3,q4,e1,e2,e3,e4⟩:=hat i.toNat (by omega);have hd:=jeo hf1;have hi:(i+1).toNat=i.toNat+1:=by omega
   rw[hd,List.any_cons]at hf;rw[q1,q2,q3,q4,e1,e2,e3,e4];refine c_t (jaa (by omega)) (c_t rfl (c_t (jaa hsz) ?_));have hp':jb6 ⟨f.k,f.w,f.d,f.s⟩=jb6 f:=rfl;rw[hp'];cases hq:jb6 f
   ·rw[pBad,hq]at hf;exact c_t rfl (hf i)
   ·rw[pBad,hq]at hf;refine c_f rfl ?_;rw[w64 (n:=i+1) (by omega)];refine⟨(c,ty,off,n,cap,r,i+1),rfl,rfl,?_,by simp only;omega,?_⟩
    ·simp only[S46_0,jaf,jae];exact⟨ho,h1,by omega,by omega⟩
    ·simp only[S46_0,badV];rw[hi];exact hf
  ·have h:=jac h;obtain rfl:i=n:=by omega
   rw[Int.toNat_natCast,List.drop_eq_nil_of_le (by omega)]at hf;exact hf
def s46n:Ab.Spec:=fun args bs=>match args,bs with
 | [.slice none 0 0],[none]=>some (true,I 0)
 | _,_=>none
theorem fn46:Fn1 Tryz.prog 46 Tryz.f46:= .m Tryz.func46
theorem v46n_0(R:Value→Prop):ja4 Tryz.prog A2 noL Tryz.f46 [.slice none 0 0] (jcu [none]) 1 (fun v _ _=>R v)=(bif aq (natO 0) 16 then R (ak 130)else bif al 0 (natO 0)then False else R (ak 0)):=by kernel_rfl
theorem k46n_0(hc:(true)=true):jbf Tryz.prog A2 noL Tryz.f46 [.slice none 0 0] [none] 1 (I 0):=by
 rw[jbf,v46n_0];delta ak al aq;rw[ja3];rfl
theorem ok46n:jal Tryz.prog 46 s46n:=by
 refine jbt ok_A2 hmix fn46 jai fun args bs v hs=> ?_
 simp only[s46n]at hs;split at hs
 ·simp only[Option.some.injEq,Prod.mk.injEq]at hs;obtain⟨hc,rfl⟩:=hs;exact⟨_,1,rfl,rfl,jag,k46n_0 (by first | rfl | exact hc)⟩
 ·cases hs
def s46w:Ab.Spec:=fun args bs=>match args,bs with
 | [.slice (some ⟨_,off,some 1⟩) n cap],[some ⟨c,ty,o⟩]=>some ((foOK c off n&&true),I (bif decide (16<(n:Int)) || (foA c off n).any pBad then 130 else 0))
 | _,_=>none
theorem v46w_0(c:U)(ty:TypeId)(o:Bool)(off:Nat)(n:Nat)(cap:Nat)(R:Value→Prop):ja4 Tryz.prog A2 (oneL 0 S46_0.hQ) Tryz.f46 [.slice (some ⟨0,off,some 1⟩) n cap] (vw c ty) 1 (fun v _ _=>R v)=(bif aq (natO n) 16 then R (ak 130)else Fg.K42.ke (Fl.S46_0.pre (c,(ty,(off,(n,(cap,((0:Int),(0:Int)))))))) (Fl.badV c off n 0) 0 c (Int→e6 (bu c 60) (ak 130) R) R):=by kernel_rfl
theorem k46w_0(c:U)(ty:TypeId)(o:Bool)(off:Nat)(n:Nat)(cap:Nat)(hc:((foOK c off n&&true))=true):jbf Tryz.prog A2 (oneL 0 S46_0.hQ) Tryz.f46 [.slice (some ⟨0,off,some 1⟩) n cap] [some ⟨c,ty,o⟩] 1 (I (bif decide (16<(n:Int)) || (foA c off n).any pBad then 130 else 0)):=by
 rw[jbf,jfa (o:=o) (jcv hc),v46w_0 (o:=o)];delta e6 ak bu Fg.K42.ke aq;rw[ja3];simp only[jaf,and_true]at hc;have hi:jaz 60 c=true:=jcc (jcj hc).2.1;apply cond_intro<;>intro h
 ·rw[show decide (16<(n:Int))=decide ((n:Int)>16)from rfl,h];rfl
 ·have h':=jac h;rw[show decide (16<(n:Int))=decide ((n:Int)>16)from rfl,h,Bool.false_or];refine c_t (by simp[hi]) (c_t ?_ ?_)
  ·simp only[S46_0,jaf,jae];exact⟨hc,by omega,by omega,by omega⟩
  ·have e:badV c off n 0=(foA c off n).any pBad:=by rw[badV,Int.toNat_zero,List.drop_zero]
   rw[e];refine cond_intro (fun h=>fun j=>c_t (by simp[hi]) fun _=> ?_) (fun h=>c_t (by simp[hi]) fun _=> ?_)
   ·rw[h];rfl
   ·rw[h];rfl
theorem ok46w:jal Tryz.prog 46 s46w:=by
 refine jbt ok_A2 hmix fn46 l46_0 fun args bs v hs=> ?_
 simp only[s46w]at hs;split at hs
 ·simp only[Option.some.injEq,Prod.mk.injEq]at hs;obtain⟨hc,rfl⟩:=hs;exact⟨_,1,rfl,rfl,jag,k46w_0 _ _ _ _ _ _ (by first | rfl | exact hc)⟩
 ·cases hs
def s46:Ab.Spec:=altS s46n s46w
theorem ok46:jal Tryz.prog 46 s46:=jfe ok46n ok46w
attribute [local instance 5000] tabsB
def kOK(l:List Fo):Bool:=l.all fun f=>decide (1≤f.k)
def D0:Env:=Env.nil.add 104 (sp1 s104)
def jg5(m:Lk):Value→F
 | .slice (some a) _ _=> [m a.block]
 | _=> []
theorem ok_D0:jao Tryz.prog D0:=jak ja7 ok104
theorem kOK_at{l:List Fo}(h:kOK l=true){i:Nat}{f:Fo}(hf:l[i]?=some f):1≤f.k:=by
 have:=List.all_eq_true.1 h f (List.mem_of_getElem? hf);exact jab this
theorem kOK_right{l:List Fo}(h:l.any pBad=false):kOK l=true:=List.all_eq_true.2 fun f hf=>jaa (jij (by
 have:=List.any_eq_false.1 h f hf;simpa[pBad]using this))
def V101_0:U×Nat×Nat×Nat×Nat×RwI×Int→U:=fun(c,ty,off,n,cap,o,i)=> [.slice (some ⟨0,off,some 1⟩) n cap,.slice none 0 0,o.v 200,I i]
def B101_0:U×Nat×Nat×Nat×Nat×RwI×Int→F:=fun(c,ty,off,n,cap,o,i)=> [some ⟨c,ty,false⟩,o.b]
def S101_0:LSpecA (U×Nat×Nat×Nat×Nat×RwI×Int) where
 live:=[0,2,3,4]
 mid:=[0,200]
 n:=220
 ap:=[(.tmp 3,200)]
 dec vs bs:=match vs,bs with
  | [.slice (some ⟨0,off,some 1⟩) n cap,.slice none 0 0,.slice none 0 0,.int .i64 i],[some ⟨c,ty,false⟩,none]=>some (c,ty,off,n,cap,.nil,i)
  | [.slice (some ⟨0,off,some 1⟩) n cap,.slice none 0 0,.slice (some ⟨200,0,some 1⟩) m cp,.int .i64 i],[some ⟨c,ty,false⟩,some ⟨d,3,true⟩]=>some (c,ty,off,n,cap,.own d m cp,i)
  | _,_=>none
 pre:=fun(c,ty,off,n,cap,o,i)=>o.ok&& (foOK c off n&& (kOK (foA c off n) &&decide (n≤1000000∧0≤i∧i≤n∧o.z.length≤i)))
 fin:=fun(c,ty,off,n,cap,o,i) Z=>(o.z++plV c off n i=[]→Z (.exit 0) [.slice (some ⟨0,off,some 1⟩) n cap,.slice none 0 0,.slice none 0 0,I n] [some ⟨c,ty,false⟩,none])∧(o.z++plV c off n i≠ []→ ∀d' m' cp',rowI d' m' cp'=true→zI d' m'=o.z++plV c off n i→Z (.exit 0) [.slice (some ⟨0,off,some 1⟩) n cap,.slice none 0 0,(.slice (some ⟨200,0,some 1⟩) m' cp'),I n] [some ⟨c,ty,false⟩,some ⟨d',3,true⟩])
theorem r101_0n(c:U)(ty:Nat)(off:Nat)(n:Nat)(cap:Nat)(i:Int)(jk:Tmps)(R:Exit→U→F→Prop):(jbz Tryz.prog D0 noL Tryz.f101.ntmps (ja9 Tryz.f101 0) (tl S101_0.live (V101_0 (c,ty,off,n,cap,.nil,i)) jk) (ml S101_0.mid (B101_0 (c,ty,off,n,cap,.nil,i))) S101_0.n fun e t' m' _=>S101_0.out R e t' m')=(bif al i (natO n)then b4 (Fg.K42.d9 i c off) i n (bif Fl.isDr (Fg.K42.fk i c off)then∀a:Nat,∀b:U,ja1 b a 1 1=true→ax (dm true fp c (ak i::b)) R (some (.mk (rlbL fp c) ty false)::bk (rlbL fp (ak i::b)) 3) [Fg.K42.cl off n cap,bt,am 200 0 1 a,bp i 1]else ax (ck [] c) R [some (.mk (rlbL [] c) ty false),none] [Fg.K42.cl off n cap,bt,bt,bp i 1])else bw (ck [] c) R [some (.mk (rlbL [] c) ty false),none] [Fg.K42.cl off n cap,bt,bt,ak i] 0):=by kernel_rfl
theorem r101_0o(c:U)(ty:Nat)(off:Nat)(n:Nat)(cap:Nat)(d:U)(m:Nat)(cp:Nat)(i:Int)(jk:Tmps)(R:Exit→U→F→Prop):(jbz Tryz.prog D0 noL Tryz.f101.ntmps (ja9 Tryz.f101 0) (tl S101_0.live (V101_0 (c,ty,off,n,cap,.own d m cp,i)) jk) (ml S101_0.mid (B101_0 (c,ty,off,n,cap,.own d m cp,i))) S101_0.n fun e t' m' _=>S101_0.out R e t' m')=(bif al i (natO n)then b4 (Fg.K42.d9 i c off) i n (bif Fl.isDr (Fg.K42.fk i c off)then ft d cp m 8 (∀a:Nat,∀b:U,fu b a m→ax (dm true fp c (dy d [ak i] b m 1)) R (some (.mk (rlbL fp c) ty false)::bk (rlbL fp (dy d [ak i] b m 1)) 3) [Fg.K42.cl off n cap,bt,am 200 0 (m+1) a,bp i 1])else ax (dm true ia c d) R [some (.mk (rlbL ia c) ty false),dv d 200 200 3] [Fg.K42.cl off n cap,bt,am 200 0 m cp,bp i 1])else bw (dm true ia c d) R [some (.mk (rlbL ia c) ty false),dv d 200 200 3] [Fg.K42.cl off n cap,bt,am 200 0 m cp,ak i] 0):=by kernel_rfl
theorem l101_0:LOKf Tryz.prog (oneL 0 S101_0.hA) Tryz.f101:=by
 refine jbk (h:=S101_0.hA) (by kernel_rfl) (jb1 ok_D0 hmix (by kernel_rfl) (ja6 _) S101_0 V101_0 B101_0 (fun(c,ty,off,n,cap,o,i)=>(n-i).toNat) ?_ ?_ ?_)
 ·intro vs bs s h;simp only[S101_0]at h;split at h
  all_goals first | (cases h;exact⟨rfl,rfl⟩) | cases h | (split at h<;>first | (rename_i hq;cases h;have hq:=jah hq;subst hq;exact⟨rfl,rfl⟩) | (rename_i hq;cases h;simp only[cnd,jaf,Nat.beq_eq]at hq;obtain⟨rfl,rfl,rfl⟩:=hq;exact⟨rfl,rfl⟩) | cases h)
 ·exact fun⟨c,ty,off,n,cap,o,i⟩ hp=>by
   simp only[S101_0,jaf]at hp;have hq:=jar (jcj hp.2.1).2.1;cases o with
   | nil=>simp[V101_0,B101_0,S101_0,jaz,jbn,idsL,ids,RwI.v,RwI.b,hq]
   | own d m cap=>simp[V101_0,B101_0,S101_0,jaz,jbn,idsL,ids,RwI.v,RwI.b,hq,jar (jbx (rwI_own hp.1))]
 ·intro⟨c,ty,off,n,cap,o,i⟩ jk Z hp hf;simp only[S101_0]at hp hf;simp only[jaf,jae]at hp;obtain⟨hr,ho,hk,h1,h3,h4,h5⟩:=hp;obtain⟨hl,hpl,hat⟩:=jcj ho;have ec:∀ps,rlbL ps c=c:=fun ps=>rlbL_plain ps hpl
  have gc:∀ps,jat ps c=true:=fun ps=>goodL_plain hpl
  have hstep:i<(n:Int)→ ∃f,(foA c off n)[i.toNat]?=some f∧f.s.size≤9223372036854775807∧
    jam .i64 c (off+i.toNat*4)=true∧jam .i64 c (off+i.toNat*4+1)=true∧jam .i64 c (off+i.toNat*4+1+1)=true∧jbp c (off+i.toNat*4+1+1+1)=true∧
    isDr ⟨jaj c (off+i.toNat*4),jaj c (off+i.toNat*4+1),jaj c (off+i.toNat*4+1+1),jb7 c (off+i.toNat*4+1+1+1)⟩=isD f∧plV c off n i=bif isD f then i::plV c off n (i+1)else plV c off n (i+1):=fun h=>by
   obtain⟨f,hf1,hsz,q1,q2,q3,q4,e1,e2,e3,e4⟩:=hat i.toNat (by omega);refine⟨f,hf1,hsz,q1,q2,q3,q4,?_,?_⟩
   ·rw[e1,e2,e3,e4];exact jkm (kOK_at hk hf1)
   ·rw[plV,plV,jeo hf1,plZ,show(i+1).toNat=i.toNat+1 by omega]
  have hend:i=n→plV c off n i=[]:=fun h=>by
   rw[plV,h,Int.toNat_natCast,List.drop_eq_nil_of_le (by omega),plZ]
  cases o with
  | nil=>
   rw[r101_0n];delta bw ak bt Fg.K42.cl ck cw b4 ax bq bp am bk fp dm Fg.K42.cm Fg.K42.dx Fg.K42.fk Fg.K42.gu Fg.K42.d9 al;simp only[RwI.z,List.length_nil,List.nil_append]at hf h5;rw[ja3];apply cond_intro<;>intro h
   ·have h:=jab h;obtain⟨f,hf1,hsz,q1,q2,q3,q4,e1,ep⟩:=hstep h;rw[q1,q2,q3,q4,e1];rw[ep]at hf;refine c_t (jaa (by omega)) (c_t rfl (cond_intro (fun q=>fun cq tail ht=> ?_) (fun q=> ?_)))
    ·have hr1:=jhg (l:=[i]) ht;have hz1:=jjk [i] tail;have q:isD f=true:=q;rw[q,cond_true]at hf;refine c_t (by simp[gc,goodL_plain (jbx (d:=Value.int IntKind.i64 i::tail) hr1)]) ?_;rw[ec,rlbL_plain _ (jbx (d:=Value.int IntKind.i64 i::tail) hr1),w64 (by omega)];refine⟨(c,ty,off,n,cap,.own (.int .i64 i::tail) 1 cq,i+1),rfl,rfl,?_,by simp only;omega,?_⟩
     ·simp only[S101_0,jaf,jae];exact⟨by simp only[RwI.ok,jaf];exact⟨hr1,rfl⟩,ho,hk,h1,by omega,by omega,by simp only[RwI.z];rw[show zI (Value.int IntKind.i64 i::tail) 1=[i]from hz1];simp;omega⟩
     ·simp only[S101_0,RwI.z];rw[show zI (Value.int IntKind.i64 i::tail) 1=[i]from hz1];exact hf
    ·have q:isD f=false:=q;rw[q,cond_false]at hf;refine c_t (by simp[gc]) ?_;rw[ec,w64 (by omega)];refine⟨(c,ty,off,n,cap,.nil,i+1),rfl,rfl,?_,by simp only;omega,?_⟩
     ·simp only[S101_0,jaf,jae];exact⟨hr,ho,hk,h1,by omega,by omega,by simp only[RwI.z,List.length_nil];omega⟩
     ·simp only[S101_0,RwI.z,List.nil_append];exact hf
   ·have h:=jac h;obtain rfl:i=n:=by omega
    refine c_t (by simp[gc]) ?_;rw[ec];exact hf.1 (hend rfl)
  | own d m cp=>
   rw[r101_0o];delta bw ak am bt Fg.K42.cl dv ia dm cw b4 ax bq bp gq jz ft bk dy fp fu Fg.K42.cm Fg.K42.dx Fg.K42.fk Fg.K42.gu Fg.K42.d9 al;simp only[RwI.z]at hf h5;simp only[RwI.ok,jaf,Nat.ble_eq]at hr;obtain⟨hr,hm1⟩:=hr;have hdp:=jbx hr;have ed:∀ps,rlbL ps d=d:=fun ps=>rlbL_plain ps hdp
   have gd:∀ps,jat ps d=true:=fun ps=>goodL_plain hdp
   rw[ja3];apply cond_intro<;>intro h
   ·have h:=jab h;obtain⟨f,hf1,hsz,q1,q2,q3,q4,e1,ep⟩:=hstep h;rw[q1,q2,q3,q4,e1];rw[ep]at hf;obtain⟨l,r,rfl,rfl,t1,t2,t3,t4⟩:=jdo.1 hr;rw[t4]at hf h5;refine c_t (jaa (by omega)) (c_t rfl (cond_intro (fun q=>c_t ?_ fun cq tail ht=> ?_) (fun q=> ?_)))
    ·simp only[jaf,Nat.beq_eq,Nat.ble_eq,jb3,List.length_append,jc9];exact⟨⟨⟨⟨by omega,by omega⟩,by omega⟩,trivial⟩,by omega,by omega⟩
    ·have e:List.take (l.length*1) (icL l++r)++ [Value.int IntKind.i64 i]++tail=icL (l++ [i])++tail:=by
      rw[List.take_append_of_le_length (by rw[jc9];omega),List.take_of_length_le (by rw[jc9];omega)];simp[icL]
     have hr1:=jhg (l:=l++ [i]) (r:=tail) (cap:=cq) (by rw[List.length_append];exact ht);have hz1:=jjk (l++ [i]) tail;have q:isD f=true:=q;rw[q,cond_true]at hf;rw[e];have gp:=jbx hr1;refine c_t (by simp[gc,goodL_plain gp]) ?_;rw[ec,rlbL_plain _ gp,w64 (by omega)];refine⟨(c,ty,off,n,cap,.own (icL (l++ [i])++tail) (l.length+1) cq,i+1),rfl,rfl,?_,by simp only;omega,?_⟩
     ·rw[List.length_append]at hr1;simp only[S101_0,jaf,jae];rw[List.length_append]at hz1;exact⟨by simp only[RwI.ok,jaf,Nat.ble_eq];exact⟨hr1,by omega⟩,ho,hk,h1,by omega,by omega,by simp only[RwI.z];rw[show zI (icL (l++ [i])++tail) (l.length+1)=l++ [i]from hz1];simp;omega⟩
     ·simp only[S101_0,RwI.z];rw[List.length_append]at hz1;rw[show zI (icL (l++ [i])++tail) (l.length+1)=l++ [i]from hz1,List.append_assoc];exact hf
    ·have q:isD f=false:=q;rw[q,cond_false]at hf;refine c_t (by simp[gc,gd]) ?_;rw[ec,ed,w64 (by omega)];refine⟨(c,ty,off,n,cap,.own (icL l++r) l.length cp,i+1),rfl,rfl,?_,by simp only;omega,?_⟩
     ·simp only[S101_0,jaf,jae];exact⟨by simp only[RwI.ok,jaf,Nat.ble_eq];exact⟨hr,hm1⟩,ho,hk,h1,by omega,by omega,by simp only[RwI.z,t4];omega⟩
     ·simp only[S101_0,RwI.z,t4];exact hf
   ·have h:=jac h;obtain rfl:i=n:=by omega
    refine c_t (by simp[gc,gd]) ?_;rw[ec,ed];rw[hend rfl,List.append_nil]at hf
    have hz:zI d m≠ []:=by
     obtain⟨l,r,rfl,rfl,t1,t2,t3,t4⟩:=jdo.1 hr;rw[t4];intro e;rw[e]at hm1;simp at hm1
    exact hf.2 hz d m cp hr rfl
theorem w101(c:U)(ty:Nat)(off:Nat)(n:Nat)(cap:Nat)(R:Value→F→Prop):(ja4 Tryz.prog D0 (oneL 0 S101_0.hA) Tryz.f101 [.slice (some ⟨0,off,some 1⟩) n cap] (vw c ty) 2 (fun v m' _=>R v (jg5 m' v)))=(k9 (Fl.S101_0.toLSpec.pre (rlbL [] c,(ty,(off,(n,(cap,(Fg.RwI.nil,(0:Int)))))))) c off n (R bt []) (∀a:U,∀b:Nat,∀d:Nat,la a c b d off n (R (am 200 0 b d) (bk a 3)))):=by kernel_rfl
theorem w101n(R:Value→F→Prop):(ja4 Tryz.prog D0 noL Tryz.f101 [.slice none 0 0] (fun _=>none) 0 (fun v m' _=>R v (jg5 m' v)))=(bif decide (0<natO 0)then False else R (.slice none 0 0) []):=by kernel_rfl
attribute [local instance 5000] tabsB
structure PlIs (l:List Fo)(z:E):Prop where
 eq:plZ l 0=z
def out101(l:List Fo)(m:Lk)(n:Nat)(K:Value→Lk→Nat→Prop):Prop:=
 (PlIs l []→K (.slice none 0 0) m n)∧(∀(d:U)(q cp:Nat),rowI d q cp=true→PlIs l (zI d q)→1≤q→K (.slice (some ⟨n,0,some 1⟩) q cp) (m.upd n ⟨d,3,true⟩) (n+1))
def h101:U→Lk→Nat→(Value→Lk→Nat→Prop)→Prop:=fun args m n K=>match args with
 | [.slice (some ⟨k,off,some 1⟩) len cap]=>match noIt (m k)with
  | some b=>match cnd (foOK b.c off len&& (kOK (foA b.c off len) &&decide (len≤1000000)))with
   | true=>out101 (foA b.c off len) m n K
   | false=>False
  | none=>False
 | [.slice none 0 0]=>K (.slice none 0 0) m n
 | _=>False
def jkj:U→Lk→Nat→(Value→Lk→Nat→Prop)→Prop:=fun args m n K=>match args with
 | [.slice (some ⟨k,off,some 1⟩) len cap]=>match noIt (m k)with
  | some b=>match cnd (foOK b.c off len&& (kOK (foA b.c off len) && (decide (len≤1000000) &&Nat.ble 1 (gN (foA b.c off len)))))with
   | true=>∀(d:U)(q cp:Nat),rowI d q cp=true→PlIs (foA b.c off len) (zI d q)→1≤q→K (.slice (some ⟨n,0,some 1⟩) q cp) (m.upd n ⟨d,3,true⟩) (n+1)
   | false=>False
  | none=>False
 | _=>False
def R101(l:List Fo)(v:Value)(bs:F):Prop:=
 (plZ l 0=[]∧v= .slice none 0 0)∨(∃a d m cp,v= .slice (some ⟨a,0,some 1⟩) m cp∧bs=[some ⟨d,3,true⟩]∧rowI d m cp=true∧zI d m=plZ l 0∧1≤m)
theorem z_len{d:U}{m cp:Nat}(h:rowI d m cp=true):(zI d m).length=m:=by
 obtain⟨l,r,rfl,h1,_,_,_,h2⟩:=jdo.1 h;rw[h2,h1]
theorem w101_ok{c:U}{ty off n cap:Nat}(ho:foOK c off n=true)(hk:kOK (foA c off n)=true)(hn:n≤1000000):
  ja4 Tryz.prog D0 (oneL 0 S101_0.hA) Tryz.f101 [.slice (some ⟨0,off,some 1⟩) n cap] (vw c ty) 2 (fun v m' _=>R101 (foA c off n) v (jg5 m' v)):=by
 obtain⟨hl,hpl,_⟩:=jcj ho;have hid:jaz 220 c=true:=jcc hpl;have ec:rlbL [] c=c:=rlbL_plain [] hpl;rw[w101];delta lq dw bu ck ii k9 la bk am bt
 try rw[ec]
 refine c_t (by simp[hid,goodL_plain hpl]) (c_t ?_ ⟨fun h=> ?_,fun h d' m' cp hr hz=> ?_⟩)
 ·simp only[S101_0,jaf,jae];exact⟨rfl,ho,hk,hn,by omega,by omega,by simp[RwI.z]⟩
 ·refine c_t (by simp[hid]) fun _=> .inl ⟨h,rfl⟩
 ·refine c_t (by simp[hid,jcc (jbx hr)]) fun _=> .inr ⟨_,d',m',cp,rfl,rfl,hr,hz,?_⟩
  have e:=z_len hr;rw[←e];have:zI d' m'≠ []:=fun q=>h (by rw[←q];exact hz.symm)
  exact List.length_pos_iff.2 this
theorem w101n_ok:ja4 Tryz.prog D0 noL Tryz.f101 [.slice none 0 0] (fun _=>none) 0 (fun v _ _=>v= .slice none 0 0):=by
 have:=w101n (fun v _=>v= .slice none 0 0);rw[this,ja3];rfl
theorem R101_new{l:List Fo}{m:Lk}{n:Nat}{K:Value→Lk→Nat→Prop}(h:out101 l m n K){v':Value}{m':Lk}(hR:R101 l v' (jg5 m' v')):
  ∃v mm nn σ,((∀k b,m k=some b→k<n)→NewM m n m' mm nn σ)∧(∀i∈ids v,n≤i∧i<nn)∧(∀ι' ι'':Nm,(∀i,n≤i→ι'' i=ι' (σ i))→ren ι'' v=ren ι' v')∧K v mm nn:=by
 rcases hR with⟨h0,rfl⟩ | ⟨a,d,q,cp,rfl,hl,hr,hz,hq⟩
 ·exact⟨_,m,n,id,fun hwf=>jdp hwf m' id,by simp[ids],fun _ _ _=>by simp[ren],h.1 ⟨h0⟩⟩
 ·have hb:m' a=some ⟨d,3,true⟩:=by
   have:[m' a]=_:=hl;simpa using this
  refine⟨_,_,_,fun _=>a,fun hwf=>jgq hwf hb (jbx hr) rfl,?_,fun ι' ι'' hi=> ?_,h.2 d q cp hr ⟨hz.symm⟩ hq⟩
  ·intro i hi;simp[ids]at hi;omega
  ·simp[ren,ren1,hi n (Nat.le_refl n)]
theorem fn101:Fn1 Tryz.prog 101 Tryz.f101:= .m Tryz.func101
theorem gen_or{P:Program}{f:FuncId}{h h' h2:U→Lk→Nat→(Value→Lk→Nat→Prop)→Prop}(hg:jda P f h)(hg':jda P f h')(hi:∀args m n K,h2 args m n K→h args m n K∨h' args m n K):jda P f h2:=
 ⟨hg.1,fun args m n K hh=>(hi args m n K hh).elim (hg.2 args m n K) (hg'.2 args m n K)⟩
def h101A:U→Lk→Nat→(Value→Lk→Nat→Prop)→Prop:=fun args m n K=>match args with
 | [.slice (some ⟨k,off,some 1⟩) len cap]=>h101 [.slice (some ⟨k,off,some 1⟩) len cap] m n K
 | _=>False
def h101N:U→Lk→Nat→(Value→Lk→Nat→Prop)→Prop:=fun args m n K=>match args with
 | [.slice none 0 0]=>K (.slice none 0 0) m n
 | _=>False
theorem gen101A:jda Tryz.prog 101 h101A:=by
 refine jex jg5 ok_D0 hmix fn101 l101_0 fun args m n K h=> ?_
 unfold h101A at h;split at h
 ·rename_i k off len cap;simp only[h101]at h;split at h
  ·rename_i b hb;split at h
   ·rename_i hc;simp only[cnd,jaf,jae]at hc;obtain⟨ho,hk,h1⟩:=hc;refine⟨[.slice (some ⟨0,off,some 1⟩) len cap],_,2,_,_,jgh hb (jcj ho).2.1 48,fun ι=> ?_,jag,fun v hv j hj=> ?_,by rw[jer];exact w101_ok ho hk h1,fun v' m' hv=>R101_new h hv⟩
    ·simp[ren,ren1]
    ·simp only[List.mem_cons,List.not_mem_nil,or_false]at hv;subst hv;simp[ids]at hj;omega
   ·exact h.elim
  ·exact h.elim
 ·exact h.elim
theorem gen101N:jda Tryz.prog 101 h101N:=by
 refine jex jg5 ok_D0 hmix fn101 jai fun args m n K h=> ?_
 unfold h101N at h;split at h
 ·exact⟨[.slice none 0 0],fun _=>none,0,id,fun v _=>v= .slice none 0 0,jfc m id 0,fun ι=>rfl,jag,fun v hv j hj=>by simp only[List.mem_cons,List.not_mem_nil,or_false]at hv;subst hv;simp[ids]at hj,
   by rw[jer];exact w101n_ok,fun v' m' hv=>by
    subst hv;exact⟨_,m,n,id,fun hwf=>jdp hwf m' id,by simp[ids],fun _ _ _=>by simp[ren],h⟩⟩
 ·exact h.elim
theorem gen101:jda Tryz.prog 101 h101:=gen_or gen101A gen101N fun args m n K h=>by
 match args,h with
 | [.slice (some ⟨k,off,some 1⟩) len cap],h=>exact .inl h
 | [.slice none 0 0],h=>exact .inr h
theorem plZ_ne{l:List Fo}(h:1≤gN l):plZ l 0≠ []:=by
 intro e;have:=congrArg List.length e;rw[show(0:Int)=((0:Nat):Int)from rfl,jft,List.length_map,Fg.plc_len,←jd8,List.length_nil]at this;rw[gN]at h;omega
theorem s101_imp(args:U)(m:Lk)(n:Nat)(K:Value→Lk→Nat→Prop)(h:jkj args m n K):h101 args m n K:=by
 unfold jkj at h;split at h
 ·rename_i k off len cap;split at h
  ·rename_i b hb;split at h
   ·rename_i hc;simp only[cnd,jaf,jae,Nat.ble_eq]at hc;unfold h101;simp only[hb];have:(foOK b.c off len&& (kOK (foA b.c off len) &&decide (len≤1000000)))=true:=by rw[jaf,jaf,jae];exact⟨hc.1,hc.2.1,hc.2.2.1⟩
    rw[this];exact⟨fun e=>(plZ_ne hc.2.2.2 e.eq).elim,h⟩
   ·exact h.elim
  ·exact h.elim
 ·exact h.elim
def D1:Env:=Env.nil.addG 101 jkj
theorem ok_D1:jao Tryz.prog D1:=jaq ja7 (Fg.gen_imp gen101 s101_imp)
def iq(a d:Int)(b:U)(c:Nat):Nat:=(fy (c7 a b c) 1).toNat-d.toNat
def lg(a d:Int)(c i:U)(b g h k:Nat)(j:Value→F→Prop):Prop:=bif dp (fq a b) (b:Int)then bif jam .i64 c (0+(fq a b).toNat*1)then bif bv d (fy (c7 a c b) 1) g then b8 (kg i g d.toNat h (fy (c7 a c b) 1).toNat) (jb3 (iq a d c b) 40) ((iq a d c b).beq 0) (j bt []) (∀e:Nat,∀f:U,ja1 f e (iq a d c b) 4=true→j (am k 0 (iq a d c b) e) (bk (ip i (iq a d c b) g d.toNat h++f) 48))else False else False else False
theorem w102(c:U)(ty:Nat)(off:Nat)(n:Nat)(cap:Nat)(i:Int)(R:Value→F→Prop):(ja4 Tryz.prog D1 noL Tryz.f102 [.slice (some ⟨0,off,some 1⟩) n cap,I i] (vw c ty) 2 (fun v m' _=>R v (jg5 m' v)))=(bif Fg.foOK c off n&& (Fl.kOK (Fg.foA c off n) && (decide (n≤1000000) &&Nat.ble 1 (Fg.gN (Fg.foA c off n))))then∀a:U,∀b:Nat,∀d:Nat,Fg.rowI a b d=true→Fl.PlIs (Fg.foA c off n) (Fg.zI a b)→1≤b→(bif decide (natO b≠0)then bif aq (fq i b) 0 then gm (jam .i64 a (0+(b9 (fq i b) 1).toNat*1)) (b9 (fq i b) 1) (b:Int) (lg i (jw (fq i b) a) a c b cap off 32 R) False else bif aq i 0 then lc a c b n cap off (lg i 0 a c b cap off 39 R) (∀e:Nat,∀f:U,ja1 f e (n-ez a b) 4=true→gm (jam .i64 a (0+(fq i b).toNat*1)) (fq i b) (b:Int) (bif bv 0 (fy (c7 i a b) 1) cap then bif lf (fy (c7 i a b) 1) a c f n b cap off e (Int.toNat 0) (iq i 0 a b)then∀g:Nat,∀h:U,ja1 h g (n-ez a b+iq i 0 a b) 4=true→R (am 39 0 (n-ez a b+iq i 0 a b) g) (bk (dy (ip c (n-ez a b) cap (ez a b) off++f) (ip c (iq i 0 a b) cap (Int.toNat 0) off) h (n-ez a b) 4) 48)else False else False) False)else lg i 0 a c b cap off 27 R else False)else False):=by kernel_rfl
attribute [local instance 5000] tabsB
def h102:U→Lk→Nat→(Value→Lk→Nat→Prop)→Prop:=fun args m n K=>match args with
 | [.slice (some ⟨k,off,some 1⟩) len cap,.int .i64 i]=>match noIt (m k)with
  | some b=>match cnd (foOK b.c off len&& (kOK (foA b.c off len) && (decide (len≤1000000∧len≤cap∧0≤i) &&Nat.ble 1 (gN (foA b.c off len)))))with
   | true=>∀(o:List Fo)(q cap:Nat)(tail:U),ItIs (foA b.c off len) i o→o.length=q→ja1 tail cap q 4=true→K (oslc n 0 q cap) (m.upd n ⟨fcL o++tail,48,true⟩) (n+1)
   | false=>False
  | none=>False
 | _=>False
def R102(o:List Fo)(v:Value)(bs:F):Prop:=∃a cap tail,v=oslc a 0 o.length cap∧bs=[some ⟨fcL o++tail,48,true⟩]∧ja1 tail cap o.length 4=true
theorem jgf{o o':List Fo}{q a cap:Nat}{cs tail:U}(he:o'=o)(hq:q=o.length)(hc:cs=fcL o')(ht:ja1 tail cap q 4=true):R102 o (.slice (some ⟨a,0,some 1⟩) q cap) [some ⟨cs++tail,48,true⟩]:=by
 subst he hq hc;exact⟨a,cap,tail,rfl,rfl,ht⟩
theorem w102_ok{c:U}{ty off n cap:Nat}{i:Int}(ho:foOK c off n=true)(hk1:kOK (foA c off n)=true)(hn:n≤1000000)(hc:n≤cap)(hg:0<(grp isD (foA c off n)).1.length)(hi:0≤i):
  ja4 Tryz.prog D1 noL Tryz.f102 [.slice (some ⟨0,off,some 1⟩) n cap,I i] (vw c ty) 2 (fun v m' _=>R102 (itL isD (foA c off n) i.toNat) v (jg5 m' v)):=by
 obtain⟨hl,hpl,_⟩:=jcj ho;rw[w102];delta b8 bk lm ip fy fq c7 iq am bt kg bv dp lg b9 jw ez lc gm dy gq lf aq;rw[ho];generalize hL:foA c off n=L at*;refine c_t (by rw[hk1,jaa hn];simp only[Bool.true_and,Nat.ble_eq,gN];omega) fun d q cp hr hz hq1=> ?_
 obtain⟨P,r,rfl,rfl,t1,t2,t3,t4⟩:=jdo.1 hr
 have hP:P=(plc isD L 0).map fun n:Nat=>(n:Int):=by
  rw[←jft,←t4];exact hz.eq.symm
 clear hz t4;have hPl:P.length=(grp isD L).1.length:=by rw[hP,List.length_map,Fg.plc_len,jd8]
 have hkn:(grp isD L).1.length≤n:=by
  rw[jd8,←hl];exact List.countP_le_length
 have n1:1≤n:=by omega
 generalize hk:(grp isD L).1.length=k at*
 have him:i.tmod (P.length:Int)=((i.toNat%k:Nat):Int):=by
  rw[hPl,Int.tmod_eq_emod_of_nonneg hi];obtain⟨j,rfl⟩:=Int.eq_ofNat_of_zero_le hi;simp
 have hok:i.toNat%k<k:=Nat.mod_lt _ hg;have hdp:=jbx hr;have hit:itL isD L i.toNat=(if i.toNat%k=0∧0<i.toNat then(grp isD L).2 else [])++(grp isD L).1.getD (i.toNat%k) []:=by unfold itL;rw[hk]
 rw[ja3,him];generalize hoo:i.toNat%k=o at*;have hAt:=plc_own isD L o (by omega);have hS:=S_le (l:=L) (o:=o) (by omega);have hg1:=je8 isD L o (by omega);have hcut:=jiu isD L o (by omega);generalize hG:(grp isD L).1.getD o []=g at*;generalize hSS:((grp isD L).1.take o).flatten.length=S at*;obtain⟨iA,eA⟩:=jg9 (l:=P) (r:=r) (z:=(o:Int)) (j:=o) rfl (x:=((S+g.length-1:Nat):Int)) (by rw[hP,List.getElem?_map,hAt];rfl);have ew3:IntKind.wrap .i64 (((S+g.length-1:Nat):Int)+1)=((S+g.length:Nat):Int):=by rw[w64 (by omega)];omega
 refine c_t (jaa (by omega)) ?_;have hb0:decide (0≤(o:Int)∧(o:Int)<(P.length:Int))=true:=jaa (by omega);rw[iA,eA,ew3,hb0];simp only[cond_true];apply cond_intro<;>intro h0
 ·have h0:(o:Int)>0:=jab h0;obtain⟨p,hp1,hp2⟩:=plc_prev isD L o (by omega) (by omega);rw[hSS]at hp2;have ew:IntKind.wrap .i64 ((o:Int)-1)=((o-1:Nat):Int):=by rw[w64 (by omega)];omega
  obtain⟨iP,eP⟩:=jg9 (l:=P) (r:=r) (z:=((o-1:Nat):Int)) (j:=o-1) rfl (x:=(p:Int)) (by rw[hP,List.getElem?_map,hp1];rfl);rw[ew];rw[iP,eP];have ew2:IntKind.wrap .i64 ((p:Int)+1)=(S:Int):=by rw[w64 (by omega)];omega
  rw[ew2];obtain⟨c1,c2,c3⟩:=cutF ho n1 hn hc (lo:=Int.toNat (S:Int)) (hi:=Int.toNat ((S+g.length:Nat):Int)) (by omega) (by omega);rw[c1,c2,c3,hL,jd9];have e1:Int.toNat ((S+g.length:Nat):Int)-Int.toNat (S:Int)=g.length:=by omega
  rw[e1];have hitl:itL isD L i.toNat=g:=by rw[hit,if_neg (by omega),List.nil_append]
  refine c_t (jaa (by omega)) (c_t rfl (c_t (jaa (by omega)) (c_t rfl (cond_intro (fun q=> ?_) (fun q=>fun cap1 tail ht=> ?_)))))
  ·have q:=jah q;omega
  ·exact jgf (o':=(L.drop (Int.toNat (S:Int))).take g.length) (by rw[hitl];exact hcut) (by rw[hitl]) rfl ht
 ·have h0:¬(o:Int)>0:=jac h0;have ho0:o=0:=by omega
  have hS0:S=0:=by rw[←hSS,ho0];rfl
  obtain⟨c1,c2,c3⟩:=cutF ho n1 hn hc (lo:=Int.toNat 0) (hi:=Int.toNat ((S+g.length:Nat):Int)) (by omega) (by omega);have e1:Int.toNat ((S+g.length:Nat):Int)-Int.toNat 0=g.length:=by omega
  rw[c1,c2,c3,hL,jd9];rw[e1];rw[hS0]at hcut;have hd0:decide ((0:Int)≤0∧0≤((S+g.length:Nat):Int)∧((S+g.length:Nat):Int)≤(cap:Int))=true:=jaa (by omega);rw[hd0];simp only[cond_true];apply cond_intro<;>intro h1
  ·have h1:i>0:=jab h1;obtain⟨p,hp1,hp2,hp3⟩:=plc_last isD L (by omega);rw[hk]at hp1;have ew:IntKind.wrap .i64 ((P.length:Int)-1)=((k-1:Nat):Int):=by rw[w64 (by omega)];omega
   obtain⟨iP,eP⟩:=jg9 (l:=P) (r:=r) (z:=((k-1:Nat):Int)) (j:=k-1) rfl (x:=(p:Int)) (by rw[hP,List.getElem?_map,hp1];rfl);rw[ew];rw[iP,eP];have hflat:=congrArg List.length (jdq isD L);rw[List.length_append]at hflat;have ew2:IntKind.wrap .i64 ((p:Int)+1)=((p+1:Nat):Int):=by rw[w64 (by omega)];rfl
   rw[ew2];obtain⟨d1,d2,d3⟩:=cutF ho n1 hn hc (lo:=Int.toNat ((p+1:Nat):Int)) (hi:=n) (by omega) (by omega)
   have hrest:(L.drop (Int.toNat ((p+1:Nat):Int))).take (n-Int.toNat ((p+1:Nat):Int))=(grp isD L).2:=by
    rw[Int.toNat_natCast,hp3,List.take_of_length_le (by omega)]
   rw[hL]at d1;rw[d1,d2,d3,jd9,hrest];have hrl:n-Int.toNat ((p+1:Nat):Int)=(grp isD L).2.length:=by omega
   have hitl:itL isD L i.toNat=(grp isD L).2++g:=by rw[hit,if_pos ⟨ho0,by omega⟩]
   refine c_t (jaa (by omega)) (c_t rfl (c_t (jaa (by omega)) (c_t rfl (cond_intro (fun q1=> ?_) (fun q1=>fun cap1 tail ht1=> ?_)))))
   ·have q1:=jah q1;have hr0:(grp isD L).2=[]:=List.length_eq_zero_iff.1 (by omega);refine c_t rfl (cond_intro (fun q=> ?_) (fun q=>fun cap1 tail ht=> ?_))
    ·have q:=jah q;omega
    ·exact jgf (o':=(L.drop 0).take g.length) (by rw[hitl,hr0];exact hcut) (by rw[hitl,hr0,List.nil_append]) rfl ht
   ·rw[hrl]at ht1 ⊢;obtain⟨u1,u2,u3,u4⟩:=jch ht1;refine c_t ?_ fun cap2 tail2 ht=> ?_
    ·simp only[jaf,Nat.beq_eq,Nat.ble_eq,jb3,List.length_append,jcz,Bool.true_and];exact⟨⟨⟨⟨by omega,u3⟩,u4⟩,trivial⟩,by omega,by omega⟩
    ·have ec2:List.take ((grp isD L).2.length*4) (fcL (grp isD L).2++tail)++fcL (List.take g.length (List.drop (Int.toNat 0) L))=fcL ((grp isD L).2++g):=by
      rw[List.take_append_of_le_length (by rw[jcz];omega),List.take_of_length_le (by rw[jcz];omega)];rw[show List.take g.length (List.drop (Int.toNat 0) L)=g from hcut,jhv]
     exact jgf (o':=(grp isD L).2++g) hitl.symm (by rw[hitl,List.length_append]) ec2 ht
  ·have h1:¬i>0:=jac h1;have hitl:itL isD L i.toNat=g:=by rw[hit,if_neg (by omega),List.nil_append]
   refine c_t rfl (cond_intro (fun q=> ?_) (fun q=>fun cap1 tail ht=> ?_))
   ·have q:=jah q;omega
   ·exact jgf (o':=(L.drop 0).take g.length) (by rw[hitl];exact hcut) (by rw[hitl]) rfl ht
theorem R102_new{l:List Fo}{i:Int}{m:Lk}{n:Nat}{K:Value→Lk→Nat→Prop}(h:∀(o:List Fo)(q cap:Nat)(tail:U),ItIs l i o→o.length=q→ja1 tail cap q 4=true→K (oslc n 0 q cap) (m.upd n ⟨fcL o++tail,48,true⟩) (n+1)){v':Value}{m':Lk}(hR:R102 (itL isD l i.toNat) v' (jg5 m' v')):
  ∃v mm nn σ,((∀k b,m k=some b→k<n)→NewM m n m' mm nn σ)∧(∀i∈ids v,n≤i∧i<nn)∧(∀ι' ι'':Nm,(∀i,n≤i→ι'' i=ι' (σ i))→ren ι'' v=ren ι' v')∧K v mm nn:=by
 obtain⟨a,cap,tail,rfl,hl,ht⟩:=hR;obtain⟨u1,_⟩:=jch ht
 have hb:m' a=some ⟨fcL (itL isD l i.toNat)++tail,48,true⟩:=by
  have:[m' a]=_:=hl;simpa using this
 refine⟨_,_,_,fun _=>a,fun hwf=>jgq hwf hb (jgo (jd0 _) u1) rfl,?_,fun ι' ι'' hi=> ?_,h _ _ cap tail ⟨rfl⟩ rfl ht⟩
 ·intro i hi;simp[ids,oslc]at hi;omega
 ·simp[ren,oslc,ren1,hi n (Nat.le_refl n)]
theorem fn102:Fn1 Tryz.prog 102 Tryz.f102:= .m Tryz.func102
theorem gen102:jda Tryz.prog 102 h102:=by
 refine jex jg5 ok_D1 hmix fn102 jai fun args m n K h=> ?_
 unfold h102 at h;split at h
 ·rename_i k off len cap i;split at h
  ·rename_i b hb;split at h
   ·rename_i hc;simp only[cnd,jaf,jae,Nat.ble_eq]at hc;obtain⟨ho,hk,⟨h1,h2,h3⟩,h4⟩:=hc;refine⟨_,_,2,_,_,jgh hb (jcj ho).2.1 48,fun ι=>jf9 ι,jag,jhe,by rw[jer];exact w102_ok ho hk h1 h2 h4 h3,fun v' m' hv=>R102_new h hv⟩
   ·exact h.elim
  ·exact h.elim
 ·exact h.elim
def D2:Env:=(((Env.nil.add 46 s46).add 100 (sp3 s100)).addG 101 h101).addG 102 h102
theorem ok_D2:jao Tryz.prog D2:=jaq (jaq (jak (jak ja7 ok46) ok100) gen101) gen102
def l6(k:Int)(c:U)(a d i j l:Nat)(b:Value→F→Prop):Prop:=bif natO a==0 then b (ay [bt,ak 1]) []else bif Fg.foOK c d i&& (Fl.kOK (Fg.foA c d i) && (decide (i≤1000000∧i≤j∧0≤k) &&Nat.ble 1 (Fg.gN (Fg.foA c d i))))then∀e:List Ff.Fo,∀f:Nat,∀g:Nat,∀h:U,Fg.ItIs (Fg.foA c d i) k e→e.length=f→ja1 h g f 4=true→b (ay [am l 0 f g,ak 0]) (bk (Fg.fcL e++h) 48)else False
theorem w45(c:U)(ty:Nat)(off:Nat)(n:Nat)(cap:Nat)(i:Int)(R:Value→F→Prop):(ja4 Tryz.prog D2 noL Tryz.f45 [.slice (some ⟨0,off,some 1⟩) n cap,I i] (vw c ty) 2 (fun v m' _=>R v (jfw m' v)))=(b8 (Fg.foOK c off n) true (ib c n off !=0) (R (ay [bt,.int .i64 (ib c n off)]) []) (bif kf 0 i 999 then R (ay [bt,ak 1]) []else bif Fg.foOK c off n&& (Fl.kOK (Fg.foA c off n) &&decide (n≤1000000))then(Fl.PlIs (Fg.foA c off n) []→l6 i c 0 off n cap 21 R)∧(∀a:U,∀b:Nat,∀d:Nat,Fg.rowI a b d=true→Fl.PlIs (Fg.foA c off n) (Fg.zI a b)→1≤b→l6 i c b off n cap 22 R)else False)):=by kernel_rfl
theorem w45n(i:Int)(R:Value→F→Prop):(ja4 Tryz.prog D2 noL Tryz.f45 [.slice none 0 0,I i] (fun _=>none) 0 (fun v m' _=>R v (jfw m' v)))=(bif !(decide (0≤i) &&decide (i≤999))then R (.tuple (.mk [.slice none 0 0,I 1])) []else bif natO 0==0 then R (.tuple (.mk [.slice none 0 0,I 1])) []else False):=by kernel_rfl
end Go.Fl
end
noncomputable section
set_option maxHeartbeats 3200000
set_option maxRecDepth 100000
namespace Go.Fl
open Go Go.Ab Go.Proofs Go.Shelf Go.Px Go.Cv Go.Cx Go.Ff Go.Fg Go.Fh
attribute [local instance 5000] tabsB
theorem gN_plZ{l:List Fo}:(plZ l 0).length=gN l:=by
 rw[show(0:Int)=((0:Nat):Int)from rfl,jft,List.length_map,Fg.plc_len,gN,jd8]
theorem w45_ok{c:U}{ty off n cap:Nat}{i:Int}(ho:foOK c off n=true)(hn:n≤1000000)(hc:n≤cap):
  ja4 Tryz.prog D2 noL Tryz.f45 [.slice (some ⟨0,off,some 1⟩) n cap,I i] (vw c ty) 2 (fun v m' _=>R13 (foA c off n) i v (jfw m' v)):=by
 obtain⟨hl,hpl,_⟩:=jcj ho;rw[w45];delta b8 bk ay ak am bt l6 kf al ib;rw[ho,jaa hn];generalize hL:foA c off n=L at*;refine c_t rfl (cond_intro (fun h=> ?_) (fun h=> ?_))
 ·have hb:(decide (16<(n:Int)) || L.any pBad)=true:=by
   cases hq:(decide (16<(n:Int)) || L.any pBad)
   ·rw[hq]at h;cases h
   ·rfl
  rw[hb]
  have:eIt L i=130:=by
   rw[eIt,if_pos];rw[Bool.or_eq_true,jae]at hb;exact hb.imp (fun x=>by omega) id
  exact .inl ⟨by rw[this];decide,by rw[this];rfl⟩
 ·have hb:(decide (16<(n:Int)) || L.any pBad)=false:=by
   cases hq:(decide (16<(n:Int)) || L.any pBad)
   ·rfl
   ·rw[hq]at h;cases h
  have hb':¬(16<L.length∨L.any pBad=true):=by
   intro q
   have:(decide (16<(n:Int)) || L.any pBad)=true:=by
    rw[Bool.or_eq_true,jae];exact q.imp (fun x=>by omega) id
   rw[this]at hb;cases hb
  have hk:kOK L=true:=kOK_right (by
   cases hq:L.any pBad
   ·rfl
   ·exact absurd (.inr hq) hb')
  have e1:∀{x:F},(i<0∨999<i∨gN L=0)→R13 L i (.tuple ⟨[.slice none 0 0,.int .i64 1]⟩) x:=fun q=>by
   have:eIt L i=1:=by rw[eIt,if_neg hb',if_pos q]
   exact .inl ⟨by rw[this];decide,by rw[this]⟩
  rw[hk];refine cond_intro (fun h1=>e1 ?_) (fun h1=>c_t rfl ⟨fun hz=>c_t (by rw[ja3];rfl) (e1 ?_),fun d q cp hr hz hq=>c_f ?_ ?_⟩)
  ·simp only[Bool.not_eq_true',Bool.and_eq_false_iff,decide_eq_false_iff_not]at h1;omega
  ·have:=gN_plZ (l:=L);rw[hz.eq,List.length_nil]at this;omega
  ·rw[ja3];simp;omega
  ·have hg:=gN_plZ (l:=L);rw[hz.eq,z_len hr]at hg;simp only[Bool.not_eq_false',jaf,jae]at h1;have he:eIt L i=0:=by rw[eIt,if_neg hb',if_neg (by omega)]
   refine c_t ?_ fun o q' cap' tail ho' hq' ht=>ji2 he ho'.eq.symm hq'.symm rfl ht
   rw[jaa ⟨hn,hc,h1.1⟩];simp only[Bool.true_and,Nat.ble_eq];omega
theorem w45n_ok{i:Int}:ja4 Tryz.prog D2 noL Tryz.f45 [.slice none 0 0,I i] (fun _=>none) 0 (fun v _ _=>v= .tuple ⟨[.slice none 0 0,.int .i64 1]⟩):=by
 have:=w45n i (fun v _=>v= .tuple ⟨[.slice none 0 0,.int .i64 1]⟩);rw[this,ja3];exact cond_intro (fun _=>rfl) (fun _=>rfl)
theorem fn45:Fn1 Tryz.prog 45 Tryz.f45:= .m Tryz.func45
theorem gen45:jda Tryz.prog 45 jid:=by
 refine jex jfw ok_D2 hmix fn45 jai fun args m n K h=> ?_
 unfold jid at h;split at h
 ·rename_i k off len cap i;split at h
  ·rename_i b hb;split at h
   ·rename_i hc;simp only[cnd,jaf,jae]at hc;obtain⟨ho,h1,h2⟩:=hc;refine⟨_,_,2,_,_,jgh hb (jcj ho).2.1 48,fun ι=>jf9 ι,jag,jhe,by rw[jer];exact w45_ok ho h1 h2,fun v' m' hv=>R13_new h hv⟩
   ·exact h.elim
  ·exact h.elim
 ·rename_i i
  exact⟨[.slice none 0 0,I i],fun _=>none,0,id,fun v _=>v= .tuple ⟨[.slice none 0 0,.int .i64 1]⟩,jfc m id 0,fun ι=>rfl,jag,fun v hv j hj=>by simp only[List.mem_cons,List.not_mem_nil,or_false]at hv;rcases hv with rfl | rfl<;>simp[ids]at hj,
   by rw[jer];exact w45n_ok,fun v' m' hv=>by
    subst hv;exact⟨_,m,n,id,fun hwf=>jdp hwf m' id,by simp[ids,idsL],fun _ _ _=>by simp[ren,renL],h⟩⟩
 ·exact h.elim
end Go.Fl
end
noncomputable section
namespace Go.Cs
open Go Go.Ab Go.Proofs Go.Shelf Go.Px Go.Cx Go.RowKit
class MaxL where
 mx:Int
variable [MaxL]
def rowsC:Nat→Option U:=fun b=>match Nat.beq b 1 with
 | true=>some [.int .i64 MaxL.mx]
 | false=>jjf b
/-- The tables; lengths and characters are computed. -/
instance tabsC:Tabs where
 row:=rowsC
 plain:=fun b r h=>by
  unfold rowsC at h;split at h
  ·cases h;rfl
  ·exact tabs.plain b r h
 conc:=true
 wide:=true
theorem rowsC_of{b:Nat}{r:U}(h:jjf b=some r):rowsC b=some r:=by
 unfold rowsC;split
 ·rename_i hb;obtain rfl:=jah hb;cases h
 ·exact h
theorem tabsIn_T{N:Nat}{w:World}(h: @TabsIn tabsC N w): @TabsIn tabs N w:=fun b r hr=>h b r (rowsC_of hr)
theorem tabsIn_B{N:Nat}{w:World}(h: @TabsIn tabsC N w): @TabsIn Ff.tabsB N w:=fun b r hr=>h b r (rowsC_of hr)
theorem RelM.toT{N:Nat}{w0:World}{m:Lk}{ι:Nm}{w:World}(h: @RelM tabsC N w0 m ι w): @RelM tabs N w0 m ι w:=
 @RelM.mk tabs N w0 m ι w h.below ⟨h.base.1,tabsIn_T h.base.2⟩ h.blk h.view h.inj
theorem RelM.toB{N:Nat}{w0:World}{m:Lk}{ι:Nm}{w:World}(h: @RelM tabsC N w0 m ι w): @RelM Ff.tabsB N w0 m ι w:=
 @RelM.mk Ff.tabsB N w0 m ι w h.below ⟨h.base.1,tabsIn_B h.base.2⟩ h.blk h.view h.inj
theorem RelM.toC{N:Nat}{w0:World}{m:Lk}{ι:Nm}{w:World}(hb: @TabsIn tabsC N w0)(h: @RelM tabs N w0 m ι w): @RelM tabsC N w0 m ι w:=
 @RelM.mk tabsC N w0 m ι w (@RelM.below tabs N w0 m ι w h) ⟨(@RelM.base tabs N w0 m ι w h).1,hb⟩ (@RelM.blk tabs N w0 m ι w h) (@RelM.view tabs N w0 m ι w h) (@RelM.inj tabs N w0 m ι w h)
theorem jde{f:FuncId}{s:Ab.Spec}(h: @jal tabs Tryz.prog f s): @jal tabsC Tryz.prog f s:=
 ⟨h.1,fun args v N w0 lk ι w hr hs hv=>h.2 args v N w0 lk ι w (RelM.toT hr) hs hv⟩
theorem pureCB{f:FuncId}{s:Ab.Spec}(h: @jal Ff.tabsB Tryz.prog f s): @jal tabsC Tryz.prog f s:=
 ⟨h.1,fun args v N w0 lk ι w hr hs hv=>h.2 args v N w0 lk ι w (RelM.toB hr) hs hv⟩
theorem jhj{f:FuncId}{s:Ab.Spec}(h:jal Tryz.prog f s){l:List (U×Value)}(hl:∀a v,(a,v)∈l→ ∀bs,s a bs=some (true,v)):jal Tryz.prog f (memo l):=
 ⟨h.1,fun args v N w0 lk ι w hr hs hv=>h.2 args v N w0 lk ι w hr (hl _ _ (jfi hs).2 _) hv⟩
def s154(s t:Y):Bool×Value:=(oneB t&&asc (bz t),.string (sz (tlZ (bz s) ((bz t).getD 0 0))))
theorem ok154:jal Tryz.prog 110 (sp2 s154):=by
 have e:s154=Cx.s154:=by funext s t;simp only[s154,Cx.s154,jeb]
 rw[e];exact jde Cx.ok154
def s131(s t:Y):Bool×Value:=(decide (s.size≤9223372036854775807) && (oneB t&&asc (bz t)),.string (sz (trZ (bz s) ((bz t).getD 0 0))))
theorem ok131:jal Tryz.prog 289 (sp2 s131):=by
 have e:s131=Cx.s131:=by funext s t;simp only[s131,Cx.s131,jeb]
 rw[e];exact jde Cx.ok131
def s55(s t:Y):Bool×Value:=(decide (s.size≤9223372036854775807) && (decide (t.size≤1000) &&asc (bz t)),.string (sz (jfq (bz s) (bz t))))
theorem ok55:jal Tryz.prog 124 (sp2 s55):=by
 have e:s55=Cx.s55:=by funext s t;simp only[s55,Cx.s55,jeb]
 rw[e];exact jde Cx.ok55
def s30(s:Y)(n:Int):Bool×Value:=(decide (0≤n∧n≤1000∧s.size≤1000),.string (sz (repZ (bz s) n.toNat)))
theorem ok30:jal Tryz.prog 114 (sp2 s30):=by
 have e:s30=Cx.s30:=by funext s n;simp only[s30,Cx.s30,jeb]
 rw[e];exact jde Cx.ok30
theorem dec125:Lib.decDigits 125=[49,50,53]:=by
 rw[Lib.decDigits,dif_neg (by decide),Lib.decDigits_two (by decide) (by decide)];rfl
theorem dec150:Lib.decDigits 150=[49,53,48]:=by
 rw[Lib.decDigits,dif_neg (by decide),Lib.decDigits_two (by decide) (by decide)];rfl
theorem dec123:Lib.decDigits 123=[49,50,51]:=by
 rw[Lib.decDigits,dif_neg (by decide),Lib.decDigits_two (by decide) (by decide)];rfl
theorem dec1234:Lib.decDigits 1234=[49,50,51,52]:=by
 rw[Lib.decDigits,dif_neg (by decide),Lib.decDigits,dif_neg (by decide),Lib.decDigits_two (by decide) (by decide)];rfl
theorem dec5:Lib.decDigits 5=[53]:=by
 rw[Lib.decDigits,dif_pos (by decide)];rfl
theorem ito{n:Nat}{l:O}(h:Lib.decDigits n=l):Cx.s29 (n:Int)=(decide (-9223372036854775808≤(n:Int)∧(n:Int)≤9223372036854775807),.string ⟨l.toArray⟩):=by
 rw[Cx.s29,jeb,itoZ,Lib.itoa_nonneg,h,jg3]
theorem fmt{n:Nat}{l:O}(h:Lib.decDigits n=l):Px.s87 ⟨(n:Int)⟩ 10=(decide (0≤(n:Int)∧(n:Int)<18446744073709551616) &&jki 10,.string ⟨l.toArray⟩):=by
 show(_,Value.string (sz (zl (Lib.decDigits (n:Int).toNat))))=_;rw[Int.toNat_natCast,h,jg3]
def m29:List (U×Value):=[([.int .i64 125],.string ⟨#[49,50,53]⟩),([.int .i64 150],.string ⟨#[49,53,48]⟩),([.int .i64 5],.string ⟨#[53]⟩),([.int .i64 1234],.string ⟨#[49,50,51,52]⟩)]
theorem jgr{α:Type}{p:α→Prop}:∀{l:List α},(l.foldr (fun a q=>p a∧q) True)→ ∀a∈l,p a
 | _::_,h,_,ha=>by
  rcases List.mem_cons.1 ha with rfl | ha
  ·exact h.1
  ·exact jgr h.2 _ ha
theorem pk29:jal Tryz.prog 130 (memo m29):=jhj (jde Cx.ok29) fun a v h bs=>by
 have:=jgr (p:=fun x:U×Value=>sp1 Cx.s29 x.1 bs=some (true,x.2)) (l:=m29) ⟨congrArg some (ito dec125),congrArg some (ito dec150),congrArg some (ito dec5),congrArg some (ito dec1234),trivial⟩ _ h;exact this
def m81:List (U×Value):=[([.int .u64 123,.int .i64 10],.string ⟨#[49,50,51]⟩)]
theorem pk81:jal Tryz.prog 84 (memo m81):=jhj (jde Px.ok87) fun a v h bs=>by
 have:=jgr (p:=fun x:U×Value=>sp2 Px.s87 x.1 bs=some (true,x.2)) (l:=m81) ⟨congrArg some (fmt dec123),trivial⟩ _ h;exact this
def m180:List (U×Value):=[([.string ⟨#[49,50]⟩],.string ⟨#[48,49,51]⟩),([.string ⟨#[]⟩],.string ⟨#[49]⟩)]
theorem pk180:jal Tryz.prog 241 (memo m180):=jhj (pureCB Ff.ok180) fun a v h bs=>by
 have:=jgr (p:=fun x:U×Value=>sp1 Ff.s180 x.1 bs=some (true,x.2)) (l:=m180) ⟨by kernel_rfl,by kernel_rfl,trivial⟩ _ h;exact this
def m118:List (U×Value):=[([.string ⟨#[49,50,53]⟩],.tuple ⟨[.int .i64 125,.nilIface]⟩)]
theorem pk118:jal Tryz.prog 183 (memo m118):=jhj (jde Px.ok68) fun a v h bs=>by
 have:=jgr (p:=fun x:U×Value=>sp1 Px.s68 x.1 bs=some (true,x.2)) (l:=m118) ⟨by kernel_rfl,trivial⟩ _ h;exact this
theorem Tryz.Builder_Extra_155:Builder.Extra Tryz.prog Tryz.lays155_ren:={
 sizeBuilder:=by kernel_rfl
 liesBuilder:=by kernel_rfl
 t5:=Tryz.underlying5
 a5:=Tryz.isAgg5
 z5:=Tryz.sizeOf5
 v5:=Tryz.zeroValue5
 infoByte:=by kernel_rfl
 cellsByte:=by kernel_rfl
 sizeByte:=by kernel_rfl
 neB5:=by decide}
theorem pure_shelfC{P:Program}{f:FuncId}{s:Ab.Spec}(hc:jbh P f)
  (h:∀args bs v,s args bs=some (true,v)→jav args=true∧ ∀w,TabsIn w.heap.size w→Calls P f args.toArray w fun e w'=>e= .returned v∧RowKit.Below w.heap.size w w'):jal P f s:=by
 refine⟨hc,fun args v N w0 lk ι w hrel hs hp=> ?_⟩;obtain⟨h1,h2⟩:=h _ _ _ hs;have hren:args.map (ren ι)=args:=by rw[←jbo,jbs _ h1]
 rw[hren];exact h2 w hrel.tabs
def m93:List (U×Value):=[([.string ⟨#[105,116,39,39,115]⟩,.string ⟨#[39,39]⟩,.string ⟨#[39]⟩],.string ⟨#[105,116,39,115]⟩)]
theorem pk93:jal Tryz.prog 151 (memo m93):=pure_shelfC (cal Tryz.func151 (by kernel_rfl) (by kernel_rfl)) fun args bs v hs=>by
 have hm:(args,v)∈m93:=(jfi hs).2;have hm:=List.mem_singleton.1 hm;cases hm;refine⟨rfl,fun w hw=> ?_⟩;have hc:w.cell? ⟨1,0,none⟩=some (.int .i64 MaxL.mx):=hw.cell (b:=1) rfl (i:=0) rfl;exact(Any.strings_ReplaceAll (ρ:=Tryz.lays155_ren) Tryz.lays155 Tryz.Builder_Extra_155 ⟨#[105,116,39,39,115]⟩ ⟨#[39,39]⟩ ⟨#[39]⟩ MaxL.mx w (by decide) hc (by decide) (by decide)).mono fun e w' ⟨h1,h2⟩=>⟨by rw[h1];kernel_rfl,h2⟩
theorem genC: @jda tabsC Tryz.prog 168 h100:=by
 obtain⟨h1,h2⟩:= @gen100;refine⟨h1,fun args m n K hh N w0 ι w hrel hwf hargs=> ?_⟩;refine(h2 args m n K hh N w0 ι w (RelM.toT hrel) hwf hargs).mono fun e w' ⟨v,m',n',ι',h⟩=>⟨v,m',n',ι',h.1,h.2.1,h.2.2.1,h.2.2.2.1,RelM.toC hrel.base.2 h.2.2.2.2.1,h.2.2.2.2.2⟩
def S0:Env:=Env.nil.add 110 (sp2 s154) |>.add 289 (sp2 s131) |>.add 124 (sp2 s55) |>.add 114 (sp2 s30) |>.add 130 (memo m29) |>.add 84 (memo m81) |>.add 221 (sp2 Px.s141) |>.add 253 (sp2 Px.s157) |>.add 189 (sp2 s132) |>.add 187 (sp2 s130) |>.add 128 (sp2 s102) |>.add 118 (sp2 s280) |>.add 241 (memo m180) |>.add 183 (memo m118) |>.add 151 (memo m93) |>.addG 168 h100
theorem ok_S0:jao Tryz.prog S0:=jaq (jak (jak (jak (jak (jak (jak (jak (jak (jak (jak (jak (jak (jak (jak (jak ja7 ok154) ok131) ok55) ok30) pk29) pk81) (jde Px.ok141)) (jde Px.ok157)) (jde ok132)) (jde ok130)) (jde ok102)) (jde ok280)) pk180) pk118) pk93) genC
end Go.Cs
end
noncomputable section
set_option maxRecDepth 100000
set_option maxHeartbeats 3200000
namespace Go.Cs
open Go Go.Ab Go.Proofs Go.Px Go.Cx
variable [MaxL]
theorem fn146:Fn1 Tryz.prog 185 Tryz.f185:= .m Tryz.func185
def Fs1e1:Env:=S0.addG 185 (inlQ Tryz.prog S0 noL Tryz.f185)
theorem ok_Fs1e1:jao Tryz.prog Fs1e1:=jaq ok_S0 (jau ok_S0 hmix fn146 jai)
theorem fn147:Fn1 Tryz.prog 186 Tryz.f186:= .m Tryz.func186
def Fs1e2:Env:=Fs1e1.addG 186 (inlQ Tryz.prog Fs1e1 noL Tryz.f186)
theorem ok_Fs1e2:jao Tryz.prog Fs1e2:=jaq ok_Fs1e1 (jau ok_Fs1e1 hmix fn147 jai)
theorem fn113:Fn1 Tryz.prog 127 Tryz.f127:= .m Tryz.func127
def m113:List (U×Value):=[([.string ⟨#[57,57,86,57]⟩],.tuple ⟨[.string ⟨#[57,57,86,57]⟩,.bool true]⟩)]
theorem pk113:jal Tryz.prog 127 (memo m113):=jap [.app none 1 1 (.app (some 0) 2 1 (.app (some 0) 3 1 (.app (some 0) 4 1 .leaf)))] ok_Fs1e2 hmix fn113 jai (by kernel_rfl) (by kernel_rfl)
def Fs1e3:Env:=Fs1e2.add 127 (memo m113)
theorem ok_Fs1e3:jao Tryz.prog Fs1e3:=jak ok_Fs1e2 pk113
theorem fn192:Fn1 Tryz.prog 255 Tryz.f255:= .m Tryz.func255
def Fs1e4:Env:=Fs1e3.addG 255 (inlQ Tryz.prog Fs1e3 noL Tryz.f255)
theorem ok_Fs1e4:jao Tryz.prog Fs1e4:=jaq ok_Fs1e3 (jau ok_Fs1e3 hmix fn192 jai)
theorem fn149:Fn1 Tryz.prog 188 Tryz.f188:= .m Tryz.func188
def Fs1e5:Env:=Fs1e4.addG 188 (inlQ Tryz.prog Fs1e4 noL Tryz.f188)
theorem ok_Fs1e5:jao Tryz.prog Fs1e5:=jaq ok_Fs1e4 (jau ok_Fs1e4 hmix fn149 jai)
theorem fn151:Fn1 Tryz.prog 190 Tryz.f190:= .m Tryz.func190
def Fs1e6:Env:=Fs1e5.addG 190 (inlQ Tryz.prog Fs1e5 noL Tryz.f190)
theorem ok_Fs1e6:jao Tryz.prog Fs1e6:=jaq ok_Fs1e5 (jau ok_Fs1e5 hmix fn151 jai)
theorem fn152:Fn1 Tryz.prog 191 Tryz.f191:= .m Tryz.func191
def Fs1e7:Env:=Fs1e6.addG 191 (inlQ Tryz.prog Fs1e6 noL Tryz.f191)
theorem ok_Fs1e7:jao Tryz.prog Fs1e7:=jaq ok_Fs1e6 (jau ok_Fs1e6 hmix fn152 jai)
theorem fn153:Fn1 Tryz.prog 192 Tryz.f192:= .m Tryz.func192
def Fs1e8:Env:=Fs1e7.addG 192 (inlQ Tryz.prog Fs1e7 noL Tryz.f192)
theorem ok_Fs1e8:jao Tryz.prog Fs1e8:=jaq ok_Fs1e7 (jau ok_Fs1e7 hmix fn153 jai)
theorem fn115:Fn1 Tryz.prog 129 Tryz.f129:= .m Tryz.func129
def Fs1e9:Env:=Fs1e8.addG 129 (inlQ Tryz.prog Fs1e8 noL Tryz.f129)
theorem ok_Fs1e9:jao Tryz.prog Fs1e9:=jaq ok_Fs1e8 (jau ok_Fs1e8 hmix fn115 jai)
theorem fn68:Fn1 Tryz.prog 79 Tryz.f79:= .m Tryz.func79
def Fs1e10:Env:=Fs1e9.addG 79 (inlQ Tryz.prog Fs1e9 noL Tryz.f79)
theorem ok_Fs1e10:jao Tryz.prog Fs1e10:=jaq ok_Fs1e9 (jau ok_Fs1e9 hmix fn68 jai)
theorem fn102:Fn1 Tryz.prog 26 Tryz.f26:= .m Tryz.func26
def m102:List (U×Value):=[([.string ⟨#[57,57,86,57]⟩],.tuple ⟨[.agg ⟨[.string ⟨#[57,57,86,57]⟩,.bool true,.int .i64 3,.int .i64 3,.int .i64 1,.bool false]⟩,.int .i64 0]⟩)]
theorem pk102:jal Tryz.prog 26 (memo m102):=jap [.bts 4 (.app none 1 1 (.app (some 0) 2 1 (.app (some 0) 3 1 (.app (some 0) 4 1 (.bts 4 .leaf)))))] ok_Fs1e10 hmix fn102 jai (by kernel_rfl) (by kernel_rfl)
def Fs1e11:Env:=Fs1e10.add 26 (memo m102)
theorem ok_Fs1e11:jao Tryz.prog Fs1e11:=jak ok_Fs1e10 pk102
theorem fn65:Fn1 Tryz.prog 122 Tryz.f122:= .m Tryz.func122
def m65:List (U×Value):=[([.string ⟨#[57,57,86,57]⟩],.int .i64 0)]
theorem pk65:jal Tryz.prog 122 (memo m65):=jap [] ok_Fs1e11 hmix fn65 jai (by kernel_rfl) (by kernel_rfl)
def Fs1e12:Env:=Fs1e11.add 122 (memo m65)
theorem ok_Fs1e12:jao Tryz.prog Fs1e12:=jak ok_Fs1e11 pk65
theorem fn130:Fn1 Tryz.prog 172 Tryz.f172:= .m Tryz.func172
def m130:List (U×Value):=[([.string ⟨#[57,57,86,57]⟩],.tuple ⟨[.agg ⟨[.int .i64 1,.int .i64 3,.int .i64 1,.bool false,.string ⟨#[]⟩]⟩,.int .i64 0]⟩)]
theorem pk130:jal Tryz.prog 172 (memo m130):=jap [] ok_Fs1e12 hmix fn130 jai (by kernel_rfl) (by kernel_rfl)
def Fs1e13:Env:=Fs1e12.add 172 (memo m130)
theorem ok_Fs1e13:jao Tryz.prog Fs1e13:=jak ok_Fs1e12 pk130
theorem fn116:Fn1 Tryz.prog 181 Tryz.f181:= .m Tryz.func181
def Fs1e14:Env:=Fs1e13.addG 181 (inlQ Tryz.prog Fs1e13 noL Tryz.f181)
theorem ok_Fs1e14:jao Tryz.prog Fs1e14:=jaq ok_Fs1e13 (jau ok_Fs1e13 hmix fn116 jai)
theorem fn128:Fn1 Tryz.prog 170 Tryz.f170:= .m Tryz.func170
def m128:List (U×Value):=[([.string ⟨#[57,57,86,57]⟩],.bool true)]
theorem pk128:jal Tryz.prog 170 (memo m128):=jap [.bts 4 (.app none 1 1 (.app (some 0) 2 1 (.app (some 0) 3 1 (.app (some 0) 4 1 (.bts 4 .leaf)))))] ok_Fs1e14 hmix fn128 jai (by kernel_rfl) (by kernel_rfl)
def Fs1e15:Env:=Fs1e14.add 170 (memo m128)
theorem ok_Fs1e15:jao Tryz.prog Fs1e15:=jak ok_Fs1e14 pk128
theorem fn70:Fn1 Tryz.prog 126 Tryz.f126:= .m Tryz.func126
def Fs1e16:Env:=Fs1e15.addG 126 (inlQ Tryz.prog Fs1e15 noL Tryz.f126)
theorem ok_Fs1e16:jao Tryz.prog Fs1e16:=jaq ok_Fs1e15 (jau ok_Fs1e15 hmix fn70 jai)
theorem fn206:Fn1 Tryz.prog 282 Tryz.f282:= .m Tryz.func282
def Fs1e17:Env:=Fs1e16.addG 282 (inlQ Tryz.prog Fs1e16 noL Tryz.f282)
theorem ok_Fs1e17:jao Tryz.prog Fs1e17:=jaq ok_Fs1e16 (jau ok_Fs1e16 hmix fn206 jai)
theorem fn198:Fn1 Tryz.prog 296 Tryz.f296:= .m Tryz.func296
def Fs1e18:Env:=Fs1e17.addG 296 (inlQ Tryz.prog Fs1e17 noL Tryz.f296)
theorem ok_Fs1e18:jao Tryz.prog Fs1e18:=jaq ok_Fs1e17 (jau ok_Fs1e17 hmix fn198 jai)
theorem fn199:Fn1 Tryz.prog 297 Tryz.f297:= .m Tryz.func297
def Fs1e19:Env:=Fs1e18.addG 297 (inlQ Tryz.prog Fs1e18 noL Tryz.f297)
theorem ok_Fs1e19:jao Tryz.prog Fs1e19:=jaq ok_Fs1e18 (jau ok_Fs1e18 hmix fn199 jai)
theorem fn157:Fn1 Tryz.prog 246 Tryz.f246:= .m Tryz.func246
def Fs1e20:Env:=Fs1e19.addG 246 (inlQ Tryz.prog Fs1e19 noL Tryz.f246)
theorem ok_Fs1e20:jao Tryz.prog Fs1e20:=jaq ok_Fs1e19 (jau ok_Fs1e19 hmix fn157 jai)
theorem fn158:Fn1 Tryz.prog 247 Tryz.f247:= .m Tryz.func247
def Fs1e21:Env:=Fs1e20.addG 247 (inlQ Tryz.prog Fs1e20 noL Tryz.f247)
theorem ok_Fs1e21:jao Tryz.prog Fs1e21:=jaq ok_Fs1e20 (jau ok_Fs1e20 hmix fn158 jai)
theorem fn159:Fn1 Tryz.prog 248 Tryz.f248:= .m Tryz.func248
def Fs1e22:Env:=Fs1e21.addG 248 (inlQ Tryz.prog Fs1e21 noL Tryz.f248)
theorem ok_Fs1e22:jao Tryz.prog Fs1e22:=jaq ok_Fs1e21 (jau ok_Fs1e21 hmix fn159 jai)
theorem fn160:Fn1 Tryz.prog 249 Tryz.f249:= .m Tryz.func249
def Fs1e23:Env:=Fs1e22.addG 249 (inlQ Tryz.prog Fs1e22 noL Tryz.f249)
theorem ok_Fs1e23:jao Tryz.prog Fs1e23:=jaq ok_Fs1e22 (jau ok_Fs1e22 hmix fn160 jai)
theorem fn161:Fn1 Tryz.prog 250 Tryz.f250:= .m Tryz.func250
def Fs1e24:Env:=Fs1e23.addG 250 (inlQ Tryz.prog Fs1e23 noL Tryz.f250)
theorem ok_Fs1e24:jao Tryz.prog Fs1e24:=jaq ok_Fs1e23 (jau ok_Fs1e23 hmix fn161 jai)
theorem fn162:Fn1 Tryz.prog 251 Tryz.f251:= .m Tryz.func251
def Fs1e25:Env:=Fs1e24.addG 251 (inlQ Tryz.prog Fs1e24 noL Tryz.f251)
theorem ok_Fs1e25:jao Tryz.prog Fs1e25:=jaq ok_Fs1e24 (jau ok_Fs1e24 hmix fn162 jai)
theorem fn119:Fn1 Tryz.prog 184 Tryz.f184:= .m Tryz.func184
def Fs1e26:Env:=Fs1e25.addG 184 (inlQ Tryz.prog Fs1e25 noL Tryz.f184)
theorem ok_Fs1e26:jao Tryz.prog Fs1e26:=jaq ok_Fs1e25 (jau ok_Fs1e25 hmix fn119 jai)
theorem fn170:Fn1 Tryz.prog 233 Tryz.f233:= .m Tryz.func233
def m170:List (U×Value):=[([.int .i64 123,.int .i64 1,.string ⟨#[57,57,86,57]⟩],.tuple ⟨[.string ⟨#[49,50,51]⟩,.bool true,.int .i64 0]⟩)]
theorem pk170:jal Tryz.prog 233 (memo m170):=jap [.bts 4 (.app none 1 1 (.app (some 0) 2 1 (.app (some 0) 3 1 (.app (some 0) 4 1 (.bts 4 (.app none 1 1 (.app (some 0) 2 1 (.app (some 0) 3 1 .leaf))))))))] ok_Fs1e26 hmix fn170 jai (by kernel_rfl) (by kernel_rfl)
def Fs1e27:Env:=Fs1e26.add 233 (memo m170)
theorem ok_Fs1e27:jao Tryz.prog Fs1e27:=jak ok_Fs1e26 pk170
def Fs1e28:Env:=Fs1e27.add 287 (sp1 Cx.s152)
theorem ok_Fs1e28:jao Tryz.prog Fs1e28:=jak ok_Fs1e27 (jde Cx.ok152)
def Fs1e29:Env:=Fs1e28.add 308 (sp1 Cx.s213)
theorem ok_Fs1e29:jao Tryz.prog Fs1e29:=jak ok_Fs1e28 (jde Cx.ok213)
def Fs1e30:Env:=Fs1e29.add 176 (sp1 Cx.s141)
theorem ok_Fs1e30:jao Tryz.prog Fs1e30:=jak ok_Fs1e29 (jde Cx.ok141)
def Fs1e31:Env:=Fs1e30.add 121 (sp1 Cx.s66)
theorem ok_Fs1e31:jao Tryz.prog Fs1e31:=jak ok_Fs1e30 (jde Cx.ok66)
def Fs1e32:Env:=Fs1e31.add 305 (sp1 Cx.s85)
theorem ok_Fs1e32:jao Tryz.prog Fs1e32:=jak ok_Fs1e31 (jde Cx.ok85)
theorem fn33:Fn1 Tryz.prog 72 Tryz.f72:= .m Tryz.func72
def m33:List (U×Value):=[([.agg ⟨[.int .i64 1,.int .i64 5,.int .i64 2,.bool false,.string ⟨#[]⟩]⟩],.int .i64 0),([.agg ⟨[.int .i64 1,.int .i64 3,.int .i64 1,.bool false,.string ⟨#[]⟩]⟩],.int .i64 0),([.agg ⟨[.int .i64 1,.int .i64 4,.int .i64 2,.bool false,.string ⟨#[]⟩]⟩],.int .i64 0),([.agg ⟨[.int .i64 1,.int .i64 9,.int .i64 2,.bool false,.string ⟨#[]⟩]⟩],.int .i64 0),([.agg ⟨[.int .i64 1,.int .i64 3,.int .i64 1,.bool false,.string ⟨#[]⟩]⟩],.int .i64 0),([.agg ⟨[.int .i64 3,.int .i64 1,.int .i64 0,.bool false,.string ⟨#[]⟩]⟩],.int .i64 0),([.agg ⟨[.int .i64 3,.int .i64 2,.int .i64 0,.bool false,.string ⟨#[]⟩]⟩],.int .i64 0),([.agg ⟨[.int .i64 3,.int .i64 4,.int .i64 0,.bool false,.string ⟨#[]⟩]⟩],.int .i64 0),([.agg ⟨[.int .i64 3,.int .i64 6,.int .i64 0,.bool false,.string ⟨#[]⟩]⟩],.int .i64 0),([.agg ⟨[.int .i64 4,.int .i64 2,.int .i64 0,.bool false,.string ⟨#[]⟩]⟩],.int .i64 0),([.agg ⟨[.int .i64 4,.int .i64 3,.int .i64 0,.bool false,.string ⟨#[]⟩]⟩],.int .i64 0),([.agg ⟨[.int .i64 4,.int .i64 4,.int .i64 0,.bool false,.string ⟨#[]⟩]⟩],.int .i64 0),([.agg ⟨[.int .i64 5,.int .i64 0,.int .i64 0,.bool false,.string ⟨#[57,57,86,57]⟩]⟩],.int .i64 0)]
theorem pk33:jal Tryz.prog 72 (memo m33):=jap [.leaf,.leaf,.leaf,.leaf,.leaf,.both .leaf .leaf,.both .leaf .leaf,.both .leaf .leaf,.both .leaf .leaf] ok_Fs1e32 hmix fn33 jai (by kernel_rfl) (by kernel_rfl)
def Fs1e33:Env:=Fs1e32.add 72 (memo m33)
theorem ok_Fs1e33:jao Tryz.prog Fs1e33:=jak ok_Fs1e32 pk33
theorem fn105:Fn1 Tryz.prog 177 Tryz.f177:= .m Tryz.func177
def m105:List (U×Value):=[([],.agg ⟨[.int .i64 1,.int .i64 10,.int .i64 100,.int .i64 1000,.int .i64 10000,.int .i64 100000,.int .i64 1000000,.int .i64 10000000,.int .i64 100000000,.int .i64 1000000000,.int .i64 10000000000,.int .i64 100000000000,.int .i64 1000000000000,.int .i64 10000000000000,.int .i64 100000000000000,.int .i64 1000000000000000,.int .i64 10000000000000000,.int .i64 100000000000000000,.int .i64 1000000000000000000]⟩)]
theorem pk105:jal Tryz.prog 177 (memo m105):=jap [] ok_Fs1e33 hmix fn105 jai (by kernel_rfl) (by kernel_rfl)
def Fs1e34:Env:=Fs1e33.add 177 (memo m105)
theorem ok_Fs1e34:jao Tryz.prog Fs1e34:=jak ok_Fs1e33 pk105
theorem fn66:Fn1 Tryz.prog 123 Tryz.f123:= .m Tryz.func123
def m66:List (U×Value):=[([.agg ⟨[.int .i64 1,.int .i64 5,.int .i64 2,.bool false,.string ⟨#[]⟩]⟩],.int .i64 100000),([.agg ⟨[.int .i64 1,.int .i64 3,.int .i64 1,.bool false,.string ⟨#[]⟩]⟩],.int .i64 1000),([.agg ⟨[.int .i64 1,.int .i64 4,.int .i64 2,.bool false,.string ⟨#[]⟩]⟩],.int .i64 10000),([.agg ⟨[.int .i64 1,.int .i64 9,.int .i64 2,.bool false,.string ⟨#[]⟩]⟩],.int .i64 1000000000)]
theorem pk66:jal Tryz.prog 123 (memo m66):=jap [] ok_Fs1e34 hmix fn66 jai (by kernel_rfl) (by kernel_rfl)
def Fs1e35:Env:=Fs1e34.add 123 (memo m66)
theorem ok_Fs1e35:jao Tryz.prog Fs1e35:=jak ok_Fs1e34 pk66
theorem fn34:Fn1 Tryz.prog 73 Tryz.f73:= .m Tryz.func73
def m34:List (U×Value):=[([.agg ⟨[.int .i64 (-125),.string ⟨#[]⟩]⟩,.agg ⟨[.int .i64 1,.int .i64 5,.int .i64 2,.bool false,.string ⟨#[]⟩]⟩],.int .i64 0),([.agg ⟨[.int .i64 5,.string ⟨#[]⟩]⟩,.agg ⟨[.int .i64 1,.int .i64 3,.int .i64 1,.bool false,.string ⟨#[]⟩]⟩],.int .i64 0),([.agg ⟨[.int .i64 1234,.string ⟨#[]⟩]⟩,.agg ⟨[.int .i64 1,.int .i64 4,.int .i64 2,.bool false,.string ⟨#[]⟩]⟩],.int .i64 0),([.agg ⟨[.int .i64 150,.string ⟨#[]⟩]⟩,.agg ⟨[.int .i64 1,.int .i64 5,.int .i64 2,.bool false,.string ⟨#[]⟩]⟩],.int .i64 0),([.agg ⟨[.int .i64 125,.string ⟨#[]⟩]⟩,.agg ⟨[.int .i64 1,.int .i64 9,.int .i64 2,.bool false,.string ⟨#[]⟩]⟩],.int .i64 0)]
theorem pk34:jal Tryz.prog 73 (memo m34):=jap [] ok_Fs1e35 hmix fn34 jai (by kernel_rfl) (by kernel_rfl)
def Fs1e36:Env:=Fs1e35.add 73 (memo m34)
theorem ok_Fs1e36:jao Tryz.prog Fs1e36:=jak ok_Fs1e35 pk34
theorem fn35:Fn1 Tryz.prog 74 Tryz.f74:= .m Tryz.func74
def m35:List (U×Value):=[([.string ⟨#[49,49]⟩],.bool true),([.string ⟨#[49,48,49]⟩],.bool true),([.string ⟨#[120]⟩],.bool false)]
theorem pk35:jal Tryz.prog 74 (memo m35):=jap [] ok_Fs1e36 hmix fn35 jai (by kernel_rfl) (by kernel_rfl)
def Fs1e37:Env:=Fs1e36.add 74 (memo m35)
theorem ok_Fs1e37:jao Tryz.prog Fs1e37:=jak ok_Fs1e36 pk35
theorem fn7:Fn1 Tryz.prog 23 Tryz.f23:= .m Tryz.func23
def m7:List (U×Value):=[([.agg ⟨[.int .i64 (-125),.string ⟨#[]⟩]⟩,.agg ⟨[.int .i64 1,.int .i64 5,.int .i64 2,.bool false,.string ⟨#[]⟩]⟩],.int .i64 0),([.agg ⟨[.int .i64 5,.string ⟨#[]⟩]⟩,.agg ⟨[.int .i64 1,.int .i64 3,.int .i64 1,.bool false,.string ⟨#[]⟩]⟩],.int .i64 0),([.agg ⟨[.int .i64 1234,.string ⟨#[]⟩]⟩,.agg ⟨[.int .i64 1,.int .i64 4,.int .i64 2,.bool false,.string ⟨#[]⟩]⟩],.int .i64 0),([.agg ⟨[.int .i64 150,.string ⟨#[]⟩]⟩,.agg ⟨[.int .i64 1,.int .i64 5,.int .i64 2,.bool false,.string ⟨#[]⟩]⟩],.int .i64 0),([.agg ⟨[.int .i64 125,.string ⟨#[]⟩]⟩,.agg ⟨[.int .i64 1,.int .i64 9,.int .i64 2,.bool false,.string ⟨#[]⟩]⟩],.int .i64 0),([.agg ⟨[.int .i64 0,.string ⟨#[97,98]⟩]⟩,.agg ⟨[.int .i64 3,.int .i64 2,.int .i64 0,.bool false,.string ⟨#[]⟩]⟩],.int .i64 0),([.agg ⟨[.int .i64 0,.string ⟨#[49,49]⟩]⟩,.agg ⟨[.int .i64 4,.int .i64 2,.int .i64 0,.bool false,.string ⟨#[]⟩]⟩],.int .i64 0),([.agg ⟨[.int .i64 0,.string ⟨#[120]⟩]⟩,.agg ⟨[.int .i64 3,.int .i64 1,.int .i64 0,.bool false,.string ⟨#[]⟩]⟩],.int .i64 0),([.agg ⟨[.int .i64 0,.string ⟨#[121]⟩]⟩,.agg ⟨[.int .i64 3,.int .i64 1,.int .i64 0,.bool false,.string ⟨#[]⟩]⟩],.int .i64 0),([.agg ⟨[.int .i64 0,.string ⟨#[49,48,49]⟩]⟩,.agg ⟨[.int .i64 4,.int .i64 3,.int .i64 0,.bool false,.string ⟨#[]⟩]⟩],.int .i64 0),([.agg ⟨[.int .i64 0,.string ⟨#[105,116,39,115]⟩]⟩,.agg ⟨[.int .i64 3,.int .i64 4,.int .i64 0,.bool false,.string ⟨#[]⟩]⟩],.int .i64 0),([.agg ⟨[.int .i64 0,.string ⟨#[49,50]⟩]⟩,.agg ⟨[.int .i64 3,.int .i64 2,.int .i64 0,.bool false,.string ⟨#[]⟩]⟩],.int .i64 0),([.agg ⟨[.int .i64 0,.string ⟨#[51,52]⟩]⟩,.agg ⟨[.int .i64 3,.int .i64 2,.int .i64 0,.bool false,.string ⟨#[]⟩]⟩],.int .i64 0),([.agg ⟨[.int .i64 0,.string ⟨#[53,54]⟩]⟩,.agg ⟨[.int .i64 3,.int .i64 2,.int .i64 0,.bool false,.string ⟨#[]⟩]⟩],.int .i64 0)]
theorem pk7:jal Tryz.prog 23 (memo m7):=jap [] ok_Fs1e37 hmix fn7 jai (by kernel_rfl) (by kernel_rfl)
def Fs1e38:Env:=Fs1e37.add 23 (memo m7)
theorem ok_Fs1e38:jao Tryz.prog Fs1e38:=jak ok_Fs1e37 pk7
theorem fn124:Fn1 Tryz.prog 158 Tryz.f158:= .m Tryz.func158
def m124:List (U×Value):=[([.agg ⟨[.int .i64 1234,.string ⟨#[]⟩]⟩,.agg ⟨[.int .i64 1,.int .i64 4,.int .i64 2,.bool false,.string ⟨#[]⟩]⟩],.iface 241 (.agg ⟨[.int .i64 1234,.int .i64 1,.int .i64 4,.int .i64 2,.bool false,.string ⟨#[]⟩]⟩)),([.agg ⟨[.int .i64 150,.string ⟨#[]⟩]⟩,.agg ⟨[.int .i64 1,.int .i64 5,.int .i64 2,.bool false,.string ⟨#[]⟩]⟩],.iface 241 (.agg ⟨[.int .i64 150,.int .i64 1,.int .i64 5,.int .i64 2,.bool false,.string ⟨#[]⟩]⟩)),([.agg ⟨[.int .i64 125,.string ⟨#[]⟩]⟩,.agg ⟨[.int .i64 1,.int .i64 9,.int .i64 2,.bool false,.string ⟨#[]⟩]⟩],.iface 241 (.agg ⟨[.int .i64 125,.int .i64 1,.int .i64 9,.int .i64 2,.bool false,.string ⟨#[]⟩]⟩)),([.agg ⟨[.int .i64 0,.string ⟨#[97,98]⟩]⟩,.agg ⟨[.int .i64 3,.int .i64 2,.int .i64 0,.bool false,.string ⟨#[]⟩]⟩],.iface 245 (.string ⟨#[97,98]⟩)),([.agg ⟨[.int .i64 0,.string ⟨#[49,49]⟩]⟩,.agg ⟨[.int .i64 4,.int .i64 2,.int .i64 0,.bool false,.string ⟨#[]⟩]⟩],.iface 242 (.string ⟨#[49,49]⟩)),([.agg ⟨[.int .i64 0,.string ⟨#[120]⟩]⟩,.agg ⟨[.int .i64 3,.int .i64 1,.int .i64 0,.bool false,.string ⟨#[]⟩]⟩],.iface 245 (.string ⟨#[120]⟩)),([.agg ⟨[.int .i64 0,.string ⟨#[121]⟩]⟩,.agg ⟨[.int .i64 3,.int .i64 1,.int .i64 0,.bool false,.string ⟨#[]⟩]⟩],.iface 245 (.string ⟨#[121]⟩)),([.agg ⟨[.int .i64 0,.string ⟨#[105,116,39,115]⟩]⟩,.agg ⟨[.int .i64 3,.int .i64 4,.int .i64 0,.bool false,.string ⟨#[]⟩]⟩],.iface 245 (.string ⟨#[105,116,39,115]⟩)),([.agg ⟨[.int .i64 0,.string ⟨#[49,50]⟩]⟩,.agg ⟨[.int .i64 3,.int .i64 2,.int .i64 0,.bool false,.string ⟨#[]⟩]⟩],.iface 245 (.string ⟨#[49,50]⟩)),([.agg ⟨[.int .i64 0,.string ⟨#[51,52]⟩]⟩,.agg ⟨[.int .i64 3,.int .i64 2,.int .i64 0,.bool false,.string ⟨#[]⟩]⟩],.iface 245 (.string ⟨#[51,52]⟩)),([.agg ⟨[.int .i64 0,.string ⟨#[53,54]⟩]⟩,.agg ⟨[.int .i64 3,.int .i64 2,.int .i64 0,.bool false,.string ⟨#[]⟩]⟩],.iface 245 (.string ⟨#[53,54]⟩))]
theorem pk124:jal Tryz.prog 158 (memo m124):=jap [] ok_Fs1e38 hmix fn124 jai (by kernel_rfl) (by kernel_rfl)
def Fs1e39:Env:=Fs1e38.add 158 (memo m124)
theorem ok_Fs1e39:jao Tryz.prog Fs1e39:=jak ok_Fs1e38 pk124
theorem fn266:Fn1 Tryz.prog 339 Tryz.f339:= .m Tryz.func339
def m266:List (U×Value):=[([.agg ⟨[.int .i64 1,.int .i64 5,.int .i64 2,.bool false,.string ⟨#[]⟩]⟩],.int .i64 8)]
theorem pk266:jal Tryz.prog 339 (memo m266):=jap [] ok_Fs1e39 hmix fn266 jai (by kernel_rfl) (by kernel_rfl)
def Fs1e40:Env:=Fs1e39.add 339 (memo m266)
theorem ok_Fs1e40:jao Tryz.prog Fs1e40:=jak ok_Fs1e39 pk266
theorem fn265:Fn1 Tryz.prog 338 Tryz.f338:= .m Tryz.func338
def m265:List (U×Value):=[([.agg ⟨[.int .i64 150,.int .i64 1,.int .i64 5,.int .i64 2,.bool false,.string ⟨#[]⟩]⟩],.string ⟨#[32,32,32,32,49,46,53,48]⟩)]
theorem pk265:jal Tryz.prog 338 (memo m265):=jap [] ok_Fs1e40 hmix fn265 jai (by kernel_rfl) (by kernel_rfl)
def Fs1e41:Env:=Fs1e40.add 338 (memo m265)
theorem ok_Fs1e41:jao Tryz.prog Fs1e41:=jak ok_Fs1e40 pk265
theorem fn269:Fn1 Tryz.prog 342 Tryz.f342:= .m Tryz.func342
def m269:List (U×Value):=[([.string ⟨#[97,98]⟩],.string ⟨#[97,98]⟩),([.string ⟨#[120]⟩],.string ⟨#[120]⟩),([.string ⟨#[121]⟩],.string ⟨#[121]⟩),([.string ⟨#[105,116,39,115]⟩],.string ⟨#[105,116,39,115]⟩),([.string ⟨#[49,50]⟩],.string ⟨#[49,50]⟩),([.string ⟨#[51,52]⟩],.string ⟨#[51,52]⟩),([.string ⟨#[53,54]⟩],.string ⟨#[53,54]⟩)]
theorem pk269:jal Tryz.prog 342 (memo m269):=jap [] ok_Fs1e41 hmix fn269 jai (by kernel_rfl) (by kernel_rfl)
def Fs1e42:Env:=Fs1e41.add 342 (memo m269)
theorem ok_Fs1e42:jao Tryz.prog Fs1e42:=jak ok_Fs1e41 pk269
theorem fn73:Fn1 Tryz.prog 109 Tryz.f109:= .m Tryz.func109
def m73:List (U×Value):=[([.agg ⟨[.int .i64 150,.string ⟨#[]⟩]⟩,.agg ⟨[.int .i64 1,.int .i64 5,.int .i64 2,.bool false,.string ⟨#[]⟩]⟩],.tuple ⟨[.string ⟨#[32,32,32,32,49,46,53,48]⟩,.int .i64 0]⟩),([.agg ⟨[.int .i64 0,.string ⟨#[97,98]⟩]⟩,.agg ⟨[.int .i64 3,.int .i64 2,.int .i64 0,.bool false,.string ⟨#[]⟩]⟩],.tuple ⟨[.string ⟨#[97,98]⟩,.int .i64 0]⟩),([.agg ⟨[.int .i64 0,.string ⟨#[120]⟩]⟩,.agg ⟨[.int .i64 3,.int .i64 1,.int .i64 0,.bool false,.string ⟨#[]⟩]⟩],.tuple ⟨[.string ⟨#[120]⟩,.int .i64 0]⟩),([.agg ⟨[.int .i64 0,.string ⟨#[121]⟩]⟩,.agg ⟨[.int .i64 3,.int .i64 1,.int .i64 0,.bool false,.string ⟨#[]⟩]⟩],.tuple ⟨[.string ⟨#[121]⟩,.int .i64 0]⟩)]
theorem pk73:jal Tryz.prog 109 (memo m73):=jap [] ok_Fs1e42 hmix fn73 jai (by kernel_rfl) (by kernel_rfl)
def Fs1e43:Env:=Fs1e42.add 109 (memo m73)
theorem ok_Fs1e43:jao Tryz.prog Fs1e43:=jak ok_Fs1e42 pk73
theorem fn178:Fn1 Tryz.prog 239 Tryz.f239:= .m Tryz.func239
def m178:List (U×Value):=[([.bool false,.string ⟨#[49,50,51,52]⟩,.int .i64 2],.agg ⟨[.bool false,.string ⟨#[49,50,51,52]⟩,.int .i64 2]⟩),([.bool false,.string ⟨#[49,50,53]⟩,.int .i64 2],.agg ⟨[.bool false,.string ⟨#[49,50,53]⟩,.int .i64 2]⟩)]
theorem pk178:jal Tryz.prog 239 (memo m178):=jap [] ok_Fs1e43 hmix fn178 jai (by kernel_rfl) (by kernel_rfl)
def Fs1e44:Env:=Fs1e43.add 239 (memo m178)
theorem ok_Fs1e44:jao Tryz.prog Fs1e44:=jak ok_Fs1e43 pk178
theorem fn226:Fn1 Tryz.prog 304 Tryz.f304:= .m Tryz.func304
def m226:List (U×Value):=[([.agg ⟨[.bool false,.string ⟨#[49,50,51,52]⟩,.int .i64 2]⟩],.bool true),([.agg ⟨[.bool false,.string ⟨#[49,50,53]⟩,.int .i64 2]⟩],.bool true)]
theorem pk226:jal Tryz.prog 304 (memo m226):=jap [] ok_Fs1e44 hmix fn226 jai (by kernel_rfl) (by kernel_rfl)
def Fs1e45:Env:=Fs1e44.add 304 (memo m226)
theorem ok_Fs1e45:jao Tryz.prog Fs1e45:=jak ok_Fs1e44 pk226
theorem fn228:Fn1 Tryz.prog 306 Tryz.f306:= .m Tryz.func306
def m228:List (U×Value):=[([.agg ⟨[.bool false,.string ⟨#[49,50,51,52]⟩,.int .i64 2]⟩,.int .i64 1],.string ⟨#[49,50,51]⟩),([.agg ⟨[.bool false,.string ⟨#[49,50,53]⟩,.int .i64 2]⟩,.int .i64 2],.string ⟨#[49,50,53]⟩)]
theorem pk228:jal Tryz.prog 306 (memo m228):=jap [] ok_Fs1e45 hmix fn228 jai (by kernel_rfl) (by kernel_rfl)
def Fs1e46:Env:=Fs1e45.add 306 (memo m228)
theorem ok_Fs1e46:jao Tryz.prog Fs1e46:=jak ok_Fs1e45 pk228
theorem fn202:Fn1 Tryz.prog 278 Tryz.f278:= .m Tryz.func278
def m202:List (U×Value):=[([.agg ⟨[.bool false,.string ⟨#[49,50,51,52]⟩,.int .i64 2]⟩,.agg ⟨[.int .i64 1,.int .i64 3,.int .i64 1,.bool false,.string ⟨#[]⟩]⟩],.tuple ⟨[.agg ⟨[.int .i64 123,.string ⟨#[]⟩]⟩,.int .i64 0,.int .i64 0]⟩),([.agg ⟨[.bool false,.string ⟨#[49,50,53]⟩,.int .i64 2]⟩,.agg ⟨[.int .i64 1,.int .i64 5,.int .i64 2,.bool false,.string ⟨#[]⟩]⟩],.tuple ⟨[.agg ⟨[.int .i64 125,.string ⟨#[]⟩]⟩,.int .i64 0,.int .i64 0]⟩)]
theorem pk202:jal Tryz.prog 278 (memo m202):=jap [] ok_Fs1e46 hmix fn202 jai (by kernel_rfl) (by kernel_rfl)
def Fs1e47:Env:=Fs1e46.add 278 (memo m202)
theorem ok_Fs1e47:jao Tryz.prog Fs1e47:=jak ok_Fs1e46 pk202
theorem fn201:Fn1 Tryz.prog 277 Tryz.f277:= .m Tryz.func277
def m201:List (U×Value):=[([.iface 241 (.agg ⟨[.int .i64 1234,.int .i64 1,.int .i64 4,.int .i64 2,.bool false,.string ⟨#[]⟩]⟩)],.tuple ⟨[.agg ⟨[.bool false,.string ⟨#[49,50,51,52]⟩,.int .i64 2]⟩,.nilIface]⟩),([.iface 241 (.agg ⟨[.int .i64 125,.int .i64 1,.int .i64 9,.int .i64 2,.bool false,.string ⟨#[]⟩]⟩)],.tuple ⟨[.agg ⟨[.bool false,.string ⟨#[49,50,53]⟩,.int .i64 2]⟩,.nilIface]⟩)]
theorem pk201:jal Tryz.prog 277 (memo m201):=jap [] ok_Fs1e47 hmix fn201 jai (by kernel_rfl) (by kernel_rfl)
def Fs1e48:Env:=Fs1e47.add 277 (memo m201)
theorem ok_Fs1e48:jao Tryz.prog Fs1e48:=jak ok_Fs1e47 pk201
theorem fn167:Fn1 Tryz.prog 230 Tryz.f230:= .m Tryz.func230
def m167:List (U×Value):=[([.iface 241 (.agg ⟨[.int .i64 1234,.int .i64 1,.int .i64 4,.int .i64 2,.bool false,.string ⟨#[]⟩]⟩),.agg ⟨[.int .i64 1,.int .i64 3,.int .i64 1,.bool false,.string ⟨#[]⟩]⟩],.tuple ⟨[.agg ⟨[.int .i64 123,.string ⟨#[]⟩]⟩,.int .i64 0,.nilIface]⟩),([.iface 241 (.agg ⟨[.int .i64 125,.int .i64 1,.int .i64 9,.int .i64 2,.bool false,.string ⟨#[]⟩]⟩),.agg ⟨[.int .i64 1,.int .i64 5,.int .i64 2,.bool false,.string ⟨#[]⟩]⟩],.tuple ⟨[.agg ⟨[.int .i64 125,.string ⟨#[]⟩]⟩,.int .i64 0,.nilIface]⟩)]
theorem pk167:jal Tryz.prog 230 (memo m167):=jap [] ok_Fs1e48 hmix fn167 jai (by kernel_rfl) (by kernel_rfl)
def Fs1e49:Env:=Fs1e48.add 230 (memo m167)
theorem ok_Fs1e49:jao Tryz.prog Fs1e49:=jak ok_Fs1e48 pk167
theorem fn168:Fn1 Tryz.prog 231 Tryz.f231:= .m Tryz.func231
def m168:List (U×Value):=[([.string ⟨#[]⟩,.int .i64 3,.string ⟨#[48]⟩],.string ⟨#[48,48,48]⟩),([.string ⟨#[49,49]⟩,.int .i64 4,.string ⟨#[48]⟩],.string ⟨#[49,49,48,48]⟩),([.string ⟨#[105,116,39,115]⟩,.int .i64 6,.string ⟨#[32]⟩],.string ⟨#[105,116,39,115,32,32]⟩),([.string ⟨#[49,50]⟩,.int .i64 2,.string ⟨#[32]⟩],.string ⟨#[49,50]⟩),([.string ⟨#[51,52]⟩,.int .i64 2,.string ⟨#[32]⟩],.string ⟨#[51,52]⟩),([.string ⟨#[53,54]⟩,.int .i64 2,.string ⟨#[32]⟩],.string ⟨#[53,54]⟩)]
theorem pk168:jal Tryz.prog 231 (memo m168):=jap [] ok_Fs1e49 hmix fn168 jai (by kernel_rfl) (by kernel_rfl)
def Fs1e50:Env:=Fs1e49.add 231 (memo m168)
theorem ok_Fs1e50:jao Tryz.prog Fs1e50:=jak ok_Fs1e49 pk168
theorem fn169:Fn1 Tryz.prog 232 Tryz.f232:= .m Tryz.func232
def m169:List (U×Value):=[([.iface 242 (.string ⟨#[49,49]⟩)],.tuple ⟨[.string ⟨#[49,49]⟩,.nilIface]⟩),([.iface 245 (.string ⟨#[120]⟩)],.tuple ⟨[.string ⟨#[]⟩,.iface 210 (.agg ⟨[.string ⟨#[120]⟩]⟩)]⟩)]
theorem pk169:jal Tryz.prog 232 (memo m169):=jap [] ok_Fs1e50 hmix fn169 jai (by kernel_rfl) (by kernel_rfl)
def Fs1e51:Env:=Fs1e50.add 232 (memo m169)
theorem ok_Fs1e51:jao Tryz.prog Fs1e51:=jak ok_Fs1e50 pk169
theorem fn125:Fn1 Tryz.prog 167 Tryz.f167:= .m Tryz.func167
def m125:List (U×Value):=[([.iface 241 (.agg ⟨[.int .i64 1234,.int .i64 1,.int .i64 4,.int .i64 2,.bool false,.string ⟨#[]⟩]⟩),.agg ⟨[.int .i64 5,.int .i64 0,.int .i64 0,.bool false,.string ⟨#[57,57,86,57]⟩]⟩],.tuple ⟨[.agg ⟨[.int .i64 0,.string ⟨#[49,50,51]⟩]⟩,.int .i64 0,.nilIface]⟩),([.iface 241 (.agg ⟨[.int .i64 125,.int .i64 1,.int .i64 9,.int .i64 2,.bool false,.string ⟨#[]⟩]⟩),.agg ⟨[.int .i64 1,.int .i64 5,.int .i64 2,.bool false,.string ⟨#[]⟩]⟩],.tuple ⟨[.agg ⟨[.int .i64 125,.string ⟨#[]⟩]⟩,.int .i64 0,.nilIface]⟩),([.iface 242 (.string ⟨#[49,49]⟩),.agg ⟨[.int .i64 4,.int .i64 4,.int .i64 0,.bool false,.string ⟨#[]⟩]⟩],.tuple ⟨[.agg ⟨[.int .i64 0,.string ⟨#[49,49,48,48]⟩]⟩,.int .i64 0,.nilIface]⟩),([.iface 245 (.string ⟨#[120]⟩),.agg ⟨[.int .i64 4,.int .i64 3,.int .i64 0,.bool false,.string ⟨#[]⟩]⟩],.tuple ⟨[.agg ⟨[.int .i64 0,.string ⟨#[48,48,48]⟩]⟩,.int .i64 0,.iface 210 (.agg ⟨[.string ⟨#[120]⟩]⟩)]⟩),([.iface 245 (.string ⟨#[105,116,39,115]⟩),.agg ⟨[.int .i64 3,.int .i64 6,.int .i64 0,.bool false,.string ⟨#[]⟩]⟩],.tuple ⟨[.agg ⟨[.int .i64 0,.string ⟨#[105,116,39,115,32,32]⟩]⟩,.int .i64 0,.nilIface]⟩),([.iface 245 (.string ⟨#[49,50]⟩),.agg ⟨[.int .i64 3,.int .i64 2,.int .i64 0,.bool false,.string ⟨#[]⟩]⟩],.tuple ⟨[.agg ⟨[.int .i64 0,.string ⟨#[49,50]⟩]⟩,.int .i64 0,.nilIface]⟩),([.iface 245 (.string ⟨#[51,52]⟩),.agg ⟨[.int .i64 3,.int .i64 2,.int .i64 0,.bool false,.string ⟨#[]⟩]⟩],.tuple ⟨[.agg ⟨[.int .i64 0,.string ⟨#[51,52]⟩]⟩,.int .i64 0,.nilIface]⟩),([.iface 245 (.string ⟨#[53,54]⟩),.agg ⟨[.int .i64 3,.int .i64 2,.int .i64 0,.bool false,.string ⟨#[]⟩]⟩],.tuple ⟨[.agg ⟨[.int .i64 0,.string ⟨#[53,54]⟩]⟩,.int .i64 0,.nilIface]⟩)]
theorem pk125:jal Tryz.prog 167 (memo m125):=jap [] ok_Fs1e51 hmix fn125 jai (by kernel_rfl) (by kernel_rfl)
def Fs1e52:Env:=Fs1e51.add 167 (memo m125)
theorem ok_Fs1e52:jao Tryz.prog Fs1e52:=jak ok_Fs1e51 pk125
theorem fn127:Fn1 Tryz.prog 169 Tryz.f169:= .m Tryz.func169
def m127:List (U×Value):=[([.agg ⟨[.int .i64 4,.int .i64 3,.int .i64 0,.bool false,.string ⟨#[]⟩]⟩],.agg ⟨[.int .i64 0,.string ⟨#[48,48,48]⟩]⟩)]
theorem pk127:jal Tryz.prog 169 (memo m127):=jap [] ok_Fs1e52 hmix fn127 jai (by kernel_rfl) (by kernel_rfl)
def Fs1e53:Env:=Fs1e52.add 169 (memo m127)
theorem ok_Fs1e53:jao Tryz.prog Fs1e53:=jak ok_Fs1e52 pk127
theorem fn74:Fn1 Tryz.prog 115 Tryz.f115:= .m Tryz.func115
def m74:List (U×Value):=[([.agg ⟨[.int .i64 1234,.string ⟨#[]⟩]⟩,.agg ⟨[.int .i64 1,.int .i64 4,.int .i64 2,.bool false,.string ⟨#[]⟩]⟩,.agg ⟨[.int .i64 5,.int .i64 0,.int .i64 0,.bool false,.string ⟨#[57,57,86,57]⟩]⟩],.tuple ⟨[.agg ⟨[.int .i64 0,.string ⟨#[49,50,51]⟩]⟩,.int .i64 0,.int .i64 0]⟩),([.agg ⟨[.int .i64 125,.string ⟨#[]⟩]⟩,.agg ⟨[.int .i64 1,.int .i64 9,.int .i64 2,.bool false,.string ⟨#[]⟩]⟩,.agg ⟨[.int .i64 1,.int .i64 5,.int .i64 2,.bool false,.string ⟨#[]⟩]⟩],.tuple ⟨[.agg ⟨[.int .i64 125,.string ⟨#[]⟩]⟩,.int .i64 0,.int .i64 0]⟩),([.agg ⟨[.int .i64 0,.string ⟨#[49,49]⟩]⟩,.agg ⟨[.int .i64 4,.int .i64 2,.int .i64 0,.bool false,.string ⟨#[]⟩]⟩,.agg ⟨[.int .i64 4,.int .i64 4,.int .i64 0,.bool false,.string ⟨#[]⟩]⟩],.tuple ⟨[.agg ⟨[.int .i64 0,.string ⟨#[49,49,48,48]⟩]⟩,.int .i64 0,.int .i64 0]⟩),([.agg ⟨[.int .i64 0,.string ⟨#[120]⟩]⟩,.agg ⟨[.int .i64 3,.int .i64 1,.int .i64 0,.bool false,.string ⟨#[]⟩]⟩,.agg ⟨[.int .i64 4,.int .i64 3,.int .i64 0,.bool false,.string ⟨#[]⟩]⟩],.tuple ⟨[.agg ⟨[.int .i64 0,.string ⟨#[48,48,48]⟩]⟩,.int .i64 4,.int .i64 0]⟩),([.agg ⟨[.int .i64 0,.string ⟨#[105,116,39,115]⟩]⟩,.agg ⟨[.int .i64 3,.int .i64 4,.int .i64 0,.bool false,.string ⟨#[]⟩]⟩,.agg ⟨[.int .i64 3,.int .i64 6,.int .i64 0,.bool false,.string ⟨#[]⟩]⟩],.tuple ⟨[.agg ⟨[.int .i64 0,.string ⟨#[105,116,39,115,32,32]⟩]⟩,.int .i64 0,.int .i64 0]⟩),([.agg ⟨[.int .i64 0,.string ⟨#[49,50]⟩]⟩,.agg ⟨[.int .i64 3,.int .i64 2,.int .i64 0,.bool false,.string ⟨#[]⟩]⟩,.agg ⟨[.int .i64 3,.int .i64 2,.int .i64 0,.bool false,.string ⟨#[]⟩]⟩],.tuple ⟨[.agg ⟨[.int .i64 0,.string ⟨#[49,50]⟩]⟩,.int .i64 0,.int .i64 0]⟩),([.agg ⟨[.int .i64 0,.string ⟨#[51,52]⟩]⟩,.agg ⟨[.int .i64 3,.int .i64 2,.int .i64 0,.bool false,.string ⟨#[]⟩]⟩,.agg ⟨[.int .i64 3,.int .i64 2,.int .i64 0,.bool false,.string ⟨#[]⟩]⟩],.tuple ⟨[.agg ⟨[.int .i64 0,.string ⟨#[51,52]⟩]⟩,.int .i64 0,.int .i64 0]⟩),([.agg ⟨[.int .i64 0,.string ⟨#[53,54]⟩]⟩,.agg ⟨[.int .i64 3,.int .i64 2,.int .i64 0,.bool false,.string ⟨#[]⟩]⟩,.agg ⟨[.int .i64 3,.int .i64 2,.int .i64 0,.bool false,.string ⟨#[]⟩]⟩],.tuple ⟨[.agg ⟨[.int .i64 0,.string ⟨#[53,54]⟩]⟩,.int .i64 0,.int .i64 0]⟩)]
theorem pk74:jal Tryz.prog 115 (memo m74):=jap [] ok_Fs1e53 hmix fn74 jai (by kernel_rfl) (by kernel_rfl)
def Fs1e54:Env:=Fs1e53.add 115 (memo m74)
theorem ok_Fs1e54:jao Tryz.prog Fs1e54:=jak ok_Fs1e53 pk74
variable [MaxL]
theorem fn44:Fn1 Tryz.prog 77 Tryz.f77:= .m Tryz.func77
def m44:List (U×Value):=[([.agg ⟨[.int .i64 3,.int .i64 6,.int .i64 2,.string ⟨#[]⟩]⟩],.bool true),([.agg ⟨[.int .i64 3,.int .i64 4,.int .i64 2,.string ⟨#[]⟩]⟩],.bool true),([.agg ⟨[.int .i64 3,.int .i64 6,.int .i64 1,.string ⟨#[]⟩]⟩],.bool true),([.agg ⟨[.int .i64 3,.int .i64 3,.int .i64 0,.string ⟨#[]⟩]⟩],.bool true),([.agg ⟨[.int .i64 1,.int .i64 4,.int .i64 0,.string ⟨#[]⟩]⟩],.bool true),([.agg ⟨[.int .i64 2,.int .i64 4,.int .i64 0,.string ⟨#[]⟩]⟩],.bool true),([.agg ⟨[.int .i64 2,.int .i64 3,.int .i64 0,.string ⟨#[]⟩]⟩],.bool true),([.agg ⟨[.int .i64 4,.int .i64 0,.int .i64 0,.string ⟨#[57,57,86,57]⟩]⟩],.bool true),([.agg ⟨[.int .i64 1,.int .i64 2,.int .i64 0,.string ⟨#[]⟩]⟩],.bool true),([.agg ⟨[.int .i64 5,.int .i64 1,.int .i64 0,.string ⟨#[]⟩]⟩],.bool true),([.agg ⟨[.int .i64 6,.int .i64 5,.int .i64 0,.string ⟨#[]⟩]⟩],.bool true),([.agg ⟨[.int .i64 1,.int .i64 0,.int .i64 0,.string ⟨#[]⟩]⟩],.bool true)]
theorem pk44:jal Tryz.prog 77 (memo m44):=jap [] ok_Fs1e54 hmix fn44 jai (by kernel_rfl) (by kernel_rfl)
def Fs2e1:Env:=Fs1e54.add 77 (memo m44)
theorem ok_Fs2e1:jao Tryz.prog Fs2e1:=jak ok_Fs1e54 pk44
theorem fn71:Fn1 Tryz.prog 106 Tryz.f106:= .m Tryz.func106
def m71:List (U×Value):=[([.agg ⟨[.int .i64 3,.int .i64 6,.int .i64 2,.string ⟨#[]⟩]⟩],.bool true),([.agg ⟨[.int .i64 3,.int .i64 4,.int .i64 2,.string ⟨#[]⟩]⟩],.bool true),([.agg ⟨[.int .i64 3,.int .i64 6,.int .i64 1,.string ⟨#[]⟩]⟩],.bool true),([.agg ⟨[.int .i64 3,.int .i64 3,.int .i64 0,.string ⟨#[]⟩]⟩],.bool true),([.agg ⟨[.int .i64 1,.int .i64 4,.int .i64 0,.string ⟨#[]⟩]⟩],.bool true),([.agg ⟨[.int .i64 2,.int .i64 4,.int .i64 0,.string ⟨#[]⟩]⟩],.bool true),([.agg ⟨[.int .i64 2,.int .i64 3,.int .i64 0,.string ⟨#[]⟩]⟩],.bool true),([.agg ⟨[.int .i64 4,.int .i64 0,.int .i64 0,.string ⟨#[57,57,86,57]⟩]⟩],.bool true),([.agg ⟨[.int .i64 1,.int .i64 2,.int .i64 0,.string ⟨#[]⟩]⟩],.bool true),([.agg ⟨[.int .i64 5,.int .i64 1,.int .i64 0,.string ⟨#[]⟩]⟩],.bool false),([.agg ⟨[.int .i64 6,.int .i64 5,.int .i64 0,.string ⟨#[]⟩]⟩],.bool false),([.agg ⟨[.int .i64 1,.int .i64 0,.int .i64 0,.string ⟨#[]⟩]⟩],.bool true)]
theorem pk71:jal Tryz.prog 106 (memo m71):=jap [] ok_Fs2e1 hmix fn71 jai (by kernel_rfl) (by kernel_rfl)
def Fs2e2:Env:=Fs2e1.add 106 (memo m71)
theorem ok_Fs2e2:jao Tryz.prog Fs2e2:=jak ok_Fs2e1 pk71
theorem fn37:Fn1 Tryz.prog 78 Tryz.f78:= .m Tryz.func78
def m37:List (U×Value):=[([.agg ⟨[.int .i64 3,.int .i64 6,.int .i64 2,.string ⟨#[]⟩]⟩],.int .i64 0),([.agg ⟨[.int .i64 3,.int .i64 4,.int .i64 2,.string ⟨#[]⟩]⟩],.int .i64 0),([.agg ⟨[.int .i64 3,.int .i64 6,.int .i64 1,.string ⟨#[]⟩]⟩],.int .i64 0),([.agg ⟨[.int .i64 3,.int .i64 3,.int .i64 0,.string ⟨#[]⟩]⟩],.int .i64 0),([.agg ⟨[.int .i64 1,.int .i64 4,.int .i64 0,.string ⟨#[]⟩]⟩],.int .i64 0),([.agg ⟨[.int .i64 2,.int .i64 4,.int .i64 0,.string ⟨#[]⟩]⟩],.int .i64 0),([.agg ⟨[.int .i64 2,.int .i64 3,.int .i64 0,.string ⟨#[]⟩]⟩],.int .i64 0),([.agg ⟨[.int .i64 4,.int .i64 0,.int .i64 0,.string ⟨#[57,57,86,57]⟩]⟩],.int .i64 0)]
theorem pk37:jal Tryz.prog 78 (memo m37):=jap [] ok_Fs2e2 hmix fn37 jai (by kernel_rfl) (by kernel_rfl)
def Fs2e3:Env:=Fs2e2.add 78 (memo m37)
theorem ok_Fs2e3:jao Tryz.prog Fs2e3:=jak ok_Fs2e2 pk37
theorem fn62:Fn1 Tryz.prog 90 Tryz.f90:= .m Tryz.func90
def m62:List (U×Value):=[([.agg ⟨[.int .i64 3,.int .i64 6,.int .i64 2,.string ⟨#[]⟩]⟩],.int .i64 6),([.agg ⟨[.int .i64 3,.int .i64 4,.int .i64 2,.string ⟨#[]⟩]⟩],.int .i64 4),([.agg ⟨[.int .i64 3,.int .i64 6,.int .i64 1,.string ⟨#[]⟩]⟩],.int .i64 6),([.agg ⟨[.int .i64 3,.int .i64 3,.int .i64 0,.string ⟨#[]⟩]⟩],.int .i64 3),([.agg ⟨[.int .i64 1,.int .i64 4,.int .i64 0,.string ⟨#[]⟩]⟩],.int .i64 4),([.agg ⟨[.int .i64 2,.int .i64 4,.int .i64 0,.string ⟨#[]⟩]⟩],.int .i64 4),([.agg ⟨[.int .i64 2,.int .i64 3,.int .i64 0,.string ⟨#[]⟩]⟩],.int .i64 3),([.agg ⟨[.int .i64 4,.int .i64 0,.int .i64 0,.string ⟨#[57,57,86,57]⟩]⟩],.int .i64 3),([.agg ⟨[.int .i64 1,.int .i64 2,.int .i64 0,.string ⟨#[]⟩]⟩],.int .i64 2),([.agg ⟨[.int .i64 1,.int .i64 0,.int .i64 0,.string ⟨#[]⟩]⟩],.int .i64 0)]
theorem pk62:jal Tryz.prog 90 (memo m62):=jap [] ok_Fs2e3 hmix fn62 jai (by kernel_rfl) (by kernel_rfl)
def Fs2e4:Env:=Fs2e3.add 90 (memo m62)
theorem ok_Fs2e4:jao Tryz.prog Fs2e4:=jak ok_Fs2e3 pk62
theorem fn55:Fn1 Tryz.prog 91 Tryz.f91:= .m Tryz.func91
def m55:List (U×Value):=[([.agg ⟨[.int .i64 1,.int .i64 5,.int .i64 2,.bool false,.string ⟨#[]⟩]⟩],.int .i64 0),([.agg ⟨[.int .i64 1,.int .i64 3,.int .i64 1,.bool false,.string ⟨#[]⟩]⟩],.int .i64 0),([.agg ⟨[.int .i64 3,.int .i64 2,.int .i64 0,.bool false,.string ⟨#[]⟩]⟩],.int .i64 0),([.agg ⟨[.int .i64 4,.int .i64 2,.int .i64 0,.bool false,.string ⟨#[]⟩]⟩],.int .i64 0),([.agg ⟨[.int .i64 3,.int .i64 1,.int .i64 0,.bool false,.string ⟨#[]⟩]⟩],.int .i64 0),([.agg ⟨[.int .i64 1,.int .i64 4,.int .i64 2,.bool false,.string ⟨#[]⟩]⟩],.int .i64 0),([.agg ⟨[.int .i64 4,.int .i64 3,.int .i64 0,.bool false,.string ⟨#[]⟩]⟩],.int .i64 0),([.agg ⟨[.int .i64 3,.int .i64 6,.int .i64 0,.bool false,.string ⟨#[]⟩]⟩],.int .i64 0)]
theorem pk55:jal Tryz.prog 91 (memo m55):=jap [] ok_Fs2e4 hmix fn55 jai (by kernel_rfl) (by kernel_rfl)
def Fs2e5:Env:=Fs2e4.add 91 (memo m55)
theorem ok_Fs2e5:jao Tryz.prog Fs2e5:=jak ok_Fs2e4 pk55
theorem fn38:Fn1 Tryz.prog 57 Tryz.f57:= .m Tryz.func57
def m38:List (U×Value):=[([.agg ⟨[.int .i64 5,.string ⟨#[]⟩]⟩,.agg ⟨[.int .i64 1,.int .i64 3,.int .i64 1,.bool false,.string ⟨#[]⟩]⟩],.int .i64 0),([.agg ⟨[.int .i64 0,.string ⟨#[97,98]⟩]⟩,.agg ⟨[.int .i64 3,.int .i64 2,.int .i64 0,.bool false,.string ⟨#[]⟩]⟩],.int .i64 0),([.agg ⟨[.int .i64 0,.string ⟨#[49,49]⟩]⟩,.agg ⟨[.int .i64 4,.int .i64 2,.int .i64 0,.bool false,.string ⟨#[]⟩]⟩],.int .i64 0),([.agg ⟨[.int .i64 0,.string ⟨#[120]⟩]⟩,.agg ⟨[.int .i64 3,.int .i64 1,.int .i64 0,.bool false,.string ⟨#[]⟩]⟩],.int .i64 0),([.agg ⟨[.int .i64 1234,.string ⟨#[]⟩]⟩,.agg ⟨[.int .i64 1,.int .i64 4,.int .i64 2,.bool false,.string ⟨#[]⟩]⟩],.int .i64 0),([.agg ⟨[.int .i64 (-125),.string ⟨#[]⟩]⟩,.agg ⟨[.int .i64 1,.int .i64 5,.int .i64 2,.bool false,.string ⟨#[]⟩]⟩],.int .i64 0),([.agg ⟨[.int .i64 0,.string ⟨#[120]⟩]⟩,.agg ⟨[.int .i64 3,.int .i64 1,.int .i64 0,.bool false,.string ⟨#[]⟩]⟩],.int .i64 0),([.agg ⟨[.int .i64 0,.string ⟨#[121]⟩]⟩,.agg ⟨[.int .i64 3,.int .i64 1,.int .i64 0,.bool false,.string ⟨#[]⟩]⟩],.int .i64 0),([.agg ⟨[.int .i64 150,.string ⟨#[]⟩]⟩,.agg ⟨[.int .i64 1,.int .i64 5,.int .i64 2,.bool false,.string ⟨#[]⟩]⟩],.int .i64 0),([.agg ⟨[.int .i64 0,.string ⟨#[49,48,49]⟩]⟩,.agg ⟨[.int .i64 4,.int .i64 3,.int .i64 0,.bool false,.string ⟨#[]⟩]⟩],.int .i64 0)]
theorem pk38:jal Tryz.prog 57 (memo m38):=jap [] ok_Fs2e5 hmix fn38 jai (by kernel_rfl) (by kernel_rfl)
def Fs2e6:Env:=Fs2e5.add 57 (memo m38)
theorem ok_Fs2e6:jao Tryz.prog Fs2e6:=jak ok_Fs2e5 pk38
theorem fn129:Fn1 Tryz.prog 171 Tryz.f171:= .m Tryz.func171
def m129:List (U×Value):=[([.int .i64 (-125),.int .i64 2],.agg ⟨[.bool true,.string ⟨#[49,50,53]⟩,.int .i64 2]⟩),([.int .i64 5,.int .i64 1],.agg ⟨[.bool false,.string ⟨#[53]⟩,.int .i64 1]⟩)]
theorem pk129:jal Tryz.prog 171 (memo m129):=jap [] ok_Fs2e6 hmix fn129 jai (by kernel_rfl) (by kernel_rfl)
def Fs2e7:Env:=Fs2e6.add 171 (memo m129)
theorem ok_Fs2e7:jao Tryz.prog Fs2e7:=jak ok_Fs2e6 pk129
theorem fn133:Fn1 Tryz.prog 174 Tryz.f174:= .m Tryz.func174
def m133:List (U×Value):=[([.agg ⟨[.bool true,.string ⟨#[49,50,53]⟩,.int .i64 2]⟩,.int .i64 2],.tuple ⟨[.string ⟨#[49,50,53]⟩,.bool true]⟩),([.agg ⟨[.bool true,.string ⟨#[49,50,53]⟩,.int .i64 2]⟩,.int .i64 1],.tuple ⟨[.string ⟨#[49,51]⟩,.bool true]⟩),([.agg ⟨[.bool false,.string ⟨#[53]⟩,.int .i64 1]⟩,.int .i64 0],.tuple ⟨[.string ⟨#[49]⟩,.bool true]⟩)]
theorem pk133:jal Tryz.prog 174 (memo m133):=jap [] ok_Fs2e7 hmix fn133 jai (by kernel_rfl) (by kernel_rfl)
def Fs2e8:Env:=Fs2e7.add 174 (memo m133)
theorem ok_Fs2e8:jao Tryz.prog Fs2e8:=jak ok_Fs2e7 pk133
theorem fn76:Fn1 Tryz.prog 117 Tryz.f117:= .m Tryz.func117
def m76:List (U×Value):=[([.agg ⟨[.bool true,.string ⟨#[49,50,53]⟩,.int .i64 2]⟩,.int .i64 2],.tuple ⟨[.string ⟨#[45,49,46,50,53]⟩,.bool true]⟩),([.agg ⟨[.bool true,.string ⟨#[49,50,53]⟩,.int .i64 2]⟩,.int .i64 1],.tuple ⟨[.string ⟨#[45,49,46,51]⟩,.bool true]⟩),([.agg ⟨[.bool false,.string ⟨#[53]⟩,.int .i64 1]⟩,.int .i64 0],.tuple ⟨[.string ⟨#[49]⟩,.bool true]⟩)]
theorem pk76:jal Tryz.prog 117 (memo m76):=jap [] ok_Fs2e8 hmix fn76 jai (by kernel_rfl) (by kernel_rfl)
def Fs2e9:Env:=Fs2e8.add 117 (memo m76)
theorem ok_Fs2e9:jao Tryz.prog Fs2e9:=jak ok_Fs2e8 pk76
theorem fn75:Fn1 Tryz.prog 116 Tryz.f116:= .m Tryz.func116
def m75:List (U×Value):=[([.agg ⟨[.int .i64 (-125),.string ⟨#[]⟩]⟩,.agg ⟨[.int .i64 1,.int .i64 5,.int .i64 2,.bool false,.string ⟨#[]⟩]⟩],.tuple ⟨[.agg ⟨[.bool true,.string ⟨#[49,50,53]⟩,.int .i64 2]⟩,.bool true]⟩),([.agg ⟨[.int .i64 5,.string ⟨#[]⟩]⟩,.agg ⟨[.int .i64 1,.int .i64 3,.int .i64 1,.bool false,.string ⟨#[]⟩]⟩],.tuple ⟨[.agg ⟨[.bool false,.string ⟨#[53]⟩,.int .i64 1]⟩,.bool true]⟩)]
theorem pk75:jal Tryz.prog 116 (memo m75):=jap [] ok_Fs2e9 hmix fn75 jai (by kernel_rfl) (by kernel_rfl)
def Fs2e10:Env:=Fs2e9.add 116 (memo m75)
theorem ok_Fs2e10:jao Tryz.prog Fs2e10:=jak ok_Fs2e9 pk75
theorem fn39:Fn1 Tryz.prog 64 Tryz.f64:= .m Tryz.func64
def m39:List (U×Value):=[([.agg ⟨[.int .i64 3,.int .i64 6,.int .i64 2,.string ⟨#[]⟩]⟩,.agg ⟨[.int .i64 (-125),.string ⟨#[]⟩]⟩,.agg ⟨[.int .i64 1,.int .i64 5,.int .i64 2,.bool false,.string ⟨#[]⟩]⟩],.string ⟨#[32,45,49,46,50,53]⟩),([.agg ⟨[.int .i64 3,.int .i64 4,.int .i64 2,.string ⟨#[]⟩]⟩,.agg ⟨[.int .i64 (-125),.string ⟨#[]⟩]⟩,.agg ⟨[.int .i64 1,.int .i64 5,.int .i64 2,.bool false,.string ⟨#[]⟩]⟩],.string ⟨#[42,42,42,42]⟩),([.agg ⟨[.int .i64 3,.int .i64 6,.int .i64 1,.string ⟨#[]⟩]⟩,.agg ⟨[.int .i64 (-125),.string ⟨#[]⟩]⟩,.agg ⟨[.int .i64 1,.int .i64 5,.int .i64 2,.bool false,.string ⟨#[]⟩]⟩],.string ⟨#[32,32,45,49,46,51]⟩),([.agg ⟨[.int .i64 3,.int .i64 3,.int .i64 0,.string ⟨#[]⟩]⟩,.agg ⟨[.int .i64 5,.string ⟨#[]⟩]⟩,.agg ⟨[.int .i64 1,.int .i64 3,.int .i64 1,.bool false,.string ⟨#[]⟩]⟩],.string ⟨#[32,32,49]⟩),([.agg ⟨[.int .i64 1,.int .i64 4,.int .i64 0,.string ⟨#[]⟩]⟩,.agg ⟨[.int .i64 0,.string ⟨#[97,98]⟩]⟩,.agg ⟨[.int .i64 3,.int .i64 2,.int .i64 0,.bool false,.string ⟨#[]⟩]⟩],.string ⟨#[97,98,32,32]⟩),([.agg ⟨[.int .i64 2,.int .i64 4,.int .i64 0,.string ⟨#[]⟩]⟩,.agg ⟨[.int .i64 0,.string ⟨#[49,49]⟩]⟩,.agg ⟨[.int .i64 4,.int .i64 2,.int .i64 0,.bool false,.string ⟨#[]⟩]⟩],.string ⟨#[49,49,48,48]⟩),([.agg ⟨[.int .i64 2,.int .i64 3,.int .i64 0,.string ⟨#[]⟩]⟩,.agg ⟨[.int .i64 0,.string ⟨#[120]⟩]⟩,.agg ⟨[.int .i64 3,.int .i64 1,.int .i64 0,.bool false,.string ⟨#[]⟩]⟩],.string ⟨#[42,42,42]⟩),([.agg ⟨[.int .i64 4,.int .i64 0,.int .i64 0,.string ⟨#[57,57,86,57]⟩]⟩,.agg ⟨[.int .i64 1234,.string ⟨#[]⟩]⟩,.agg ⟨[.int .i64 1,.int .i64 4,.int .i64 2,.bool false,.string ⟨#[]⟩]⟩],.string ⟨#[49,50,51]⟩),([.agg ⟨[.int .i64 1,.int .i64 0,.int .i64 0,.string ⟨#[]⟩]⟩,.agg ⟨[.int .i64 0,.string ⟨#[120]⟩]⟩,.agg ⟨[.int .i64 3,.int .i64 1,.int .i64 0,.bool false,.string ⟨#[]⟩]⟩],.string ⟨#[120]⟩),([.agg ⟨[.int .i64 1,.int .i64 0,.int .i64 0,.string ⟨#[]⟩]⟩,.agg ⟨[.int .i64 0,.string ⟨#[121]⟩]⟩,.agg ⟨[.int .i64 3,.int .i64 1,.int .i64 0,.bool false,.string ⟨#[]⟩]⟩],.string ⟨#[121]⟩)]
theorem pk39:jal Tryz.prog 64 (memo m39):=jap [] ok_Fs2e10 hmix fn39 jai (by kernel_rfl) (by kernel_rfl)
def Fs2e11:Env:=Fs2e10.add 64 (memo m39)
theorem ok_Fs2e11:jao Tryz.prog Fs2e11:=jak ok_Fs2e10 pk39
theorem fn8:Fn1 Tryz.prog 25 Tryz.f25:= .m Tryz.func25
def m8:List (U×Value):=[([.agg ⟨[.int .i64 3,.int .i64 6,.int .i64 2,.string ⟨#[]⟩]⟩,.agg ⟨[.int .i64 (-125),.string ⟨#[]⟩]⟩,.agg ⟨[.int .i64 1,.int .i64 5,.int .i64 2,.bool false,.string ⟨#[]⟩]⟩],.tuple ⟨[.string ⟨#[32,45,49,46,50,53]⟩,.int .i64 0]⟩),([.agg ⟨[.int .i64 3,.int .i64 4,.int .i64 2,.string ⟨#[]⟩]⟩,.agg ⟨[.int .i64 (-125),.string ⟨#[]⟩]⟩,.agg ⟨[.int .i64 1,.int .i64 5,.int .i64 2,.bool false,.string ⟨#[]⟩]⟩],.tuple ⟨[.string ⟨#[42,42,42,42]⟩,.int .i64 0]⟩),([.agg ⟨[.int .i64 3,.int .i64 6,.int .i64 1,.string ⟨#[]⟩]⟩,.agg ⟨[.int .i64 (-125),.string ⟨#[]⟩]⟩,.agg ⟨[.int .i64 1,.int .i64 5,.int .i64 2,.bool false,.string ⟨#[]⟩]⟩],.tuple ⟨[.string ⟨#[32,32,45,49,46,51]⟩,.int .i64 0]⟩),([.agg ⟨[.int .i64 3,.int .i64 3,.int .i64 0,.string ⟨#[]⟩]⟩,.agg ⟨[.int .i64 5,.string ⟨#[]⟩]⟩,.agg ⟨[.int .i64 1,.int .i64 3,.int .i64 1,.bool false,.string ⟨#[]⟩]⟩],.tuple ⟨[.string ⟨#[32,32,49]⟩,.int .i64 0]⟩),([.agg ⟨[.int .i64 1,.int .i64 4,.int .i64 0,.string ⟨#[]⟩]⟩,.agg ⟨[.int .i64 0,.string ⟨#[97,98]⟩]⟩,.agg ⟨[.int .i64 3,.int .i64 2,.int .i64 0,.bool false,.string ⟨#[]⟩]⟩],.tuple ⟨[.string ⟨#[97,98,32,32]⟩,.int .i64 0]⟩),([.agg ⟨[.int .i64 2,.int .i64 4,.int .i64 0,.string ⟨#[]⟩]⟩,.agg ⟨[.int .i64 0,.string ⟨#[49,49]⟩]⟩,.agg ⟨[.int .i64 4,.int .i64 2,.int .i64 0,.bool false,.string ⟨#[]⟩]⟩],.tuple ⟨[.string ⟨#[49,49,48,48]⟩,.int .i64 0]⟩),([.agg ⟨[.int .i64 2,.int .i64 3,.int .i64 0,.string ⟨#[]⟩]⟩,.agg ⟨[.int .i64 0,.string ⟨#[120]⟩]⟩,.agg ⟨[.int .i64 3,.int .i64 1,.int .i64 0,.bool false,.string ⟨#[]⟩]⟩],.tuple ⟨[.string ⟨#[42,42,42]⟩,.int .i64 0]⟩),([.agg ⟨[.int .i64 4,.int .i64 0,.int .i64 0,.string ⟨#[57,57,86,57]⟩]⟩,.agg ⟨[.int .i64 1234,.string ⟨#[]⟩]⟩,.agg ⟨[.int .i64 1,.int .i64 4,.int .i64 2,.bool false,.string ⟨#[]⟩]⟩],.tuple ⟨[.string ⟨#[49,50,51]⟩,.int .i64 0]⟩)]
theorem pk8:jal Tryz.prog 25 (memo m8):=jap [] ok_Fs2e11 hmix fn8 jai (by kernel_rfl) (by kernel_rfl)
def Fs2e12:Env:=Fs2e11.add 25 (memo m8)
theorem ok_Fs2e12:jao Tryz.prog Fs2e12:=jak ok_Fs2e11 pk8
theorem fn50:Fn1 Tryz.prog 60 Tryz.f60:= .m Tryz.func60
def m50:List (U×Value):=[([.agg ⟨[.int .i64 150,.string ⟨#[]⟩]⟩,.agg ⟨[.int .i64 1,.int .i64 5,.int .i64 2,.bool false,.string ⟨#[]⟩]⟩],.string ⟨#[49,46,53,48]⟩),([.agg ⟨[.int .i64 0,.string ⟨#[49,48,49]⟩]⟩,.agg ⟨[.int .i64 4,.int .i64 3,.int .i64 0,.bool false,.string ⟨#[]⟩]⟩],.string ⟨#[39,49,48,49,39,66]⟩)]
theorem pk50:jal Tryz.prog 60 (memo m50):=jap [] ok_Fs2e12 hmix fn50 jai (by kernel_rfl) (by kernel_rfl)
def Fs2e13:Env:=Fs2e12.add 60 (memo m50)
theorem ok_Fs2e13:jao Tryz.prog Fs2e13:=jak ok_Fs2e12 pk50
theorem fn27:Fn1 Tryz.prog 20 Tryz.f20:= .m Tryz.func20
def m27:List (U×Value):=[([.agg ⟨[.int .i64 150,.string ⟨#[]⟩]⟩,.agg ⟨[.int .i64 1,.int .i64 5,.int .i64 2,.bool false,.string ⟨#[]⟩]⟩],.tuple ⟨[.string ⟨#[49,46,53,48]⟩,.int .i64 0]⟩),([.agg ⟨[.int .i64 0,.string ⟨#[49,48,49]⟩]⟩,.agg ⟨[.int .i64 4,.int .i64 3,.int .i64 0,.bool false,.string ⟨#[]⟩]⟩],.tuple ⟨[.string ⟨#[39,49,48,49,39,66]⟩,.int .i64 0]⟩)]
theorem pk27:jal Tryz.prog 20 (memo m27):=jap [] ok_Fs2e13 hmix fn27 jai (by kernel_rfl) (by kernel_rfl)
def Fs2e14:Env:=Fs2e13.add 20 (memo m27)
theorem ok_Fs2e14:jao Tryz.prog Fs2e14:=jak ok_Fs2e13 pk27
theorem fn90:Fn1 Tryz.prog 149 Tryz.f149:= .m Tryz.func149
def m90:List (U×Value):=[([.string ⟨#[105,116,39,115]⟩],.agg ⟨[.int .i64 0,.string ⟨#[105,116,39,115]⟩,.int .i64 3,.int .i64 4,.int .i64 0,.bool false,.string ⟨#[]⟩,.bool false]⟩),([.string ⟨#[49,50]⟩],.agg ⟨[.int .i64 0,.string ⟨#[49,50]⟩,.int .i64 3,.int .i64 2,.int .i64 0,.bool false,.string ⟨#[]⟩,.bool false]⟩),([.string ⟨#[51,52]⟩],.agg ⟨[.int .i64 0,.string ⟨#[51,52]⟩,.int .i64 3,.int .i64 2,.int .i64 0,.bool false,.string ⟨#[]⟩,.bool false]⟩),([.string ⟨#[53,54]⟩],.agg ⟨[.int .i64 0,.string ⟨#[53,54]⟩,.int .i64 3,.int .i64 2,.int .i64 0,.bool false,.string ⟨#[]⟩,.bool false]⟩)]
theorem pk90:jal Tryz.prog 149 (memo m90):=jap [] ok_Fs2e14 hmix fn90 jai (by kernel_rfl) (by kernel_rfl)
def Fs2e15:Env:=Fs2e14.add 149 (memo m90)
theorem ok_Fs2e15:jao Tryz.prog Fs2e15:=jak ok_Fs2e14 pk90
theorem fn89:Fn1 Tryz.prog 148 Tryz.f148:= .m Tryz.func148
def m89:List (U×Value):=[([.agg ⟨[.int .i64 1,.int .i64 5,.int .i64 2,.bool false,.string ⟨#[]⟩]⟩],.agg ⟨[.int .i64 0,.string ⟨#[]⟩]⟩)]
theorem pk89:jal Tryz.prog 148 (memo m89):=jap [] ok_Fs2e15 hmix fn89 jai (by kernel_rfl) (by kernel_rfl)
def Fs2e16:Env:=Fs2e15.add 148 (memo m89)
theorem ok_Fs2e16:jao Tryz.prog Fs2e16:=jak ok_Fs2e15 pk89
theorem fn91:Fn1 Tryz.prog 142 Tryz.f142:= .m Tryz.func142
def m91:List (U×Value):=[([.agg ⟨[.int .i64 125,.string ⟨#[]⟩,.int .i64 1,.int .i64 9,.int .i64 2,.bool false,.string ⟨#[]⟩,.bool false]⟩,.agg ⟨[.int .i64 1,.int .i64 5,.int .i64 2,.bool false,.string ⟨#[]⟩]⟩],.tuple ⟨[.agg ⟨[.int .i64 125,.string ⟨#[]⟩]⟩,.int .i64 0]⟩),([.agg ⟨[.int .i64 0,.string ⟨#[]⟩,.int .i64 0,.int .i64 0,.int .i64 0,.bool false,.string ⟨#[]⟩,.bool true]⟩,.agg ⟨[.int .i64 1,.int .i64 5,.int .i64 2,.bool false,.string ⟨#[]⟩]⟩],.tuple ⟨[.agg ⟨[.int .i64 0,.string ⟨#[]⟩]⟩,.int .i64 4]⟩),([.agg ⟨[.int .i64 0,.string ⟨#[105,116,39,115]⟩,.int .i64 3,.int .i64 4,.int .i64 0,.bool false,.string ⟨#[]⟩,.bool false]⟩,.agg ⟨[.int .i64 3,.int .i64 6,.int .i64 0,.bool false,.string ⟨#[]⟩]⟩],.tuple ⟨[.agg ⟨[.int .i64 0,.string ⟨#[105,116,39,115,32,32]⟩]⟩,.int .i64 0]⟩),([.agg ⟨[.int .i64 0,.string ⟨#[49,50]⟩,.int .i64 3,.int .i64 2,.int .i64 0,.bool false,.string ⟨#[]⟩,.bool false]⟩,.agg ⟨[.int .i64 3,.int .i64 2,.int .i64 0,.bool false,.string ⟨#[]⟩]⟩],.tuple ⟨[.agg ⟨[.int .i64 0,.string ⟨#[49,50]⟩]⟩,.int .i64 0]⟩),([.agg ⟨[.int .i64 0,.string ⟨#[51,52]⟩,.int .i64 3,.int .i64 2,.int .i64 0,.bool false,.string ⟨#[]⟩,.bool false]⟩,.agg ⟨[.int .i64 3,.int .i64 2,.int .i64 0,.bool false,.string ⟨#[]⟩]⟩],.tuple ⟨[.agg ⟨[.int .i64 0,.string ⟨#[51,52]⟩]⟩,.int .i64 0]⟩),([.agg ⟨[.int .i64 0,.string ⟨#[53,54]⟩,.int .i64 3,.int .i64 2,.int .i64 0,.bool false,.string ⟨#[]⟩,.bool false]⟩,.agg ⟨[.int .i64 3,.int .i64 2,.int .i64 0,.bool false,.string ⟨#[]⟩]⟩],.tuple ⟨[.agg ⟨[.int .i64 0,.string ⟨#[53,54]⟩]⟩,.int .i64 0]⟩)]
theorem pk91:jal Tryz.prog 142 (memo m91):=jap [] ok_Fs2e16 hmix fn91 jai (by kernel_rfl) (by kernel_rfl)
def Fs2e17:Env:=Fs2e16.add 142 (memo m91)
theorem ok_Fs2e17:jao Tryz.prog Fs2e17:=jak ok_Fs2e16 pk91
theorem fn98:Fn1 Tryz.prog 138 Tryz.f138:= .m Tryz.func138
def m98:List (U×Value):=[([.agg ⟨[.int .i64 1,.int .i64 2,.int .i64 0,.string ⟨#[]⟩]⟩,.string ⟨#[49,50]⟩],.agg ⟨[.int .i64 0,.string ⟨#[49,50]⟩,.int .i64 3,.int .i64 2,.int .i64 0,.bool false,.string ⟨#[]⟩,.bool false]⟩),([.agg ⟨[.int .i64 1,.int .i64 2,.int .i64 0,.string ⟨#[]⟩]⟩,.string ⟨#[51,52]⟩],.agg ⟨[.int .i64 0,.string ⟨#[51,52]⟩,.int .i64 3,.int .i64 2,.int .i64 0,.bool false,.string ⟨#[]⟩,.bool false]⟩),([.agg ⟨[.int .i64 1,.int .i64 2,.int .i64 0,.string ⟨#[]⟩]⟩,.string ⟨#[53,54]⟩],.agg ⟨[.int .i64 0,.string ⟨#[53,54]⟩,.int .i64 3,.int .i64 2,.int .i64 0,.bool false,.string ⟨#[]⟩,.bool false]⟩)]
theorem pk98:jal Tryz.prog 138 (memo m98):=jap [] ok_Fs2e17 hmix fn98 jai (by kernel_rfl) (by kernel_rfl)
def Fs2e18:Env:=Fs2e17.add 138 (memo m98)
theorem ok_Fs2e18:jao Tryz.prog Fs2e18:=jak ok_Fs2e17 pk98
def Fs2e19:Env:=Fs2e18.add 273 (sp2 Px.s141)
theorem ok_Fs2e19:jao Tryz.prog Fs2e19:=jak ok_Fs2e18 (jde Ff.ok187)
def Fs2e20:Env:=Fs2e19.add 146 (sp2 Ff.s87)
theorem ok_Fs2e20:jao Tryz.prog Fs2e20:=jak ok_Fs2e19 (jde Ff.ok87)
def Fs2e21:Env:=Fs2e20.add 110 (sp2 Ff.s80)
theorem ok_Fs2e21:jao Tryz.prog Fs2e21:=jak ok_Fs2e20 (jde Ff.ok80)
theorem fn165:Fn1 Tryz.prog 228 Tryz.f228:= .m Tryz.func228
def Fs2e22:Env:=Fs2e21.addG 228 (inlQ Tryz.prog Fs2e21 noL Tryz.f228)
theorem ok_Fs2e22:jao Tryz.prog Fs2e22:=jaq ok_Fs2e21 (jau ok_Fs2e21 hmix fn165 jai)
theorem fn121:Fn1 Tryz.prog 164 Tryz.f164:= .m Tryz.func164
def Fs2e23:Env:=Fs2e22.addG 164 (inlQ Tryz.prog Fs2e22 noL Tryz.f164)
theorem ok_Fs2e23:jao Tryz.prog Fs2e23:=jaq ok_Fs2e22 (jau ok_Fs2e22 hmix fn121 jai)
theorem fn188:Fn1 Tryz.prog 274 Tryz.f274:= .m Tryz.func274
def Fs2e24:Env:=Fs2e23.addG 274 (inlQ Tryz.prog Fs2e23 noL Tryz.f274)
theorem ok_Fs2e24:jao Tryz.prog Fs2e24:=jaq ok_Fs2e23 (jau ok_Fs2e23 hmix fn188 jai)
theorem fn141:Fn1 Tryz.prog 222 Tryz.f222:= .m Tryz.func222
def Fs2e25:Env:=Fs2e24.addG 222 (inlQ Tryz.prog Fs2e24 noL Tryz.f222)
theorem ok_Fs2e25:jao Tryz.prog Fs2e25:=jaq ok_Fs2e24 (jau ok_Fs2e24 hmix fn141 jai)
theorem fn97:Fn1 Tryz.prog 155 Tryz.f155:= .m Tryz.func155
def Fs2e26:Env:=Fs2e25.addG 155 (inlQ Tryz.prog Fs2e25 noL Tryz.f155)
theorem ok_Fs2e26:jao Tryz.prog Fs2e26:=jaq ok_Fs2e25 (jau ok_Fs2e25 hmix fn97 jai)
theorem fn100:Fn1 Tryz.prog 140 Tryz.f140:= .m Tryz.func140
def m100:List (U×Value):=[([.agg ⟨[.int .i64 3,.int .i64 6,.int .i64 2,.string ⟨#[]⟩]⟩,.string ⟨#[32,32,32,49,50,53]⟩],.agg ⟨[.int .i64 125,.string ⟨#[]⟩,.int .i64 1,.int .i64 9,.int .i64 2,.bool false,.string ⟨#[]⟩,.bool false]⟩),([.agg ⟨[.int .i64 3,.int .i64 6,.int .i64 2,.string ⟨#[]⟩]⟩,.string ⟨#[49,46,50,46,51,32]⟩],.agg ⟨[.int .i64 0,.string ⟨#[]⟩,.int .i64 0,.int .i64 0,.int .i64 0,.bool false,.string ⟨#[]⟩,.bool true]⟩)]
theorem pk100:jal Tryz.prog 140 (memo m100):=jap [] ok_Fs2e26 hmix fn100 jai (by kernel_rfl) (by kernel_rfl)
def Fs2e27:Env:=Fs2e26.add 140 (memo m100)
theorem ok_Fs2e27:jao Tryz.prog Fs2e27:=jak ok_Fs2e26 pk100
theorem fn60:Fn1 Tryz.prog 92 Tryz.f92:= .m Tryz.func92
def m60:List (U×Value):=[([.agg ⟨[.int .i64 3,.int .i64 6,.int .i64 2,.string ⟨#[]⟩]⟩,.string ⟨#[32,32,32,49,50,53]⟩,.agg ⟨[.int .i64 1,.int .i64 5,.int .i64 2,.bool false,.string ⟨#[]⟩]⟩],.tuple ⟨[.agg ⟨[.int .i64 125,.string ⟨#[]⟩]⟩,.int .i64 0]⟩),([.agg ⟨[.int .i64 3,.int .i64 6,.int .i64 2,.string ⟨#[]⟩]⟩,.string ⟨#[49,46,50,46,51,32]⟩,.agg ⟨[.int .i64 1,.int .i64 5,.int .i64 2,.bool false,.string ⟨#[]⟩]⟩],.tuple ⟨[.agg ⟨[.int .i64 0,.string ⟨#[]⟩]⟩,.int .i64 4]⟩),([.agg ⟨[.int .i64 1,.int .i64 2,.int .i64 0,.string ⟨#[]⟩]⟩,.string ⟨#[49,50]⟩,.agg ⟨[.int .i64 3,.int .i64 2,.int .i64 0,.bool false,.string ⟨#[]⟩]⟩],.tuple ⟨[.agg ⟨[.int .i64 0,.string ⟨#[49,50]⟩]⟩,.int .i64 0]⟩),([.agg ⟨[.int .i64 1,.int .i64 2,.int .i64 0,.string ⟨#[]⟩]⟩,.string ⟨#[51,52]⟩,.agg ⟨[.int .i64 3,.int .i64 2,.int .i64 0,.bool false,.string ⟨#[]⟩]⟩],.tuple ⟨[.agg ⟨[.int .i64 0,.string ⟨#[51,52]⟩]⟩,.int .i64 0]⟩),([.agg ⟨[.int .i64 1,.int .i64 2,.int .i64 0,.string ⟨#[]⟩]⟩,.string ⟨#[53,54]⟩,.agg ⟨[.int .i64 3,.int .i64 2,.int .i64 0,.bool false,.string ⟨#[]⟩]⟩],.tuple ⟨[.agg ⟨[.int .i64 0,.string ⟨#[53,54]⟩]⟩,.int .i64 0]⟩)]
theorem pk60:jal Tryz.prog 92 (memo m60):=jap [.both .leaf .leaf,.both .leaf .leaf,.both .leaf .leaf,.both .leaf .leaf,.both .leaf .leaf] ok_Fs2e27 hmix fn60 jai (by kernel_rfl) (by kernel_rfl)
def Fs2e28:Env:=Fs2e27.add 92 (memo m60)
theorem ok_Fs2e28:jao Tryz.prog Fs2e28:=jak ok_Fs2e27 pk60
theorem fn28:Fn1 Tryz.prog 33 Tryz.f33:= .m Tryz.func33
def m28:List (U×Value):=[([.agg ⟨[.int .i64 3,.int .i64 6,.int .i64 2,.string ⟨#[]⟩]⟩,.string ⟨#[32,32,32,49,50,53]⟩,.agg ⟨[.int .i64 1,.int .i64 5,.int .i64 2,.bool false,.string ⟨#[]⟩]⟩],.tuple ⟨[.agg ⟨[.int .i64 125,.string ⟨#[]⟩]⟩,.int .i64 0,.int .i64 0]⟩),([.agg ⟨[.int .i64 3,.int .i64 6,.int .i64 2,.string ⟨#[]⟩]⟩,.string ⟨#[49,46,50,46,51,32]⟩,.agg ⟨[.int .i64 1,.int .i64 5,.int .i64 2,.bool false,.string ⟨#[]⟩]⟩],.tuple ⟨[.agg ⟨[.int .i64 0,.string ⟨#[]⟩]⟩,.int .i64 4,.int .i64 0]⟩)]
theorem pk28:jal Tryz.prog 33 (memo m28):=jap [] ok_Fs2e28 hmix fn28 jai (by kernel_rfl) (by kernel_rfl)
def Fs2e29:Env:=Fs2e28.add 33 (memo m28)
theorem ok_Fs2e29:jao Tryz.prog Fs2e29:=jak ok_Fs2e28 pk28
theorem fn88:Fn1 Tryz.prog 147 Tryz.f147:= .m Tryz.func147
def m88:List (U×Value):=[([.string ⟨#[39,105,116,39,39,115,39]⟩],.tuple ⟨[.int .i64 7,.bool true]⟩),([.string ⟨#[39,97,32,98,39,32,39,49,39,66]⟩],.tuple ⟨[.int .i64 5,.bool true]⟩),([.string ⟨#[39,49,39,66]⟩],.tuple ⟨[.int .i64 4,.bool true]⟩)]
theorem pk88:jal Tryz.prog 147 (memo m88):=jap [] ok_Fs2e29 hmix fn88 jai (by kernel_rfl) (by kernel_rfl)
def Fs2e30:Env:=Fs2e29.add 147 (memo m88)
theorem ok_Fs2e30:jao Tryz.prog Fs2e30:=jak ok_Fs2e29 pk88
theorem fn57:Fn1 Tryz.prog 96 Tryz.f96:= .m Tryz.func96
def m57:List (U×Value):=[([.string ⟨#[39,105,116,39,39,115,39]⟩,.agg ⟨[.int .i64 3,.int .i64 6,.int .i64 0,.bool false,.string ⟨#[]⟩]⟩],.tuple ⟨[.agg ⟨[.int .i64 0,.string ⟨#[105,116,39,115,32,32]⟩]⟩,.int .i64 0]⟩)]
theorem pk57:jal Tryz.prog 96 (memo m57):=jap [] ok_Fs2e30 hmix fn57 jai (by kernel_rfl) (by kernel_rfl)
def Fs2e31:Env:=Fs2e30.add 96 (memo m57)
theorem ok_Fs2e31:jao Tryz.prog Fs2e31:=jak ok_Fs2e30 pk57
theorem fn30:Fn1 Tryz.prog 51 Tryz.f51:= .m Tryz.func51
def m30:List (U×Value):=[([.string ⟨#[39,105,116,39,39,115,39]⟩,.agg ⟨[.int .i64 3,.int .i64 6,.int .i64 0,.bool false,.string ⟨#[]⟩]⟩],.tuple ⟨[.agg ⟨[.int .i64 0,.string ⟨#[105,116,39,115,32,32]⟩]⟩,.int .i64 0,.int .i64 0]⟩)]
theorem pk30:jal Tryz.prog 51 (memo m30):=jap [] ok_Fs2e31 hmix fn30 jai (by kernel_rfl) (by kernel_rfl)
def Fs2e32:Env:=Fs2e31.add 51 (memo m30)
theorem ok_Fs2e32:jao Tryz.prog Fs2e32:=jak ok_Fs2e31 pk30
def Fs2e33:Env:=Fs2e32.addG 157 Ff.h134
theorem ok_Fs2e33:jao Tryz.prog Fs2e33:=jaq ok_Fs2e32 Ff.gen134
def Fs2e34:Env:=Fs2e33.addG 66 Ff.h54
theorem ok_Fs2e34:jao Tryz.prog Fs2e34:=jaq ok_Fs2e33 Ff.gen54
def Fs2e35:Env:=Fs2e34.add 65 (Ff.s53)
theorem ok_Fs2e35:jao Tryz.prog Fs2e35:=jak ok_Fs2e34 Ff.ok53
theorem fn78:Fn1 Tryz.prog 107 Tryz.f107:= .m Tryz.func107
def Fs2e36:Env:=Fs2e35.addG 107 (inlQ Tryz.prog Fs2e35 noL Tryz.f107)
theorem ok_Fs2e36:jao Tryz.prog Fs2e36:=jaq ok_Fs2e35 (jau ok_Fs2e35 hmix fn78 jai)
def Fs2e37:Env:=Fs2e36.add 144 (Ff.s85)
theorem ok_Fs2e37:jao Tryz.prog Fs2e37:=jak ok_Fs2e36 (jde Ff.ok85)
def Fs2e38:Env:=Fs2e37.add 67 (Ff.s63)
theorem ok_Fs2e38:jao Tryz.prog Fs2e38:=jak ok_Fs2e37 (jde Ff.ok63)
def Fs2e39:Env:=Fs2e38.add 99 (Ff.s61)
theorem ok_Fs2e39:jao Tryz.prog Fs2e39:=jak ok_Fs2e38 (jde Ff.ok61)
theorem fn84:Fn1 Tryz.prog 143 Tryz.f143:= .m Tryz.func143
def Fs2e40:Env:=Fs2e39.addG 143 (inlQ Tryz.prog Fs2e39 noL Tryz.f143)
theorem ok_Fs2e40:jao Tryz.prog Fs2e40:=jaq ok_Fs2e39 (jau ok_Fs2e39 hmix fn84 jai)
theorem fn86:Fn1 Tryz.prog 145 Tryz.f145:= .m Tryz.func145
def Fs2e41:Env:=Fs2e40.addG 145 (inlQ Tryz.prog Fs2e40 noL Tryz.f145)
theorem ok_Fs2e41:jao Tryz.prog Fs2e41:=jaq ok_Fs2e40 (jau ok_Fs2e40 hmix fn86 jai)
theorem fn56:Fn1 Tryz.prog 95 Tryz.f95:= .m Tryz.func95
def Fs2e42:Env:=Fs2e41.addG 95 (inlQ Tryz.prog Fs2e41 noL Tryz.f95)
theorem ok_Fs2e42:jao Tryz.prog Fs2e42:=jaq ok_Fs2e41 (jau ok_Fs2e41 hmix fn56 jai)
theorem fn20:Fn1 Tryz.prog 40 Tryz.f40:= .m Tryz.func40
def Fs2e43:Env:=Fs2e42.addG 40 (inlQ Tryz.prog Fs2e42 noL Tryz.f40)
theorem ok_Fs2e43:jao Tryz.prog Fs2e43:=jaq ok_Fs2e42 (jau ok_Fs2e42 hmix fn20 jai)
theorem fn29:Fn1 Tryz.prog 38 Tryz.f38:= .m Tryz.func38
def Fs2e44:Env:=Fs2e43.addG 38 (inlQ Tryz.prog Fs2e43 noL Tryz.f38)
theorem ok_Fs2e44:jao Tryz.prog Fs2e44:=jaq ok_Fs2e43 (jau ok_Fs2e43 hmix fn29 jai)
theorem fn31:Fn1 Tryz.prog 39 Tryz.f39:= .m Tryz.func39
def Fs2e45:Env:=Fs2e44.addG 39 (inlQ Tryz.prog Fs2e44 noL Tryz.f39)
theorem ok_Fs2e45:jao Tryz.prog Fs2e45:=jaq ok_Fs2e44 (jau ok_Fs2e44 hmix fn31 jai)
theorem fn94:Fn1 Tryz.prog 152 Tryz.f152:= .m Tryz.func152
def Fs2e46:Env:=Fs2e45.addG 152 (inlQ Tryz.prog Fs2e45 noL Tryz.f152)
theorem ok_Fs2e46:jao Tryz.prog Fs2e46:=jaq ok_Fs2e45 (jau ok_Fs2e45 hmix fn94 jai)
theorem fn95:Fn1 Tryz.prog 153 Tryz.f153:= .m Tryz.func153
def Fs2e47:Env:=Fs2e46.addG 153 (inlQ Tryz.prog Fs2e46 noL Tryz.f153)
theorem ok_Fs2e47:jao Tryz.prog Fs2e47:=jaq ok_Fs2e46 (jau ok_Fs2e46 hmix fn95 jai)
theorem fn96:Fn1 Tryz.prog 154 Tryz.f154:= .m Tryz.func154
def Fs2e48:Env:=Fs2e47.addG 154 (inlQ Tryz.prog Fs2e47 noL Tryz.f154)
theorem ok_Fs2e48:jao Tryz.prog Fs2e48:=jaq ok_Fs2e47 (jau ok_Fs2e47 hmix fn96 jai)
theorem fn58:Fn1 Tryz.prog 97 Tryz.f97:= .m Tryz.func97
def Fs2e49:Env:=Fs2e48.addG 97 (inlQ Tryz.prog Fs2e48 noL Tryz.f97)
theorem ok_Fs2e49:jao Tryz.prog Fs2e49:=jaq ok_Fs2e48 (jau ok_Fs2e48 hmix fn58 jai)
theorem fn59:Fn1 Tryz.prog 98 Tryz.f98:= .m Tryz.func98
def Fs2e50:Env:=Fs2e49.addG 98 (inlQ Tryz.prog Fs2e49 noL Tryz.f98)
theorem ok_Fs2e50:jao Tryz.prog Fs2e50:=jaq ok_Fs2e49 (jau ok_Fs2e49 hmix fn59 jai)
theorem fn43:Fn1 Tryz.prog 76 Tryz.f76:= .m Tryz.func76
def Fs2e51:Env:=Fs2e50.addG 76 (inlQ Tryz.prog Fs2e50 noL Tryz.f76)
theorem ok_Fs2e51:jao Tryz.prog Fs2e51:=jaq ok_Fs2e50 (jau ok_Fs2e50 hmix fn43 jai)
theorem fn77:Fn1 Tryz.prog 120 Tryz.f120:= .m Tryz.func120
def Fs2e52:Env:=Fs2e51.addG 120 (inlQ Tryz.prog Fs2e51 noL Tryz.f120)
theorem ok_Fs2e52:jao Tryz.prog Fs2e52:=jaq ok_Fs2e51 (jau ok_Fs2e51 hmix fn77 jai)
theorem fn41:Fn1 Tryz.prog 70 Tryz.f70:= .m Tryz.func70
def Fs2e53:Env:=Fs2e52.addG 70 (inlQ Tryz.prog Fs2e52 noL Tryz.f70)
theorem ok_Fs2e53:jao Tryz.prog Fs2e53:=jaq ok_Fs2e52 (jau ok_Fs2e52 hmix fn41 jai)
theorem fn12:Fn1 Tryz.prog 24 Tryz.f24:= .m Tryz.func24
def Fs2e54:Env:=Fs2e53.addG 24 (inlQ Tryz.prog Fs2e53 noL Tryz.f24)
theorem ok_Fs2e54:jao Tryz.prog Fs2e54:=jaq ok_Fs2e53 (jau ok_Fs2e53 hmix fn12 jai)
theorem fn45:Fn1 Tryz.prog 56 Tryz.f56:= .m Tryz.func56
def Fs2e55:Env:=Fs2e54.addG 56 (inlQ Tryz.prog Fs2e54 noL Tryz.f56)
theorem ok_Fs2e55:jao Tryz.prog Fs2e55:=jaq ok_Fs2e54 (jau ok_Fs2e54 hmix fn45 jai)
theorem fn46:Fn1 Tryz.prog 61 Tryz.f61:= .m Tryz.func61
def Fs2e56:Env:=Fs2e55.addG 61 (inlQ Tryz.prog Fs2e55 noL Tryz.f61)
theorem ok_Fs2e56:jao Tryz.prog Fs2e56:=jaq ok_Fs2e55 (jau ok_Fs2e55 hmix fn46 jai)
theorem fn22:Fn1 Tryz.prog 41 Tryz.f41:= .m Tryz.func41
def Fs2e57:Env:=Fs2e56.addG 41 (inlQ Tryz.prog Fs2e56 noL Tryz.f41)
theorem ok_Fs2e57:jao Tryz.prog Fs2e57:=jaq ok_Fs2e56 (jau ok_Fs2e56 hmix fn22 jai)
theorem fn24:Fn1 Tryz.prog 42 Tryz.f42:= .m Tryz.func42
def Fs2e58:Env:=Fs2e57.addG 42 (inlQ Tryz.prog Fs2e57 noL Tryz.f42)
theorem ok_Fs2e58:jao Tryz.prog Fs2e58:=jaq ok_Fs2e57 (jau ok_Fs2e57 hmix fn24 jai)
theorem fn17:Fn1 Tryz.prog 16 Tryz.f16:= .m Tryz.func16
def Fs2e59:Env:=Fs2e58.addG 16 (inlQ Tryz.prog Fs2e58 noL Tryz.f16)
theorem ok_Fs2e59:jao Tryz.prog Fs2e59:=jaq ok_Fs2e58 (jau ok_Fs2e58 hmix fn17 jai)
theorem fn21:Fn1 Tryz.prog 17 Tryz.f17:= .m Tryz.func17
def Fs2e60:Env:=Fs2e59.addG 17 (inlQ Tryz.prog Fs2e59 noL Tryz.f17)
theorem ok_Fs2e60:jao Tryz.prog Fs2e60:=jaq ok_Fs2e59 (jau ok_Fs2e59 hmix fn21 jai)
theorem fn32:Fn1 Tryz.prog 19 Tryz.f19:= .m Tryz.func19
def Fs2e61:Env:=Fs2e60.addG 19 (inlQ Tryz.prog Fs2e60 noL Tryz.f19)
theorem ok_Fs2e61:jao Tryz.prog Fs2e61:=jaq ok_Fs2e60 (jau ok_Fs2e60 hmix fn32 jai)
theorem fn48:Fn1 Tryz.prog 58 Tryz.f58:= .m Tryz.func58
def Fs2e62:Env:=Fs2e61.addG 58 (inlQ Tryz.prog Fs2e61 noL Tryz.f58)
theorem ok_Fs2e62:jao Tryz.prog Fs2e62:=jaq ok_Fs2e61 (jau ok_Fs2e61 hmix fn48 jai)
theorem fn52:Fn1 Tryz.prog 63 Tryz.f63:= .m Tryz.func63
def Fs2e63:Env:=Fs2e62.addG 63 (inlQ Tryz.prog Fs2e62 noL Tryz.f63)
theorem ok_Fs2e63:jao Tryz.prog Fs2e63:=jaq ok_Fs2e62 (jau ok_Fs2e62 hmix fn52 jai)
theorem fn79:Fn1 Tryz.prog 108 Tryz.f108:= .m Tryz.func108
def Fs2e64:Env:=Fs2e63.addG 108 (inlQ Tryz.prog Fs2e63 noL Tryz.f108)
theorem ok_Fs2e64:jao Tryz.prog Fs2e64:=jaq ok_Fs2e63 (jau ok_Fs2e63 hmix fn79 jai)
theorem fn81:Fn1 Tryz.prog 111 Tryz.f111:= .m Tryz.func111
def Fs2e65:Env:=Fs2e64.addG 111 (inlQ Tryz.prog Fs2e64 noL Tryz.f111)
theorem ok_Fs2e65:jao Tryz.prog Fs2e65:=jaq ok_Fs2e64 (jau ok_Fs2e64 hmix fn81 jai)
theorem fn82:Fn1 Tryz.prog 112 Tryz.f112:= .m Tryz.func112
def Fs2e66:Env:=Fs2e65.addG 112 (inlQ Tryz.prog Fs2e65 noL Tryz.f112)
theorem ok_Fs2e66:jao Tryz.prog Fs2e66:=jaq ok_Fs2e65 (jau ok_Fs2e65 hmix fn82 jai)
theorem fn83:Fn1 Tryz.prog 113 Tryz.f113:= .m Tryz.func113
def Fs2e67:Env:=Fs2e66.addG 113 (inlQ Tryz.prog Fs2e66 noL Tryz.f113)
theorem ok_Fs2e67:jao Tryz.prog Fs2e67:=jaq ok_Fs2e66 (jau ok_Fs2e66 hmix fn83 jai)
theorem fn51:Fn1 Tryz.prog 62 Tryz.f62:= .m Tryz.func62
def Fs2e68:Env:=Fs2e67.addG 62 (inlQ Tryz.prog Fs2e67 noL Tryz.f62)
theorem ok_Fs2e68:jao Tryz.prog Fs2e68:=jaq ok_Fs2e67 (jau ok_Fs2e67 hmix fn51 jai)
theorem fn49:Fn1 Tryz.prog 59 Tryz.f59:= .m Tryz.func59
def Fs2e69:Env:=Fs2e68.addG 59 (inlQ Tryz.prog Fs2e68 noL Tryz.f59)
theorem ok_Fs2e69:jao Tryz.prog Fs2e69:=jaq ok_Fs2e68 (jau ok_Fs2e68 hmix fn49 jai)
theorem fn19:Fn1 Tryz.prog 18 Tryz.f18:= .m Tryz.func18
def Fs2e70:Env:=Fs2e69.addG 18 (inlQ Tryz.prog Fs2e69 noL Tryz.f18)
theorem ok_Fs2e70:jao Tryz.prog Fs2e70:=jaq ok_Fs2e69 (jau ok_Fs2e69 hmix fn19 jai)
theorem fn25:Fn1 Tryz.prog 49 Tryz.f49:= .m Tryz.func49
def m25:List (U×Value):=[([.int .i64 5,.int .i64 2],.agg ⟨[.int .i64 1,.int .i64 5,.int .i64 2,.bool false,.string ⟨#[]⟩]⟩),([.int .i64 3,.int .i64 1],.agg ⟨[.int .i64 1,.int .i64 3,.int .i64 1,.bool false,.string ⟨#[]⟩]⟩),([.int .i64 4,.int .i64 2],.agg ⟨[.int .i64 1,.int .i64 4,.int .i64 2,.bool false,.string ⟨#[]⟩]⟩)]
theorem pk25:jal Tryz.prog 49 (memo m25):=jap [] ok_Fs2e70 hmix fn25 jai (by kernel_rfl) (by kernel_rfl)
def Fs2e71:Env:=Fs2e70.add 49 (memo m25)
theorem ok_Fs2e71:jao Tryz.prog Fs2e71:=jak ok_Fs2e70 pk25
theorem fn23:Fn1 Tryz.prog 43 Tryz.f43:= .m Tryz.func43
def m23:List (U×Value):=[([.int .i64 1],.agg ⟨[.int .i64 3,.int .i64 1,.int .i64 0,.bool false,.string ⟨#[]⟩]⟩),([.int .i64 2],.agg ⟨[.int .i64 3,.int .i64 2,.int .i64 0,.bool false,.string ⟨#[]⟩]⟩),([.int .i64 6],.agg ⟨[.int .i64 3,.int .i64 6,.int .i64 0,.bool false,.string ⟨#[]⟩]⟩)]
theorem pk23:jal Tryz.prog 43 (memo m23):=jap [] ok_Fs2e71 hmix fn23 jai (by kernel_rfl) (by kernel_rfl)
def Fs2e72:Env:=Fs2e71.add 43 (memo m23)
theorem ok_Fs2e72:jao Tryz.prog Fs2e72:=jak ok_Fs2e71 pk23
theorem fn26:Fn1 Tryz.prog 50 Tryz.f50:= .m Tryz.func50
def m26:List (U×Value):=[([.int .i64 2],.agg ⟨[.int .i64 4,.int .i64 2,.int .i64 0,.bool false,.string ⟨#[]⟩]⟩),([.int .i64 3],.agg ⟨[.int .i64 4,.int .i64 3,.int .i64 0,.bool false,.string ⟨#[]⟩]⟩)]
theorem pk26:jal Tryz.prog 50 (memo m26):=jap [] ok_Fs2e72 hmix fn26 jai (by kernel_rfl) (by kernel_rfl)
def Fs2e73:Env:=Fs2e72.add 50 (memo m26)
theorem ok_Fs2e73:jao Tryz.prog Fs2e73:=jak ok_Fs2e72 pk26
theorem fn6:Fn1 Tryz.prog 9 Tryz.f9:= .m Tryz.func9
def m6:List (U×Value):=[([],.bool true)]
theorem pk6:jal Tryz.prog 9 (memo m6):=jap [.app none 1 1 (.app (some 0) 2 1 (.app (some 0) 3 1 (.app (some 0) 4 1 (.app (some 0) 5 1 (.app none 1 1 (.app (some 0) 2 1 (.app (some 0) 3 1 (.app none 1 1 (.app (some 0) 2 1 (.le 0 (.app none 1 1 (.app (some 0) 2 1 (.app (some 0) 3 1 (.app none 1 4 (.app none 1 1 (.le 0 (.app none 1 1 (.app (some 0) 2 1 (.le 0 (.app none 1 1 (.app (some 0) 2 1 (.app (some 0) 3 1 (.app none 1 1 (.app (some 0) 2 1 (.le 0 (.app none 1 1 (.app (some 0) 2 1 (.app (some 0) 3 1 (.app none 1 1 (.app none 1 1 (.app none 1 4 (.both (.app (some 2) 2 1 (.app (some 0) 3 1 (.app (some 0) 4 1 (.app (some 0) 5 1 (.app (some 0) 6 1 (.app none 1 1 (.app none 1 4 (.both (.app (some 2) 7 1 (.app (some 0) 8 1 (.app (some 0) 9 1 (.app (some 0) 10 1 (.app (some 0) 11 1 (.app (some 0) 12 1 (.both (.le 0 .leaf) (.le 0 .leaf)))))))) (.app (some 2) 7 1 (.app (some 0) 8 1 (.app (some 0) 9 1 (.app (some 0) 10 1 (.app (some 0) 11 1 (.app (some 0) 12 1 (.both (.le 0 .leaf) (.le 0 .leaf)))))))))))))))) (.app (some 2) 2 1 (.app (some 0) 3 1 (.app (some 0) 4 1 (.app (some 0) 5 1 (.app (some 0) 6 1 (.app none 1 1 (.app none 1 4 (.both (.app (some 2) 7 1 (.app (some 0) 8 1 (.app (some 0) 9 1 (.app (some 0) 10 1 (.app (some 0) 11 1 (.app (some 0) 12 1 (.both (.le 0 .leaf) (.le 0 .leaf)))))))) (.app (some 2) 7 1 (.app (some 0) 8 1 (.app (some 0) 9 1 (.app (some 0) 10 1 (.app (some 0) 11 1 (.app (some 0) 12 1 (.both (.le 0 .leaf) (.le 0 .leaf))))))))))))))))))))))))))))))))))))))))))))))))] ok_Fs2e73 hmix fn6 jai (by kernel_rfl) (by kernel_rfl)
end Go.Cs
end
noncomputable section
set_option maxHeartbeats 3200000
set_option maxRecDepth 100000
namespace Go.Ff
open Go Go.Ab Go.Proofs Go.Shelf Go.Px Go.Cv Go.Cx
open Go.Fx (Ty Vl)
variable [Cs.MaxL] -- 3
/-- The tables and the variable. -/
instance (priority:=5000) tabsR:Tabs:={row:=Cs.rowsC,plain:=Cs.tabsC.plain}
theorem pureR{f:FuncId}{s:Ab.Spec}(h: @jal Cs.tabsC Tryz.prog f s): @jal tabsR Tryz.prog f s:=
 ⟨h.1,fun args v N w0 lk ι w hr hs hv=>h.2 args v N w0 lk ι w (@RelM.mk Cs.tabsC N w0 lk ι w hr.below hr.base hr.blk hr.view hr.inj) hs hv⟩
end Go.Ff
end
noncomputable section
set_option maxHeartbeats 3200000
set_option maxRecDepth 100000
namespace Go.Fl
open Go Go.Ab Go.Proofs Go.Shelf Go.Px Go.Cv Go.Cx Go.Ff Go.Fg Go.Fh
open Go.Fx (Ty Vl)
variable [Cs.MaxL] -- 4
theorem RelM.rToB{N:Nat}{w0:World}{m:Lk}{ι:Nm}{w:World}(h: @RelM tabsR N w0 m ι w): @RelM tabsB N w0 m ι w:=
 @RelM.mk tabsB N w0 m ι w h.below ⟨h.base.1,Cs.tabsIn_B h.base.2⟩ h.blk h.view h.inj
theorem RelM.bToR{N:Nat}{w0:World}{m:Lk}{ι:Nm}{w:World}(hb: @TabsIn tabsR N w0)(h: @RelM tabsB N w0 m ι w): @RelM tabsR N w0 m ι w:=
 @RelM.mk tabsR N w0 m ι w (@RelM.below tabsB N w0 m ι w h) ⟨(@RelM.base tabsB N w0 m ι w h).1,hb⟩ (@RelM.blk tabsB N w0 m ι w h) (@RelM.view tabsB N w0 m ι w h) (@RelM.inj tabsB N w0 m ι w h)
theorem jec{f:FuncId}{s:Ab.Spec}(h: @jal tabsB Tryz.prog f s): @jal tabsR Tryz.prog f s:=pureR (Cs.pureCB h)
theorem jj9{f:FuncId}{h:U→Lk→Nat→(Value→Lk→Nat→Prop)→Prop}(hg: @jda tabsB Tryz.prog f h): @jda tabsR Tryz.prog f h:=by
 obtain⟨h1,h2⟩:=hg;refine⟨h1,fun args m n K hh N w0 ι w hrel hwf hargs=> ?_⟩;exact(h2 args m n K hh N w0 ι w (RelM.rToB hrel) hwf hargs).mono fun e w' ⟨v,m',n',ι',h⟩=>⟨v,m',n',ι',h.1,h.2.1,h.2.2.1,h.2.2.2.1,RelM.bToR hrel.base.2 h.2.2.2.2.1,h.2.2.2.2.2⟩
def Y0:Env:=((((((((Env.nil.add 9 (memo Cs.m6)).add 22 K42.s11).add 24 K43.s12).add 46 s46).add 47 s14).add 31 (sp1 s31)).add 48 (sp1 s48)).addG 44 hItS).addG 45 hItS
def Y1:Env:=((((((((Env.nil.add 9 (memo Cs.m6)).add 22 K42.s11).add 24 K43.s12).add 46 s46).add 47 s14).add 31 (sp1 s31)).add 48 (sp1 s48)).addG 44 hItE).addG 45 hItE
theorem ok_Y0:jao Tryz.prog Y0:=jaq (jaq (jak (jak (jak (jak (jak (jak (jak ja7 (pureR Cs.pk6)) (jec K42.ok11)) (jec K43.ok12)) (jec ok46)) (jec ok14)) (jec ok31)) (jec ok48)) (Fg.gen_imp (jj9 gen13) itS_imp)) (Fg.gen_imp (jj9 gen45) itS_imp)
theorem ok_Y1:jao Tryz.prog Y1:=jaq (jaq (jak (jak (jak (jak (jak (jak (jak ja7 (pureR Cs.pk6)) (jec K42.ok11)) (jec K43.ok12)) (jec ok46)) (jec ok14)) (jec ok31)) (jec ok48)) (Fg.gen_imp (jj9 gen13) itE_imp)) (Fg.gen_imp (jj9 gen45) itE_imp)
def li(f:Bool)(a:U)(b c e:Nat)(g:Prop)(d:Value→Prop):Prop:=bif Fg.foOK a b c&&true then bif !(decide ((c:Int)≤40) && !(Fg.foA a b c).any Fg.jdw)then d (.bool true)else bif Fg.foOK a b c&& (decide (c≤1000000∧c≤e) &&f)then g else False else False
def lj(d e f:Bool)(a:U)(b c:Nat)(g:Value→Prop):Prop:=bif Fg.foOK a b c&&true&& (Fg.foOK a b c&&true&& (ib a c b !=ib a c b || d))then bif ib a c b !=ib a c b || (!e || f)then g (.bool false)else bif natO c==0 then g (.bool true)else b4 (Fg.K42.d9 0 a b) 0 c (dl (cw 0 c) (jb7 a (b+Fg.K42.cm 0+1+1+1)) (bif Fg.K42.d9 0 a b then bif aw (jb7 a (b+Fg.K42.cm 0+1+1+1))then az ((Fl.weO (Fg.K42.fk 0 a b)).fst==(Fl.weO (Fg.K42.fk 0 a b)).fst || true) (.bool ((Fl.weO (Fg.K42.fk 0 a b)).fst==(Fl.weO (Fg.K42.fk 0 a b)).fst&& (Fl.weO (Fg.K42.fk 0 a b)).snd==(Fl.weO (Fg.K42.fk 0 a b)).snd)) g else False else False) False)else False
theorem w7(c:U)(ty:Nat)(off:Nat)(n:Nat)(cap:Nat)(i:Int)(R:Value→Prop):(ja4 Tryz.prog Y0 noL Tryz.f7 [.slice (some ⟨0,off,some 1⟩) n cap,I i] (vw c ty) 2 (fun v _ _=>R v))=(li (Fg.okIt (Fg.foA c off n) i) c off n cap (∀a:List Ff.Fo,∀b:Nat,∀d:Nat,∀e:U,Fg.ItIs (Fg.foA c off n) i a→a.length=b→ja1 e d b 4=true→(bif Fg.foOK c off n&& (decide (n≤1000000∧n≤cap) &&Fg.okIt (Fg.foA c off n) i)then∀f:List Ff.Fo,∀g:Nat,∀h:Nat,∀j:U,Fg.ItIs (Fg.foA c off n) i f→f.length=g→ja1 j h g 4=true→lj (Fg.foOK (Fg.fcL a++e) 0 b&& (Fg.foOK (Fg.fcL f++j) 0 g&&decide (b≤1000000∧g≤1000000)) && (!(decide ((b:Int)=(g:Int)) &&Fg.eqV (Fg.fcL a++e) 0 (Fg.fcL f++j) 0 b 0) || true)) (decide ((b:Int)=(g:Int)) &&Fg.eqV (Fg.fcL a++e) 0 (Fg.fcL f++j) 0 b 0) (0 !=0) c off n R else False)) R):=by kernel_rfl
theorem w7e(c:U)(ty:Nat)(off:Nat)(n:Nat)(cap:Nat)(i:Int)(R:Value→Prop):(ja4 Tryz.prog Y1 noL Tryz.f7 [.slice (some ⟨0,off,some 1⟩) n cap,I i] (vw c ty) 2 (fun v _ _=>R v))=(li (!Fg.okIt (Fg.foA c off n) i) c off n cap (∀a:Int,Fg.ItE (Fg.foA c off n) i a→a≠0→(bif Fg.foOK c off n&& (decide (n≤1000000∧n≤cap) && !Fg.okIt (Fg.foA c off n) i)then∀b:Int,Fg.ItE (Fg.foA c off n) i b→b≠0→lj true true (a !=b) c off n R else False)) R):=by kernel_rfl
theorem w7n(i:Int)(R:Value→Prop):(ja4 Tryz.prog Y1 noL Tryz.f7 [.slice none 0 0,I i] (fun _=>none) 2 (fun v _ _=>R v))=(bif natO 0==0 then R (B true)else False):=by kernel_rfl
end Go.Fl
end
noncomputable section
set_option maxHeartbeats 6400000
set_option maxRecDepth 100000
namespace Go.Fl
open Go Go.Ab Go.Proofs Go.Shelf Go.Px Go.Cv Go.Cx Go.Ff Go.Fg Go.Fh
variable [Cs.MaxL] -- 4
theorem w7n_ok{i:Int}:ja4 Tryz.prog Y1 noL Tryz.f7 [.slice none 0 0,I i] (fun _=>none) 2 (fun v _ _=>v=B true):=by
 rw[w7n i (fun v=>v=B true),ja3];rfl
theorem jim(x:Int):(x !=x)=false:=by simp
theorem fo_first{c:U}{off n:Nat}(h:foOK c off n=true)(hn:0<n):
  (jam .i64 c (off+Int.toNat 0*4) && (jam .i64 c (off+Int.toNat 0*4+1) && (jam .i64 c (off+Int.toNat 0*4+1+1) && (jbp c (off+Int.toNat 0*4+1+1+1) &&true))))=true∧
  (jb7 c (off+Int.toNat 0*4+1+1+1)).size≤9223372036854775807:=by
 obtain⟨hl,_,hat⟩:=jcj h;obtain⟨f',hf',hs,q1,q2,q3,q4,e1,e2,e3,e4⟩:=hat (Int.toNat 0) hn;exact⟨by rw[q1,q2,q3,q4];rfl,by rw[e4];exact hs⟩
theorem own_ok{o:List Fo}{q cap:Nat}{tail:U}(ho:∀f∈o,f.s.size≤9223372036854775807)(hq:o.length=q)(ht:ja1 tail cap q 4=true):foOK (fcL o++tail) 0 q=true∧foA (fcL o++tail) 0 q=o:=by
 subst hq;obtain⟨u1,_⟩:=jch ht;exact⟨foOK_own u1 ho,foA_own o tail⟩
theorem it_mem{L:List Fo}{i:Nat}{f:Fo}(h:f∈itL isD L i):f∈L:=by
 have e:=jdq isD L;unfold itL at h;rw[←e];rcases List.mem_append.1 h with h | h
 ·split at h
  ·exact List.mem_append_right _ h
  ·cases h
 ·refine List.mem_append_left _ (List.mem_flatten.2 ⟨_,?_,h⟩);rw[List.getD_eq_getElem?_getD]at h ⊢;cases hq:(grp isD L).1[i%(grp isD L).1.length]? with
  | none=>rw[hq]at h;cases h
  | some g=>exact List.mem_of_getElem? hq
theorem it_le{L:List Fo}{i:Nat}:(itL isD L i).length≤2*L.length:=by
 have h9:=congrArg List.length (jdq isD L);rw[List.length_append]at h9
 have h2:((grp isD L).1.getD (i%(grp isD L).1.length) []).length≤(grp isD L).1.flatten.length:=by
  rw[List.getD_eq_getElem?_getD];cases hq:(grp isD L).1[i%(grp isD L).1.length]? with
  | none=>simp
  | some g=>exact(List.sublist_flatten_of_mem (List.mem_of_getElem? hq)).length_le
 unfold itL;rw[List.length_append];split
 ·omega
 ·simp only[List.length_nil];omega
theorem w7_ok{c:U}{ty off n cap:Nat}{i:Int}(ho:foOK c off n=true)(hc:n≤cap)(he:eIt (foA c off n) i=0):
  ja4 Tryz.prog Y0 noL Tryz.f7 [.slice (some ⟨0,off,some 1⟩) n cap,I i] (vw c ty) 2 (fun v _ _=>v=B true):=by
 obtain⟨hl,hpl,hat⟩:=jcj ho;have hsz:=(jfm.1 ho).2.2.2;rw[w7 c ty off n cap i (fun v=>v=B true)];delta li cw b4 aw dl az Fg.K42.cm Fg.K42.dx Fg.K42.fk Fg.K42.gu Fg.K42.d9 al ib lj;rw[ja3,ho,jim];refine c_t rfl (cond_intro (fun _=>rfl) (fun h=> ?_))
 have hn:n≤40:=by
  simp only[Bool.not_eq_false',jaf,jae]at h;omega
 rw[jhl,he,jaa (show n≤1000000∧n≤cap by omega)];refine c_t rfl fun o q cap1 tail hi hq ht=>c_t rfl fun o' q' cap2 tail' hi' hq' ht'=> ?_
 obtain rfl:=hi.eq;obtain rfl:=hi'.eq;have hm:∀f∈itL isD (foA c off n) i.toNat,f.s.size≤9223372036854775807:=fun f hf=>hsz f (it_mem hf)
 obtain⟨g1,g2⟩:=own_ok hm hq ht;obtain⟨g1',g2'⟩:=own_ok hm hq' ht';have hle:=it_le (L:=foA c off n) (i:=i.toNat);have hqq:q'=q:=by omega
 subst hqq
 have heq:Fg.eqV (fcL (itL isD (foA c off n) i.toNat)++tail) 0 (fcL (itL isD (foA c off n) i.toNat)++tail') 0 q' 0=true:=by
  rw[Fg.eqV,g2,g2'];exact foEq_iff.2 rfl
 rw[g1,g1',heq,jaa (show q'≤1000000∧q'≤1000000 by omega),jaa (rfl:(q':Int)=q')];refine c_t rfl (c_f rfl (cond_intro (fun _=>rfl) (fun h0=> ?_)))
 have h0:0<n:=by
  simp only[beq_eq_false_iff_ne]at h0;omega
 obtain⟨f1,f2⟩:=fo_first ho h0;rw[jaa (show(0:Int)≤0∧0<(n:Int)by omega),f1,jaa f2];simp
theorem w7e_ok{c:U}{ty off n cap:Nat}{i:Int}(ho:foOK c off n=true)(hc:n≤cap)(he:eIt (foA c off n) i≠0):
  ja4 Tryz.prog Y1 noL Tryz.f7 [.slice (some ⟨0,off,some 1⟩) n cap,I i] (vw c ty) 2 (fun v _ _=>v=B true):=by
 obtain⟨hl,hpl,hat⟩:=jcj ho;rw[w7e c ty off n cap i (fun v=>v=B true)];delta li cw b4 aw dl az Fg.K42.cm Fg.K42.dx Fg.K42.fk Fg.K42.gu Fg.K42.d9 al ib lj;rw[ja3,ho,jim];refine c_t rfl (cond_intro (fun _=>rfl) (fun h=> ?_))
 have hn:n≤40:=by
  simp only[Bool.not_eq_false',jaf,jae]at h;omega
 rw[jhl,jad he,jaa (show n≤1000000∧n≤cap by omega)];refine c_t rfl fun e hi hne=>c_t rfl fun e' hi' hne'=> ?_
 obtain rfl:=hi.eq;obtain rfl:=hi'.eq;rw[jim];refine c_t rfl (c_f rfl (cond_intro (fun _=>rfl) (fun h0=> ?_)))
 have h0:0<n:=by
  simp only[beq_eq_false_iff_ne]at h0;omega
 obtain⟨f1,f2⟩:=fo_first ho h0;rw[jaa (show(0:Int)≤0∧0<(n:Int)by omega),f1,jaa f2];simp
end Go.Fl
end
noncomputable section
namespace Go.Px
open Go Go.Ab Go.Proofs Go.Shelf Go.ChangeMaps Go.ChangeShapes Go.WideShapes Go.ChangeAt Go.RowKit Go.Joins
open Go.Proofs.YtiahilhlpmohoaaGreatDoor
theorem maxlen_of{W:World}(h:W.ShapedOpen Tryz.prog):1<W.heap.size∧ ∃m ty fr,W.heap[1]?=some (.cells ⟨[.int .i64 m]⟩ ty fr):=by
 have h0:((begin Tryz.prog (fun _ _=>0) default).world.heap[1]?).bind Obj.row?=some (#[.int .i64 0],3):=by kernel_rfl
 have hg:1<Tryz.prog.globals.size:=jag;obtain⟨m,hm⟩:=cell_of_shapedOpen_int h hg h0 rfl (by kernel_rfl) (by kernel_rfl) Tryz.underlying3;obtain⟨cs,hh,hs,_⟩:=h.1 1 _ 3 hg h0;refine⟨(Array.getElem?_eq_some_iff.1 hh).1,m,3,(0,0),?_⟩;have h1:cs.size=1:=hs
 obtain⟨c0,rfl⟩:∃c0,cs= #[c0]:=by
  obtain⟨l⟩:=cs
  match l,h1 with
  | [c0],_=>exact⟨c0,rfl⟩
 rw[World.cell?,hh]at hm;have:c0= .int .i64 m:=by simpa using hm
 rw[hh,this]
theorem tabsR_of [Cs.MaxL]{W:World}{ty:TypeId}{fr:Nat×Nat}(h: @TabsIn tabs W.heap.size W)(h1:1<W.heap.size)(hm:W.heap[1]?=some (.cells ⟨[.int .i64 Cs.MaxL.mx]⟩ ty fr)): @TabsIn Ff.tabsR W.heap.size W:=by
 intro b r hb;have hb:Cs.rowsC b=some r:=hb;unfold Cs.rowsC at hb;split at hb
 ·rename_i q;cases hb;obtain rfl:=jah q;exact⟨h1,ty,fr,hm⟩
 ·exact h b r hb
theorem handed_shaped{H:Type}{enc:TypeId×Value→H}{a:Assume}{C:Checked}{os:Os}{f:FuncId}{fn:Func}{s:ChangeSpec}{conds:List PathCond}{apart fresh handsOn again:Bool}{X:World→Array Value→Prop}
  (hX:∀(w w':World)(args:Array Value),w.heap=w'.heap→X w args→X w' args)
  (own:ownKnob C.prog.godebug=none) (started:os.Started) (noInit:C.prog.inits.idxOf? f=none) (hfn:C.prog.funcs[f]?=some fn)
  (witness : ∃ (w : World) (tape : Tape) (i : Input), w.os = os ∧ (w.forCall tape i).Shaped C.prog ∧ i.vars = [] ∧ Input.okWide C.prog (w.forCall tape i) .any w.heap.size f i ∧
   ((s.pre enc C.prog fn conds apart (w.forCall tape i).memory i.args∧X (w.forCall tape i).memory i.args)∧sizedMet enc C.prog fn (OpenSpec.ofChange s) apart (w.forCall tape i).memory i.args)∧a.holds C.prog (lone (Frame.enter C.prog f i.args .normal) [] (w.forCall tape i)))
  (contract : ∀ (W : World) (base : Nat) (args : Array Value) (ds gs : List (DataW H)) (before : List MemPlace),
   (∀(j:Nat) t v,fn.params[j]?=some t→args[j]?=some v→Value.okWide C.prog W .any base t v)→
   DataW.Whole enc C.prog fn.params.toList s.vars apart W args.toList ds gs before→W.ShapedOpen C.prog→X W args→
   Calls C.prog f args W fun e W'=>∃v,e= .returned v∧s.post enc C.prog fn apart fresh handsOn again W args v W'):
  ReturnsInHanded a C os f .any (fun w args=>(s.pre enc C.prog fn conds apart w args∧X w args)∧sizedMet enc C.prog fn (OpenSpec.ofChange s) apart w args) (s.post enc C.prog fn apart fresh handsOn again):=by
 refine returnsInHanded_of_calls own started noInit witness ?_;intro w tape i _ hsh _ hok hpre _;obtain⟨_,_,_,fn',hfn',_,_,_,_,hval⟩:=hok;have e:fn'=fn:=Option.some.inj (hfn'.symm.trans hfn);subst e;obtain⟨⟨⟨ds,gs,before,hw,_⟩,hx⟩,_⟩:=hpre;have hw':=DataW.Whole.of_heap (w':=w.forCall tape i) (by rfl) hw;refine(contract (w.forCall tape i) w.heap.size i.args ds gs before hval hw' hsh (hX _ _ _ (by rfl) hx)).mono fun e W' ⟨v,he,hp⟩=> ?_
 subst he;exact ChangeSpec.post_blind hp
end Go.Px
end
noncomputable section
namespace Go.Px
open Go Go.Ab Go.Proofs Go.Shelf Go.Cx Go.RowKit Go.Ff Go.Fg Go.Fl
theorem ren_I(a:Int)(ι:Nm):ren ι (I a)=I a:=ja2 _ rfl
theorem ids_I(a:Int):ids (I a)=[]:=jba rfl
theorem vwF_lk{w:World}{b off:Nat}{c:U}{ty:TypeId}(hb:b<w.heap.size)(hc:∀i x,c[i]?=some x→w.cell? ⟨b,off+i,none⟩=some x∧plain x=true):
  ∀k bl,vw c ty k=some bl→k<2∧bl.own=false∧jav bl.c=true∧(((fun _=>(b,off)):Nm) k).1<w.heap.size∧ ∀i v,bl.c[i]?=some v→w.cell? ⟨(((fun _=>(b,off)):Nm) k).1,(((fun _=>(b,off)):Nm) k).2+i,none⟩=some v:=by
 intro k bl hk;obtain⟨rfl,rfl⟩:=vw_get hk;refine⟨by omega,rfl,jay.2 fun v hv=> ?_,hb,fun i v hv=>(hc i v hv).1⟩;obtain⟨i,hi⟩:=List.getElem?_of_mem hv;exact(hc i v hi).2
section
variable [Cs.MaxL] {W : World} -- 4
theorem fn7:Fn1 Tryz.prog 7 Tryz.f7:= .m Tryz.func7
theorem at7{G:Env}(hG: @jao tabsR Tryz.prog G)(ht: @TabsIn tabsR W.heap.size W)(i:Int){b off n cap:Nat}{c:U}(hb:b<W.heap.size)(hc:∀i x,c[i]?=some x→W.cell? ⟨b,off+i,none⟩=some x∧plain x=true)
  (h: @ja4 tabsR Tryz.prog G noL Tryz.f7 [.slice (some ⟨0,0,some 1⟩) n cap,I i] (vw c 48) 2 (fun v _ _=>v=B true)):
  Calls Tryz.prog 7 [.slice (some ⟨b,off,none⟩) n cap,I i].toArray W fun e w'=>e= .returned (.bool true)∧Below W.heap.size W w':=by
 have q:= @calls_top tabsR Tryz.prog G noL 7 Tryz.f7 hG hmix fn7 jai [.slice (some ⟨0,0,some 1⟩) n cap,I i] (vw c 48) (B true) jag (by rw[jkd];with_reducible exact h) rfl W (fun _=>(b,off)) ht (vwF_lk hb hc)
  (fun v hv j hj=>by simp only[List.mem_cons,List.not_mem_nil,or_false]at hv;rcases hv with rfl | rfl<;>first | (rw[ids_I]at hj;cases hj) | (simp[ids]at hj;omega))
 have e:([.slice (some ⟨0,0,some 1⟩) n cap,I i].map (ren fun _=>(b,off))).toArray=[.slice (some ⟨b,off,none⟩) n cap,I i].toArray:=by
  simp only[List.map_cons,List.map_nil,ren_I];simp[ren,ren1]
 rw[e]at q;exact q
theorem key7(ht: @TabsIn tabsR W.heap.size W)(i:Int){v:Value}(hv:SlF W v):Calls Tryz.prog 7 [v,I i].toArray W fun e w'=>e= .returned (.bool true)∧Below W.heap.size W w':=by
 rcases hv with rfl | ⟨b,off,cap,l,rfl,hb,hlc,hs,hcell⟩
 ·have q:= @calls_top tabsR Tryz.prog Y1 noL 7 Tryz.f7 ok_Y1 hmix fn7 jai [.slice none 0 0,I i] (fun _=>none) (B true) jag (by rw[jkd];with_reducible exact w7n_ok) rfl W (fun _=>(0,0)) ht (fun _ _ h=>by cases h)
   (fun v hv j hj=>by simp only[List.mem_cons,List.not_mem_nil,or_false]at hv;rcases hv with rfl | rfl<;>first | (rw[ids_I]at hj;cases hj) | (simp[ids]at hj))
  have e:([.slice none 0 0,I i].map (ren fun _=>(0,0))).toArray=[.slice none 0 0,I i].toArray:=by
   simp only[List.map_cons,List.map_nil,ren_I];simp[ren]
  rw[e]at q;exact q
 ·have ho:foOK (fcL l) 0 l.length=true:=by
   have:=foOK_own (l:=l) (r:=[]) rfl hs;rwa [List.append_nil]at this
  by_cases he:eIt (foA (fcL l) 0 l.length) i=0
  ·exact at7 ok_Y0 ht i hb hcell (w7_ok ho hlc he)
  ·exact at7 ok_Y1 ht i hb hcell (w7e_ok ho hlc he)
end
end Go.Px
end
section

end
