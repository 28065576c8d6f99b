/-
  Part 3: the run and laws.
-/
import Derived.Test.YtiahilhlpmohoaaGreatDoorS12
set_option linter.unusedVariables false
set_option linter.unusedSimpArgs false
set_option linter.unusedSectionVars false
noncomputable section
namespace Go.Px
open Go Go.Ab Go.Proofs Go.Shelf
theorem ro_cases{b pre r:O}{c d f:Int}(h:DrP b d f)(hb:b=pre++c::r):
  ((pre.length:Int)=f∧c=d∧d≠0∧(roP d f c pre.length=4∨roP d f c pre.length=5))∨
  ((pre.length : Int) ≠ f ∧ (roP d f c pre.length = 0 ∨ roP d f c pre.length = 1 ∨ roP d f c pre.length = 2 ∨ roP d f c pre.length = 3 ∨
   (c≠d∧(roP d f c pre.length=4∧(c=83∨c=43∨c=45)∨roP d f c pre.length=5∧c=36)))):=by
 have he:=h.eq hb;have hc0:=h.zero c (by rw[hb];simp);by_cases hf:(pre.length:Int)=f
 ·obtain⟨h1,h2⟩:=he.2.1 hf;have hd:d≠0:=by rw[←h1];exact hc0
  refine .inl ⟨hf,h1,hd,?_⟩
  have hm:d=36∨d=83∨d=43∨d=45:=by
   rcases h.at_ with⟨q,_⟩ | ⟨_,_,_,q⟩
   ·exact absurd q hd
   ·simpa using q
  have hne:((pre.length:Int) !=f)=false:=by simpa using hf
  unfold roP;rw[hne,h1];rcases hm with rfl | rfl | rfl | rfl<;>simp[hasZ]
 ·refine .inr ⟨hf,?_⟩;have hne:((pre.length:Int) !=f)=true:=by simpa using hf
  unfold roP;rw[hne,Bool.and_true];cases q1:hasZ [57,89,84,73,82] c with
  | true=>exact .inl rfl
  | false=>
   cases q2:(c==90 || (c==42 || c==d))with
   | true=>exact .inr (.inl rfl)
   | false=>
    have hcd:c≠d:=fun e=>by rw[e]at q2;simp at q2
    cases q3:c==86 with
    | true=>exact .inr (.inr (.inl rfl))
    | false=>
     cases q4:c==36 with
     | true=>exact .inr (.inr (.inr (.inr ⟨hcd,.inr ⟨rfl,by simpa using q4⟩⟩)))
     | false=>
      cases q5:(c==83 || (c==43 || c==45))with
      | true=>exact .inr (.inr (.inr (.inr ⟨hcd,.inl ⟨rfl,by simpa using q5⟩⟩)))
      | false=>exact .inr (.inr (.inr (.inl rfl)))
theorem sg_eq{c:Int}{m:Bool}(h:c=83∨c=43∨c=45):sgC c m=sgZ c m:=by
 rcases h with rfl | rfl | rfl<;>cases m<;>rfl
theorem wr_body{b t:O}{d f n ld fl dr':Int}{cr mi:Bool}(h:DrP b d f)(hdr:d≠0→dr'=d∧fl=32)(hdr0:d=0→dr'=0)(hn:n=b.length+(bif cr then 2 else 0)):
  ∀(r pre ds:O)(a:Int)(X:O→O→Int→O)(rs' ms':O),b=pre++r→
   (∀ds a,wrGo f cr n mi ld fl rs' t ds b.length a=fdGo ld fl dr' mi ms' t ds a)→
   wrGo f cr n mi ld fl (jbl d f r pre.length++rs') (r++t) ds pre.length a=fdGo ld fl dr' mi ((jbl d f r pre.length).map rmk++ms') (r++t) ds a
 | [],pre,ds,a,X,rs',ms',hb,ht=>by
  rw[KA]at hb;rw[←hb];exact ht ds a
 | c::r,pre,ds,a,X,rs',ms',hb,ht=>by
  have ih:=fun ds a=>wr_body h hdr hdr0 hn r (pre++ [c]) ds a X rs' ms' (by rw[hb];simp) ht
  have e:((pre++ [c]).length:Int)=pre.length+1:=by simp
  rw[e]at ih
  have hcr:(cr&&decide ((pre.length:Int)≥n-2))=false:=by
   cases cr with
   | false=>rfl
   | true=>
    have:(b.length:Int)=pre.length+(r.length+1):=by rw[hb];simp
    rw[Bool.true_and,decide_eq_false_iff_not];simp only[cond_true]at hn;omega
  rw[jbl,List.cons_append,List.cons_append,List.map_cons,List.cons_append,wrGo,fdGo];simp only[List.headD_cons,List.tail_cons];rcases ro_cases h hb with⟨h1,h2,h3,h4⟩ | ⟨h1,h4⟩
  ·obtain⟨g1,g2⟩:=hdr h3;have hf:((pre.length:Int)==f)=true:=by simpa using h1
   have e1:wrC f cr n mi ld fl (roP d f c pre.length) c (ds.headD 0) pre.length a=32:=by rw[wrC,hf,cond_true,g2]
   have e2:wrT f cr n (roP d f c pre.length) pre.length=false:=by rw[wrT,hf];rfl
   have e3:ssZ c dr' mi=32:=by
    rw[ssZ,g1,h2];have:(d !=0&&d==d)=true:=by simp[h3]
    rw[this];rfl
   rw[e1,e2,e3,ih,ih];rcases h4 with h4 | h4<;>rw[h4] <;>rfl
  ·have hf:((pre.length:Int)==f)=false:=by simpa using h1
   rcases h4 with h4 | h4 | h4 | h4 | ⟨h5,h4⟩
   ·rw[h4];have e1:wrC f cr n mi ld fl 0 c (ds.headD 0) pre.length a=fmZ c (ds.headD 0) mi:=by rw[wrC,hf,hcr];rfl
    have e2:wrT f cr n 0 pre.length=true:=by rw[wrT,hf,hcr];rfl
    rw[e1,e2,ih,ih];rfl
   ·rw[h4];have e1:wrC f cr n mi ld fl 1 c (ds.headD 0) pre.length a=bif decide (a<ld)then fl else ds.headD 0:=by rw[wrC,hf,hcr];rfl
    have e2:wrT f cr n 1 pre.length=true:=by rw[wrT,hf,hcr];rfl
    rw[e1,e2,ih,ih];rfl
   ·rw[h4,ih];rfl
   ·rw[h4];have e1:wrC f cr n mi ld fl 3 c (ds.headD 0) pre.length a=bif c==66 then 32 else bif decide (a<ld)then fl else c:=by rw[wrC,hf,hcr];rfl
    have e2:wrT f cr n 3 pre.length=false:=by rw[wrT,hf,hcr];rfl
    rw[e1,e2,ih,ih];rfl
   ·have hss:ssZ c dr' mi=bif hasZ [67,82,68,66] c then(bif mi then c else 32)else sgZ c mi:=by
     have:(dr' !=0&&c==dr')=false:=by
      by_cases hd:d=0
      ·rw[hdr0 hd];rfl
      ·rw[(hdr hd).1];have:(c==d)=false:=by simpa using h5
       rw[this,Bool.and_false]
     rw[ssZ,this];rfl
    rcases h4 with⟨h4,h6⟩ | ⟨h4,h6⟩
    ·rw[h4];have e1:wrC f cr n mi ld fl 4 c (ds.headD 0) pre.length a=sgC c mi:=by rw[wrC,hf,hcr];rfl
     have e2:wrT f cr n 4 pre.length=false:=by rw[wrT,hf,hcr];rfl
     have e3:ssZ c dr' mi=sgC c mi:=by
      rw[hss,sg_eq h6];rcases h6 with rfl | rfl | rfl<;>rfl
     rw[e1,e2,ih,ih,←e3];rfl
    ·rw[h4];have e1:wrC f cr n mi ld fl 5 c (ds.headD 0) pre.length a=c:=by rw[wrC,hf,hcr];rfl
     have e2:wrT f cr n 5 pre.length=false:=by rw[wrT,hf,hcr];rfl
     have e3:ssZ c dr' mi=c:=by rw[hss,h6];rfl
     rw[e1,e2,ih,ih];show c::_=(ssZ c dr' mi::_)
     rw[e3];rfl
theorem mk_99a{d:Int}(hd:d≠0)(h4:d∈ [36,83,43,(45:Int)]):∀r:O,d∈r→99∈mkGo d true r
 | c::r,h=>by
  rw[mkGo];have hs:∀y:Bool,mkGo d (true || y) r=mkGo d true r:=fun y=>by rw[Bool.true_or]
  rw[hs];rcases Kg.1 h with e | h
  ·subst e
   have:mk1 d true d=99:=by
    have:d=36∨d=83∨d=43∨d=45:=by simpa using h4
    rcases this with rfl | rfl | rfl | rfl<;>rfl
   rw[this];exact Kh
  ·exact Kj _ (mk_99a hd h4 r h)
theorem mk_99{d:Int}(hd:d≠0)(h4:d∈ [36,83,43,(45:Int)]):∀(r:O)(seen:Bool),¬(cntZ r d:Int)<2→99∈mkGo d seen r
 | [],_,h=>by simp[cntZ]at h
 | c::r,seen,h=>by
  rw[mkGo];rw[jdn]at h;by_cases e:c=d
  ·subst e;rw[Kd rfl]at h
   have hs:(seen || (c !=0&&c==c))=true:=by
    have:(c !=0)=true:=by simpa using hd
    rw[this];simp
   rw[hs];refine Kj _ (mk_99a hd h4 r ?_);have:(cntZ r c:Int)>0:=by omega
   exact jbj.1 (cnt_has.symm.trans (jaa this))
  ·rw[Kc e]at h;exact Kj _ (mk_99 hd h4 r _ (by omega))
theorem wr_2(f n:Int)(mi:Bool)(ld fl x y:Int)(ds:O)(i a:Int):∃D,wrGo f true n mi ld fl [4,4] [x,y] ds i a=[wrC f true n mi ld fl 4 x (ds.headD 0) i a,wrC f true n mi ld fl 4 y D (i+1) (a+1)]:=⟨_,rfl⟩
theorem fd_2(le fl dr:Int)(mi:Bool)(x y:Int)(ds:O)(a:Int):fdGo le fl dr mi [115,115] [x,y] ds a=[ssZ x dr mi,ssZ y dr mi]:=rfl
theorem jjl(c:Int):∀k:Nat,repZ [c] k=rep1 c k
 | 0=>rfl
 | k+1=>by rw[repZ,jjl c k];rfl
theorem dr_facts{s:O}(h:NumP s):(drZ (jam s)≠0→fdDr s=drZ (jam s)∧fdFl s=32)∧(drZ (jam s)=0→fdDr s=0):=by
 have e:=dr_body s;constructor
 ·intro hd;have hld:=h.ld;unfold jdw at hld
  have h1:((hasZ (jam s) 90 || hasZ (jam s) 42) &&drZ (jam s) !=0)=false:=by
   revert hld;cases hasZ (jam s) 90&&hasZ (jam s) 42
   ·cases(hasZ (jam s) 90 || hasZ (jam s) 42) &&drZ (jam s) !=0
    ·exact fun _=>rfl
    ·intro q;cases q
   ·intro q;cases q
  have hdn:(drZ (jam s) !=0)=true:=by simpa using hd
  rw[hdn,Bool.and_true,Kr]at h1;obtain⟨t,ht,hc⟩:=je9 s
  have ha:∀c:Int,(c=90∨c=42)→hasZ (jam s) c=false→hasZ s c=false:=fun c h0 h1=>by
   have:hasZ s c=hasZ (jam s++t) c:=congrArg (hasZ · c) ht;rw[this];unfold hasZ at h1 ⊢;rw[List.any_append,h1,Bool.false_or];rcases hc with⟨rfl,_⟩ | ⟨rfl | rfl,_⟩ <;>rcases h0 with rfl | rfl<;>rfl
  have a1:=ha 90 (.inl rfl) h1.1;have a2:=ha 42 (.inr rfl) h1.2;obtain⟨f1,f2⟩:=(jgv (jam s) (jam s)).resolve_left hd;obtain⟨f3,f4⟩:=jg6 f1
  have h9:hasZ (jaq s) 99=true:=jbj.2 (by
   unfold jaq;exact List.mem_append_left _ (mk_99 hd f3 _ _ f4))
  rw[fdDr,fdFl,a1,a2,h9,e];exact⟨rfl,rfl⟩
 ·intro hd;rw[fdDr,e,hd];cases !hasZ s 90&& (!hasZ s 42&&hasZ (jaq s) 99) <;>rfl
theorem fdLe_nn{sp:O}{w:Int}{k:Nat}{n:Int}(hw:0≤w):0≤fdLe sp w k n:=by
 rw[fdLe,endZ];have:=(jma (jaq sp) (digZ n.natAbs k) 0).1;cases !hasZ (jaq sp) 99
 ·cases !hasZ (jaq sp) 100&&decide (digZ n.natAbs k=rep1 48 k)
  ·exact this
  ·exact hw
 ·exact KH 0
theorem out_law{l:O}(h:pN l=true)(ds:O)(ld:Int)(mi:Bool):
  wrGo (nD (jam (pS l))).2.2 (crZ (pS l)) (pS l).length mi ld (fdFl (pS l)) (rolF (pS l)) (pS l) ds 0 0=fdGo ld (fdFl (pS l)) (fdDr (pS l)) mi (jaq (pS l)) (pS l) ds 0:=by
 obtain⟨h1,h2,h3⟩:=jgk h;have hv:=jdg h;have hS:pS l=exZ l:=by rw[pS,Kd hv]
 have hnp:NumP (pS l):=by rw[hS];exact jh9 h
 obtain⟨d1,d2⟩:=dr_facts hnp;obtain⟨t,ht,hc⟩:=je9 (pS l);have hP:=h1.drP
 have hfl:(nD (jam (pS l))).2.2<(jam (pS l)).length:=by
  rcases hP.at_ with⟨_,q⟩ | ⟨_,q1,q2,_⟩
  ·rw[q];omega
  ·rw[q2];exact(jf8 _ q1).2
 have hdr':fdDr (pS l)≠67∧fdDr (pS l)≠82∧fdDr (pS l)≠68∧fdDr (pS l)≠66:=by
  by_cases q:drZ (jam (pS l))=0
  ·rw[d2 q];decide
  ·rw[(d1 q).1];rcases hP.at_ with⟨q1,_⟩ | ⟨_,_,_,q4⟩
   ·exact absurd q1 q
   ·have:drZ (jam (pS l))=36∨drZ (jam (pS l))=83∨drZ (jam (pS l))=43∨drZ (jam (pS l))=45:=by simpa using q4
    omega
 have hlen:((pS l).length:Int)=(jam (pS l)).length+(bif crZ (pS l)then 2 else 0):=by
  have:=congrArg List.length ht;rw[Kk]at this;rcases hc with⟨rfl,hc⟩ | ⟨rfl | rfl,hc⟩ <;>rw[hc] <;>simp at this ⊢ <;>omega
 have hrol:rolF (pS l)=jbl (drZ (jam (pS l))) (nD (jam (pS l))).2.2 (jam (pS l)) 0++(bif crZ (pS l)then [4,4]else []):=by
  rw[rolF,nR,h1.d]
 have hmk:jaq (pS l)=(jbl (drZ (jam (pS l))) (nD (jam (pS l))).2.2 (jam (pS l)) 0).map rmk++(bif crZ (pS l)then [115,115]else []):=by
  rw[←h3,hrol,List.map_append];congr 1;cases crZ (pS l) <;>rfl
 have key:=wr_body (t:=t) (n:=(pS l).length) (ld:=ld) (mi:=mi) hP d1 d2 hlen (jam (pS l)) [] ds 0 (fun _ _ _=> []) (bif crZ (pS l)then [4,4]else []) (bif crZ (pS l)then [115,115]else []) rfl
 have key:=key fun ds a=>by
  rcases hc with⟨rfl,hc⟩ | ⟨ht',hc⟩
  ·rw[hc];rfl
  ·rw[hc]at hlen;simp only[cond_true]at hlen;have f1:(((jam (pS l)).length:Int)==(nD (jam (pS l))).2.2)=false:=by simp;omega
   have f2:(((jam (pS l)).length:Int)+1==(nD (jam (pS l))).2.2)=false:=by simp;omega
   have g1:(true&&decide (((jam (pS l)).length:Int)≥((pS l).length:Int)-2))=true:=by simp;omega
   have g2:(true&&decide (((jam (pS l)).length:Int)+1≥((pS l).length:Int)-2))=true:=by simp;omega
   have ss:∀c:Int,c=67∨c=82∨c=68∨c=66→ssZ c (fdDr (pS l)) mi=bif !mi then 32 else c:=fun c hcc=>by
    have:(fdDr (pS l) !=0&&c==fdDr (pS l))=false:=by
     have:(c==fdDr (pS l))=false:=by simp;omega
     rw[this,Bool.and_false]
    rw[ssZ,this];have h5:hasZ [67,82,68,66] c=true:=by rcases hcc with rfl | rfl | rfl | rfl<;>rfl
    rw[h5];cases mi<;>rfl
   have wc:∀(r c d a:Int)(i:Int),(i==(nD (jam (pS l))).2.2)=false→(true&&decide (i≥((pS l).length:Int)-2))=true→wrC (nD (jam (pS l))).2.2 true (pS l).length mi ld (fdFl (pS l)) r c d i a=bif !mi then 32 else c:=fun r c d a i q1 q2=>by
    rw[wrC,q1,q2];rfl
   rw[hc];simp only[cond_true];rcases ht' with rfl | rfl
   ·obtain⟨D,e⟩:=wr_2 (nD (jam (pS l))).2.2 (pS l).length mi ld (fdFl (pS l)) 67 82 ds (jam (pS l)).length a;rw[e,fd_2,wc _ _ _ _ _ f1 g1,wc _ _ _ _ _ f2 g2,ss 67 (by decide),ss 82 (by decide)]
   ·obtain⟨D,e⟩:=wr_2 (nD (jam (pS l))).2.2 (pS l).length mi ld (fdFl (pS l)) 68 66 ds (jam (pS l)).length a;rw[e,fd_2,wc _ _ _ _ _ f1 g1,wc _ _ _ _ _ f2 g2,ss 68 (by decide),ss 66 (by decide)]
 rw[hrol,hmk];have e0:((([]:O).length:Nat):Int)=0:=rfl;rw[e0,←ht]at key;exact key
theorem wr_law{l:O}(hl:IsB (pS l)∧(pS l).length≤32)(h:pN l=true){n:Int}(hn:(n.natAbs:Int)<tenZ (pD l).toNat):
  wrV (pS l) (pW l) (nD (jam (pS l))).2.2 (crZ (pS l)) (drZ (jam (pS l))) (fdFl (pS l)) (cntZ (mkGo (drZ (jam (pS l))) false (jam (pS l))) 100) (rolF (pS l)) (digZ n.natAbs (pD l).toNat) (decide (n<0))=
   (jds (pS l) (pW l) (pD l).toNat n,fdLe (pS l) (pW l) (pD l).toNat n):=by
 obtain⟨e1,e2⟩:=en_law hl h hn;obtain⟨_,_,_,p4,_,p6⟩:=jk5 hl h n;have hv:=jdg h;have hS:pS l=exZ l:=by rw[pS,Kd hv]
 have hnp:NumP (pS l):=by rw[hS];exact jh9 h
 obtain⟨d1,d2⟩:=dr_facts hnp;have hP:=(jgk h).1.drP;rw[wrV,e1,jds];cases hb:fdBl (pS l) (pW l) (pD l).toNat n with
 | true=>
  rw[e2 hb,←jjl];rfl
 | false=>
  simp only[cond_false];have h0:decide (fdLe (pS l) (pW l) (pD l).toNat n<0)=false:=jad (by have:= @fdLe_nn (pS l) (pW l) (pD l).toNat n p4;omega);rw[h0,cond_false,out_law h];rw[fdOK,hb,Bool.false_or]at p6;by_cases q:drZ (jam (pS l))=0
  ·have q1:=d2 q;have hO:je5 (pS l) (pW l) (pD l).toNat n=fdGo (fdLe (pS l) (pW l) (pD l).toNat n) (fdFl (pS l)) 0 (decide (n<0)) (jaq (pS l)) (pS l) (digZ n.natAbs (pD l).toNat) 0:=by rw[je5,q1]
   rw[q,q1,hO];have z:((0:Int) !=0)=false:=rfl;rw[z,Bool.false_and];rfl
  ·have q1:=(d1 q).1;rw[q1]at p6 ⊢;have hq:(drZ (jam (pS l)) !=0)=true:=by simpa using q
   have hq2:(drZ (jam (pS l))==0)=false:=by simpa using q
   rw[hq2,Bool.false_or,jae]at p6;have h1:decide (fdLe (pS l) (pW l) (pD l).toNat n>0)=true:=jaa (by omega);rw[hq,h1]
   have hs:(bif drZ (jam (pS l))==36 then 36 else sgC (drZ (jam (pS l))) (decide (n<0)))=sgZ (drZ (jam (pS l))) (decide (n<0)):=by
    rcases hP.at_ with⟨z,_⟩ | ⟨_,_,_,q4⟩
    ·exact absurd z q
    ·have:drZ (jam (pS l))=36∨drZ (jam (pS l))=83∨drZ (jam (pS l))=43∨drZ (jam (pS l))=45:=by simpa using q4
     rcases this with e | e | e | e<;>rw[e] <;>cases decide (n<0) <;>rfl
   rw[hs];have:je5 (pS l) (pW l) (pD l).toNat n=fdGo (fdLe (pS l) (pW l) (pD l).toNat n) (fdFl (pS l)) (drZ (jam (pS l))) (decide (n<0)) (jaq (pS l)) (pS l) (digZ n.natAbs (pD l).toNat) 0:=by rw[je5,q1]
   rw[this];rfl
end Go.Px
end
noncomputable section
set_option maxHeartbeats 3200000
namespace Go.Px
open Go Go.Ab Go.Proofs Go.Shelf
theorem cuN_lt(n q sc d:Int)(sg:Bool):((cuN n q sc d sg).natAbs:Int)<tenZ d.toNat:=by
 have hm:=Int.emod_nonneg (cuM n q sc) (b:=tenZ d.toNat) (by have:=jc9 d.toNat;omega);have hl:=Int.emod_lt_of_pos (cuM n q sc) (jc9 d.toNat);unfold cuN cuV;split<;>omega
theorem jls{s:Y}(h:pN (bz s)=true){k cap:Nat}{d:J}(hR:jbv d k cap=true)(hz:zc d k=rolF (pS (bz s))){m:Int}(hm:(m.natAbs:Int)<tenZ (pD (bz s)).toNat):
  w64C (sz (pS (bz s))) (sz (digZ m.natAbs (pD (bz s)).toNat)) k cap (pW (bz s)) (fdFl (pS (bz s))) d=true∧
  wrV (bz (sz (pS (bz s)))) (pW (bz s)) (nD (jam (pS (bz s)))).2.2 (crZ (pS (bz s))) (drZ (jam (pS (bz s)))) (fdFl (pS (bz s))) (cntZ (mkGo (drZ (jam (pS (bz s)))) false (jam (pS (bz s)))) 100) (zc d k) (bz (sz (digZ m.natAbs (pD (bz s)).toNat))) (decide (m<0))=
   (jds (pS (bz s)) (pW (bz s)) (pD (bz s)).toNat m,fdLe (pS (bz s)) (pW (bz s)) (pD (bz s)).toNat m):=by
 have hl:=jhg s;have hr:=jat.1 hR;have hk:k=(pS (bz s)).length:=by rw[←rol_len h,←hz,jbk hr]
 have b1:bz (sz (pS (bz s)))=pS (bz s):=jc7 hl.1;have hdd:=jfm (pD (bz s)).toNat m.natAbs;have b2:bz (sz (digZ m.natAbs (pD (bz s)).toNat))=digZ m.natAbs (pD (bz s)).toNat:=jc7 (jhi hdd);have z1:(sz (pS (bz s))).size=(pS (bz s)).length:=by rw[←jak,b1]
 have z2:(sz (digZ m.natAbs (pD (bz s)).toNat)).size=(pD (bz s)).toNat:=by rw[←jak,b2,jd0]
 obtain⟨f1,_,f3,_⟩:=jh8 hl h;have hp:=jdv h;have hw:=jk5 hl h 0;refine⟨?_,by rw[b1,b2,hz];exact wr_law hl h hm⟩;simp only[w64C,jaf,jae];rw[hz,b2,z1,z2,f3];refine⟨hR,?_,hdd,⟨by omega,by omega,by omega,by omega,hw.2.2.2.1,by omega⟩,by omega,?_⟩
 ·simp only[roOK,Kf,jae];exact fun r hr=>by have:=f1 r hr;omega
 ·unfold fdFl;split
  ·exact .inr rfl
  ·exact .inl rfl
def s20(n:Int)(q:Int)(s:Y):Bool×Value:=(decide (s.size≤9223372036854775807∧ -9223372036854775808≤n∧n≤9223372036854775807),.tuple ⟨[.string (sz (edS (bz s) n q)),.bool (edF (bz s) n q),.int .i64 (edE (bz s) q)]⟩)
theorem fn20:Fn1 Tryz.prog 233 Tryz.f233:= .m Tryz.func233
def l7(e:Bool)(a d:Y)(b:J)(c:Nat):Prod O Int:=wrV (bz (ic a)) (pW (bz a)) (nD (jam (pS (bz a)))).snd.snd (crZ (pS (bz a))) (drZ (jam (pS (bz a)))) (fdFl (pS (bz a))) (cntZ (mkGo (drZ (jam (pS (bz a)))) false (jam (pS (bz a)))) 100:Int) (zc b c) (bz d) e
def oe(d e:Y)(a:J)(b c:Nat):Bool:=jbv a b c&& (roOK (zc a b) && (dgL (bz d) &&decide ((b≤1000∧d.size≤1000∧b≤(ic e).size∧(ic e).size≤1000∧0≤pW (bz e)∧pW (bz e)≤1000)∧cdg (zc a b)≤al d∧(fdFl (pS (bz e))=32∨fdFl (pS (bz e))=42))))
def pq(a i:Bool)(c:Y)(b:O)(f l:J)(g h:Nat)(k:Value)(j:Value→Prop):Prop:=bif a then bif oe (sz b) c f g h then∀d:Y,∀e:Int,sz (l7 i c (sz b) f g).fst=d→(l7 i c (sz b) f g).snd=e→j (aq (k::l) (.string d))else False else False
theorem v20(n:Int)(q:Int)(s:Y)(R:Value→Prop):jax Tryz.prog G37 noL Tryz.f233 [Enc.enc n,Enc.enc q,Enc.enc s] (fun _=>none) 0 (fun v _ _=>R v)=(fq (pN (bz s)) s (∀a:Nat,∀b:Nat,∀c:J,jbv c a b=true→zc c a=rolF (pS (bz s))→bq (dw q) true (dw q || decide (q>9)) (R (aq [B false,ak 1] cv)) (pq (i64B n&& (ia 0 q 9&& (ia 0 (pQ (bz s)) 9&&ia 0 (pD (bz s)) 9))) (decide (Px.cuN n q (pQ (bz s)) (pD (bz s)) (pG (bz s))<0)) s (ll (Px.cuN n q (pQ (bz s)) (pD (bz s)) (pG (bz s))) (pD (bz s))) c [ak 0] a b (B (Px.cuF n q (pQ (bz s)) (pD (bz s)) (pG (bz s)))) R)) (R (aq [B false,ak 30] cv))):=by kernel_rfl
theorem ok20:jan Tryz.prog 233 (sp3 s20):=by
 refine jh7 ok_G37 hmix fn20 jal jag fun n q s hc=> ?_
 rw[ja4,v20];delta av co fq aq ay cv ak bq ic l7 al oe pq ll ia dw;have hc:(s.size≤9223372036854775807∧ -9223372036854775808≤n∧n≤9223372036854775807):=jab hc
 try dsimp only[s20]
 refine c_t (jaa hc.1) (Ka (fun h=> ?_) (fun h=> ?_))
 ·intro k cap d hR hz;refine c_t (by simp) (Ka (fun hq=> ?_) (fun hq=> ?_))
  ·have hq:q<0∨q>9:=by simpa using hq
   have h1:¬(0≤q∧q≤9):=by omega
   rw[edS,edF,edE,Kc (fun e=>h1 ⟨e.2.1,e.2.2⟩),Kc (fun e=>h1 ⟨e.2.1,e.2.2⟩),Kd h,Kc h1,ji4]
  ·have hq:0≤q∧q≤9:=by
    simp only[Kr,decide_eq_false_iff_not]at hq;omega
   have hp:=jdv h;obtain⟨g1,g2⟩:=jls h hR hz (cuN_lt n q (pQ (bz s)) (pD (bz s)) (pG (bz s)));refine c_t (by simp only[i64B,jaf,jae];omega) (c_t g1 fun t l h1 h2=> ?_);rw[g2]at h1 h2;rw[edS,edF,edE,Kd ⟨h,hq⟩,Kd ⟨h,hq⟩,Kd h,Kd hq,←h1]
 ·have h1:¬pN (bz s)=true:=by rw[h];simp
  rw[edS,edF,edE,Kc (fun e=>h1 e.1),Kc (fun e=>h1 e.1),Kc h1,ji4]
theorem unK_dig{c:Int}(h1:c≥48)(h2:c≤57):unK c=false:=by
 cases h:unK c with
 | false=>rfl
 | true=>
  have:=jbj.1 h;simp only[punchedZ,Kg,List.not_mem_nil,or_false]at this;omega
def gsGo:O→O→O
 | [],_=> []
 | r::rs,cs=>bif r==2 then gsGo rs cs else bif r !=0&&r !=1 then gsGo rs cs.tail else(48+rdD (cs.headD 0))::gsGo rs cs.tail
def V67_0:Y×Y×Rw×Int×Nat×Nat×Int×Int×J→J:=fun(t,r4,o,aa,k2,cap2,L,i,d)=> [.string t,.string r4,o.v 200,.int .i64 aa,.slice (some ⟨1,0,some 1⟩) k2 cap2,.int .i64 L,.int .i64 i]
def B67_0:Y×Y×Rw×Int×Nat×Nat×Int×Int×J→Ya:=fun(t,r4,o,aa,k2,cap2,L,i,d)=> [some ⟨d,221,false⟩,o.b]
def S67_0:LSpecA (Y×Y×Rw×Int×Nat×Nat×Int×Int×J) where
 live:=[1,4,5,6,16,17,18]
 mid:=[1,200]
 n:=210
 ap:=[(.tmp 5,200)]
 dec vs bs:=match vs,bs with | [.string t,.string r4,.slice none 0 0,.int .i64 aa,.slice (some ⟨1,0,some 1⟩) k2 cap2,.int .i64 L,.int .i64 i],[some ⟨d,221,false⟩,none]=>some (t,r4,.nil,aa,k2,cap2,L,i,d) | [.string t,.string r4,.slice (some ⟨200,0,some 1⟩) om oc,.int .i64 aa,.slice (some ⟨1,0,some 1⟩) k2 cap2,.int .i64 L,.int .i64 i],[some ⟨d,221,false⟩,some ⟨od,5,true⟩]=>some (t,r4,.own od om oc,aa,k2,cap2,L,i,d) | _,_=>none
 pre:=fun(t,r4,o,aa,k2,cap2,L,i,d)=>o.ok&& (jbv d k2 cap2&&decide (0≤i∧i≤k2∧k2≤1000∧L=k2∧0≤aa∧aa≤i∧aa+cN ((zc d k2).drop i.toNat)≤t.size∧o.z.length≤i))
 fin:=fun(t,r4,o,aa,k2,cap2,L,i,d) Z=>(o.is=false→gsGo ((zc d k2).drop i.toNat) ((bz t).drop aa.toNat)=[]→ ∀a' i',Z (.exit 0) [.string t,.string r4,.slice none 0 0,.int .i64 a',.slice (some ⟨1,0,some 1⟩) k2 cap2,.int .i64 L,.int .i64 i'] [some ⟨d,221,false⟩,none])∧(∀a' i' od' om' oc',jcp od' om' oc'=true→zc od' om'=o.z++gsGo ((zc d k2).drop i.toNat) ((bz t).drop aa.toNat)→Z (.exit 0) [.string t,.string r4,.slice (some ⟨200,0,some 1⟩) om' oc',.int .i64 a',.slice (some ⟨1,0,some 1⟩) k2 cap2,.int .i64 L,.int .i64 i'] [some ⟨d,221,false⟩,some ⟨od',5,true⟩])
def o5(f g:Y)(d:Exit→J→Ya→Prop)(k l:Int)(a b:J)(c h i m n:Nat)(e:Option Blk)(j:Value):Prop:=bm (kc [] a b c 200&&true) d [nc a c,e] (.string f:: .string g::cq 200 0 h i::j::dp k l 1 m n)
def mj(d e:Y)(f:Exit→J→Ya→Prop)(g h n:Int)(a i j:J)(b c k l m:Nat):Prop:=fu a b c→o5 d e f g h i j k c b l m (iq [(k,200)] j) (az n)
theorem r67_0n(t:Y)(r4:Y)(aa:Int)(k2:Nat)(cap2:Nat)(L:Int)(i:Int)(d:J)(jk:Tmps)(R:Exit→J→Ya→Prop):(jbn Tryz.prog G37 noL Tryz.f182.ntmps (ja2 Tryz.f182 0) (tl S67_0.live (V67_0 (t,r4,.nil,aa,k2,cap2,L,i,d)) jk) (ml S67_0.mid (B67_0 (t,r4,.nil,aa,k2,cap2,L,i,d))) S67_0.n fun e t' m' _=>S67_0.out R e t' m')=(kw R i L [] d (e9 t r4 (ak aa::du L i 1 k2 cap2) jm) k2 0 (je d) none (bif dq i 2 d then bm (il d) R [je d,none] (e9 t r4 (ak aa::dp L i 1 k2 cap2) jm)else bif bk t aa then bq (c9 i d !=0) true (c9 i d !=0&&c9 i d !=1) (bm (il d) R [je d,none] (e9 t r4 (az aa::dp L i 1 k2 cap2) jm)) (bif jp (au t aa) 48 then bif gx (au t aa) 48 57 then∀a:Nat,∀b:J,mj t r4 R L i aa b d (.int .u8 (au t aa)::b) a 1 248 k2 cap2 else bif unK (au t aa)then∀a:Nat,∀b:J,mj t r4 R L i aa b d (jq (48+IntKind.u8.wrap (unD (au t aa)))::b) a 1 252 k2 cap2 else∀a:Nat,∀b:J,mj t r4 R L i aa b d (am 48::b) a 1 249 k2 cap2 else False)else False)):=by kernel_rfl
theorem r67_0o(t:Y)(r4:Y)(od:J)(om:Nat)(oc:Nat)(aa:Int)(k2:Nat)(cap2:Nat)(L:Int)(i:Int)(d:J)(jk:Tmps)(R:Exit→J→Ya→Prop):(jbn Tryz.prog G37 noL Tryz.f182.ntmps (ja2 Tryz.f182 0) (tl S67_0.live (V67_0 (t,r4,(.own od om oc),aa,k2,cap2,L,i,d)) jk) (ml S67_0.mid (B67_0 (t,r4,(.own od om oc),aa,k2,cap2,L,i,d))) S67_0.n fun e t' m' _=>S67_0.out R e t' m')=(dy (bw i L) (cl i (k2:Int)) (kc [] d od 200 200&&true) (bif jbg .i64 d (ew i)then bif dq i 2 d then o5 t r4 R L i d od 200 om oc k2 cap2 (gn od) (ak aa)else bif bk t aa then bq (c9 i d !=0) true (c9 i d !=0&&c9 i d !=1) (o5 t r4 R L i d od 200 om oc k2 cap2 (gn od) (az aa)) (bif jp (au t aa) 48 then bif gx (au t aa) 48 57 then mc od oc om (∀a:Nat,∀b:J,mj t r4 R L i aa b d (gz (au t aa) .u8 od b om) a (om+1) 248 k2 cap2)else bif unK (au t aa)then mc od oc om (∀a:Nat,∀b:J,mj t r4 R L i aa b d (gz (IntKind.u8.wrap (48+IntKind.u8.wrap (unD (au t aa)))) .u8 od b om) a (om+1) 252 k2 cap2)else mc od oc om (∀a:Nat,∀b:J,mj t r4 R L i aa b d (gz 48 .u8 od b om) a (om+1) 249 k2 cap2)else False)else False else False) (R (.exit 0) (e9 t r4 (ak aa::du L i 1 k2 cap2) (cq 200 0 om oc)) [nc d 200,gn od])):=by kernel_rfl
theorem l67_0:LOKf Tryz.prog (oneL 0 S67_0.hA) Tryz.f182:=by
 refine jbb (h:=S67_0.hA) (by kernel_rfl) (jbo ok_G37 hmix (by kernel_rfl) (ja0 _) S67_0 V67_0 B67_0 (fun(t,r4,o,aa,k2,cap2,L,i,d)=>(k2-i).toNat) ?_ ?_ ?_)
 ·intro vs bs s h;simp only[S67_0]at h;split at h
  all_goals first | (cases h;exact⟨rfl,rfl⟩) | cases h | (split at h<;>first | (rename_i hq;cases h;have hq:=jah hq;subst hq;exact⟨rfl,rfl⟩) | cases h)
 ·exact fun⟨t,r4,o,aa,k2,cap2,L,i,d⟩ hp=>by
   simp only[S67_0,jaf]at hp;have hr:=jat.1 hp.2.1;cases o with
   | nil=>simp[V67_0,B67_0,S67_0,jaw,jbs,idsL,ids,Rw.v,Rw.b,jao hr.plain]
   | own od om oc=>simp[V67_0,B67_0,S67_0,jaw,jbs,idsL,ids,Rw.v,Rw.b,jao hr.plain,jao (jap.1 hp.1).plain]
 ·intro⟨t,r4,o,aa,k2,cap2,L,i,d⟩ jk Z hp hf;simp only[S67_0]at hp hf;cases o with
  | nil=>
   rw[r67_0n];delta e7 dy ew il cl bw kw av bq bm ax az ak ct cq dp nc kc o5 iq fu mj am jq au gx jp e9 jm je c9 al bk dq bp du;simp only[jaf,jae]at hp;obtain⟨-,hR,hp⟩:=hp;have hr:=jat.1 hR;simp only[Rw.z,List.length_nil]at hp hf;have e0:0+i.toNat*1=i.toNat:=by omega
   rw[e0];apply Ka<;>intro h
   ·have h:=jab h;obtain⟨a1,a3⟩:=hr.at hp.1 (by omega);rw[a3,gsGo]at hf;rw[a3,cN]at hp;have hc:=jnh ((zc d k2).drop (i+1).toNat);rw[a1,w64 (n:=i+1) (by omega),w64 (n:=aa+1) (by omega)];generalize jar d i.toNat=r at*;refine c_t (jaa (by omega)) (c_t rfl (Ka (fun q=> ?_) (fun q=> ?_)))
    ·rw[q,cond_true]at hf hp;refine c_t (by rw[hr.good];rfl) ?_;rw[hr.rlb];exact⟨(t,r4,.nil,aa,k2,cap2,L,i+1,d),rfl,rfl,by simp only[S67_0,jaf,jae];exact⟨rfl,hR,by simp only[Rw.z,List.length_nil];omega⟩,by simp only;omega,hf⟩
    ·rw[q,cond_false]at hf hp;obtain⟨p1,p2,p3,p4,p5,p6,p7,p8⟩:=hp;rw[jca p5 (by omega),List.headD_cons,List.tail_cons]at hf;have hB:=jf2 t aa.toNat;generalize jai t aa.toNat=c at*;have hu:0≤unD c∧unD c≤9:=by unfold unD;split<;>omega
     rw[w8 (n:=unD c) (by omega),w8 (n:=48+unD c) (by omega)];refine c_t (jaa (by omega)) (c_t (by simp) (Ka (fun q2=> ?_) (fun q2=>c_t (by simp) (Ka (fun q3=> ?_) (fun q3=>Ka (fun q4=> ?_) (fun q4=> ?_))))))
     ·rw[q2,cond_true]at hf;refine c_t (by rw[hr.good];rfl) ?_;rw[hr.rlb];exact⟨(t,r4,.nil,aa+1,k2,cap2,L,i+1,d),rfl,rfl,by simp only[S67_0,jaf,jae];exact⟨rfl,hR,by simp only[Rw.z,List.length_nil];omega⟩,by simp only;omega,hf⟩
     ·rw[q2,cond_false]at hf;intro cap1 tail ht;obtain⟨h1,h2⟩:RowP (Value.int IntKind.u8 (c)::tail) 1 cap1∧zc (Value.int IntKind.u8 (c)::tail) 1=[c]:=jgc [c] ht;have hl1:=jbe h1;generalize Value.int IntKind.u8 (c)::tail=od' at*
      have e:48+rdD c=c:=by
       have q:=q3;simp only[jaf,jae]at q;unfold rdD;rw[unK_dig q.1 q.2,q3];simp only[cond_true,cond_false];omega
      rw[e]at hf;refine c_t (by rw[hr.good,h1.good];rfl) ?_;rw[hr.rlb,h1.rlb];exact⟨(t,r4,.own od' (1) cap1,aa+1,k2,cap2,L,i+1,d),rfl,rfl,by simp only[S67_0,jaf,jae];exact⟨jap.2 h1,hR,by simp only[Rw.z,hl1];omega⟩,by simp only;omega,⟨fun q=>(by cases q),fun a' i' od'' om'' oc'' g1 g2=>hf.2 a' i' od'' om'' oc'' g1 (by rw[g2];simp only[Rw.z,h2,Kz,List.cons_append,List.nil_append])⟩⟩
     ·rw[q2,cond_false]at hf;intro cap1 tail ht;obtain⟨h1,h2⟩:RowP (Value.int IntKind.u8 (48+unD c)::tail) 1 cap1∧zc (Value.int IntKind.u8 (48+unD c)::tail) 1=[48+unD c]:=jgc [48+unD c] ht;have hl1:=jbe h1;generalize Value.int IntKind.u8 (48+unD c)::tail=od' at*
      have e:48+rdD c=48+unD c:=by
       unfold rdD;rw[q4];rfl
      rw[e]at hf;refine c_t (by rw[hr.good,h1.good];rfl) ?_;rw[hr.rlb,h1.rlb];exact⟨(t,r4,.own od' (1) cap1,aa+1,k2,cap2,L,i+1,d),rfl,rfl,by simp only[S67_0,jaf,jae];exact⟨jap.2 h1,hR,by simp only[Rw.z,hl1];omega⟩,by simp only;omega,⟨fun q=>(by cases q),fun a' i' od'' om'' oc'' g1 g2=>hf.2 a' i' od'' om'' oc'' g1 (by rw[g2];simp only[Rw.z,h2,Kz,List.cons_append,List.nil_append])⟩⟩
     ·rw[q2,cond_false]at hf;intro cap1 tail ht;obtain⟨h1,h2⟩:RowP (Value.int IntKind.u8 (48)::tail) 1 cap1∧zc (Value.int IntKind.u8 (48)::tail) 1=[48]:=jgc [48] ht;have hl1:=jbe h1;generalize Value.int IntKind.u8 (48)::tail=od' at*
      have e:48+rdD c=48:=by
       unfold rdD;rw[q4,q3];rfl
      rw[e]at hf;refine c_t (by rw[hr.good,h1.good];rfl) ?_;rw[hr.rlb,h1.rlb];exact⟨(t,r4,.own od' (1) cap1,aa+1,k2,cap2,L,i+1,d),rfl,rfl,by simp only[S67_0,jaf,jae];exact⟨jap.2 h1,hR,by simp only[Rw.z,hl1];omega⟩,by simp only;omega,⟨fun q=>(by cases q),fun a' i' od'' om'' oc'' g1 g2=>hf.2 a' i' od'' om'' oc'' g1 (by rw[g2];simp only[Rw.z,h2,Kz,List.cons_append,List.nil_append])⟩⟩
   ·have h:=jac h;rw[hr.end (by omega),gsGo]at hf;refine c_t (by rw[hr.good];rfl) ?_;rw[hr.rlb];exact hf.1 rfl rfl aa i
  | own od om oc=>
   rw[r67_0o];delta e7 dy gn nc e9 cq ak bp du av bq e8 mc bm ax az ct dp kc o5 iq fu mj g9 gz au gx jp ew c9 al bk dq cl bw;simp only[jaf,jae]at hp;obtain⟨ho,hR,hp⟩:=hp;have hr:=jat.1 hR;have ho:=jap.1 ho;have hzl:=jbe ho;simp only[Rw.z,hzl]at hp hf;have e0:0+i.toNat*1=i.toNat:=by omega
   rw[e0];apply Ka<;>intro h
   ·have h:=jab h;obtain⟨a1,a3⟩:=hr.at hp.1 (by omega);rw[a3,gsGo]at hf;rw[a3,cN]at hp;have hc:=jnh ((zc d k2).drop (i+1).toNat);rw[a1,w64 (n:=i+1) (by omega),w64 (n:=aa+1) (by omega)];generalize jar d i.toNat=r at*;refine c_t (jaa (by omega)) (c_t rfl (Ka (fun q=> ?_) (fun q=> ?_)))
    ·rw[q,cond_true]at hf hp;refine c_t (by rw[hr.good,ho.good];rfl) ?_;rw[hr.rlb,ho.rlb];exact⟨(t,r4,.own od om oc,aa,k2,cap2,L,i+1,d),rfl,rfl,by simp only[S67_0,jaf,jae];exact⟨jap.2 ho,hR,by simp only[Rw.z,hzl];omega⟩,by simp only;omega,hf⟩
    ·rw[q,cond_false]at hf hp;obtain⟨p1,p2,p3,p4,p5,p6,p7,p8⟩:=hp;rw[jca p5 (by omega),List.headD_cons,List.tail_cons]at hf;have hB:=jf2 t aa.toNat;generalize jai t aa.toNat=c at*;have hu:0≤unD c∧unD c≤9:=by unfold unD;split<;>omega
     rw[w8 (n:=unD c) (by omega),w8 (n:=48+unD c) (by omega)];refine c_t (jaa (by omega)) (c_t (by simp) (Ka (fun q2=> ?_) (fun q2=>c_t (by simp) (Ka (fun q3=> ?_) (fun q3=>Ka (fun q4=> ?_) (fun q4=> ?_))))))
     ·rw[q2,cond_true]at hf;refine c_t (by rw[hr.good,ho.good];rfl) ?_;rw[hr.rlb,ho.rlb];exact⟨(t,r4,.own od om oc,aa+1,k2,cap2,L,i+1,d),rfl,rfl,by simp only[S67_0,jaf,jae];exact⟨jap.2 ho,hR,by simp only[Rw.z,hzl];omega⟩,by simp only;omega,hf⟩
     ·rw[q2,cond_false]at hf;refine c_t (ho.ask (k:=1) (by omega)) (fun cap1 tail ht=> ?_);obtain⟨h1,h2⟩:=ho.app1 (c) ht;have hl1:=jbe h1;generalize List.take (om*1) od++ [Value.int IntKind.u8 (c)]++tail=od' at*
      have e:48+rdD c=c:=by
       have q:=q3;simp only[jaf,jae]at q;unfold rdD;rw[unK_dig q.1 q.2,q3];simp only[cond_true,cond_false];omega
      rw[e]at hf;refine c_t (by rw[hr.good,h1.good];rfl) ?_;rw[hr.rlb,h1.rlb];exact⟨(t,r4,.own od' (om+1) cap1,aa+1,k2,cap2,L,i+1,d),rfl,rfl,by simp only[S67_0,jaf,jae];exact⟨jap.2 h1,hR,by simp only[Rw.z,hl1];omega⟩,by simp only;omega,⟨fun q=>(by cases q),fun a' i' od'' om'' oc'' g1 g2=>hf.2 a' i' od'' om'' oc'' g1 (by rw[g2];simp only[Rw.z,h2,Kz,List.cons_append,List.nil_append])⟩⟩
     ·rw[q2,cond_false]at hf;refine c_t (ho.ask (k:=1) (by omega)) (fun cap1 tail ht=> ?_);obtain⟨h1,h2⟩:=ho.app1 (48+unD c) ht;have hl1:=jbe h1;generalize List.take (om*1) od++ [Value.int IntKind.u8 (48+unD c)]++tail=od' at*
      have e:48+rdD c=48+unD c:=by
       unfold rdD;rw[q4];rfl
      rw[e]at hf;refine c_t (by rw[hr.good,h1.good];rfl) ?_;rw[hr.rlb,h1.rlb];exact⟨(t,r4,.own od' (om+1) cap1,aa+1,k2,cap2,L,i+1,d),rfl,rfl,by simp only[S67_0,jaf,jae];exact⟨jap.2 h1,hR,by simp only[Rw.z,hl1];omega⟩,by simp only;omega,⟨fun q=>(by cases q),fun a' i' od'' om'' oc'' g1 g2=>hf.2 a' i' od'' om'' oc'' g1 (by rw[g2];simp only[Rw.z,h2,Kz,List.cons_append,List.nil_append])⟩⟩
     ·rw[q2,cond_false]at hf;refine c_t (ho.ask (k:=1) (by omega)) (fun cap1 tail ht=> ?_);obtain⟨h1,h2⟩:=ho.app1 (48) ht;have hl1:=jbe h1;generalize List.take (om*1) od++ [Value.int IntKind.u8 (48)]++tail=od' at*
      have e:48+rdD c=48:=by
       unfold rdD;rw[q4,q3];rfl
      rw[e]at hf;refine c_t (by rw[hr.good,h1.good];rfl) ?_;rw[hr.rlb,h1.rlb];exact⟨(t,r4,.own od' (om+1) cap1,aa+1,k2,cap2,L,i+1,d),rfl,rfl,by simp only[S67_0,jaf,jae];exact⟨jap.2 h1,hR,by simp only[Rw.z,hl1];omega⟩,by simp only;omega,⟨fun q=>(by cases q),fun a' i' od'' om'' oc'' g1 g2=>hf.2 a' i' od'' om'' oc'' g1 (by rw[g2];simp only[Rw.z,h2,Kz,List.cons_append,List.nil_append])⟩⟩
   ·have h:=jac h;rw[hr.end (by omega),gsGo]at hf;refine c_t (by rw[hr.good,ho.good];rfl) ?_;rw[hr.rlb,ho.rlb];exact hf.2 aa i od om oc (jap.2 ho) (by simp)
theorem v67(s:Y)(nb:Bool)(w:Int)(dg:Int)(sc:Int)(sg:Bool)(k:Nat)(cap:Nat)(dr:Int)(f:Int)(cr:Bool)(fl:Int)(fm:Int)(t:Y)(d:J)(R:Value→Prop):(jax Tryz.prog G37 (oneL 0 S67_0.hA) Tryz.f182 [.pointer (some ⟨0,0,some 0⟩),S t] (vwF2 (fmL s nb w dg sc sg 1 k cap dr f cr fl fm) d) 2 (fun v _ _=>R v))=(jt (S67_0.toLSpec.pre (t,(ay,(Rw.nil,((0:Int),(k,(cap,(natO k,((0:Int),rlbL [] d))))))))) [] d 210 ((Rw.is Rw.nil=false→gsGo (lr d k) (bu t 0)=([]:O)→Int→Int→gy (dx (rlbL [] d) 210) (S ByteArray.empty) R)∧(Int→Int→(∀a:J,∀b:Nat,∀c:Nat,jcp a b c=true→zc a b=Rw.z Rw.nil++gsGo (lr d k) (bu t 0)→ko (dx a 210) (ja8 a 0 b) (rlbL [] d) 210 (S (ja5 a 0 b)) R)))):=by kernel_rfl
theorem w_67(s:Y)(nb:Bool)(w:Int)(dg:Int)(sc:Int)(sg:Bool)(k:Nat)(cap:Nat)(dr:Int)(f:Int)(cr:Bool)(fl:Int)(fm:Int)(t:Y)(d:J)(hR:jbv d k cap=true)(hk:k≤1000)(hc:cN (zc d k)≤t.size)
  {R:Value→Prop} (hV:R (.string (sz (gsGo (zc d k) (bz t))))):
  jel Tryz.prog G37 (oneL 0 S67_0.hA) Tryz.f182 [.pointer (some ⟨0,0,some 0⟩),.string t] (vwF2 (fmL s nb w dg sc sg 1 k cap dr f cr fl fm) d) 2 (fun v _ _=>R v):=by
 rw[jel,v67];delta dx jv jt br ko bu fw lr gy ay;have h:=jat.1 hR;have z0:Int.toNat 0=0:=rfl;have hg:(jas [] d&&true&&true&& (jaw 210 d&&true))=true:=by rw[h.good];simp[jaw,idsL,jao h.plain]
 have hg':(jas [] d&&true&& (jaw 210 d&&true))=true:=by rw[h.good];simp[jaw,idsL,jao h.plain]
 have hi:(jaw 210 d&&true)=true:=by simp[jaw,idsL,jao h.plain]
 simp only[h.rlb,z0,List.drop_zero];refine c_t (by first | exact hg | exact hg') (c_t ?_ ⟨fun _ hn a' i'=>c_t hi fun _=> ?_,fun a' i' od om oc g1 g2=> ?_⟩)
 ·show(Rw.nil.ok&& (jbv d k cap&&decide ((0:Int)≤0∧(0:Int)≤k∧k≤1000∧natO k=k∧(0:Int)≤0∧(0:Int)≤0∧0+cN ((zc d k).drop (Int.toNat 0))≤t.size∧((Rw.nil.z.length:Nat):Int)≤0)))=true;rw[hR,jby,z0,List.drop_zero];simp only[Bool.true_and,Rw.ok,Rw.z,List.length_nil,jae];exact⟨by omega,by omega,by omega,trivial,by omega,by omega,by omega,by omega⟩
 ·rw[hn]at hV;exact hV
 ·have ho:=jap.1 g1;have hio:(jaw 210 d&& (jaw 210 od&&true))=true:=by simp[jaw,idsL,jao h.plain,jao ho.plain]
  have s3:=ho.str;have g3:zc od om=gsGo (zc d k) (bz t):=by rw[g2];rfl
  rw[g3]at s3;exact c_t hio fun _=>c_t s3.1 (by rw[s3.2];exact hV)
def h67:J→Lk→Nat→(Value→Lk→Nat→Prop)→Prop:=fun args m n K=>match args with
 | [.pointer (some ⟨a,0,some 0⟩),.string t]=>match m a with
  | some ⟨[.string s,.bool nb,.int .i64 w,.int .i64 dg,.int .i64 sc,.bool sg,.slice (some ⟨y,0,some 1⟩) k cap,.int .u8 dr,.int .i64 f,.bool cr,.int .u8 fl,.int .i64 fm],132,own⟩=>match m y with
   | some ⟨d,221,own2⟩=>match cnd (jbv d k cap&&decide (k≤1000∧cN (zc d k)≤t.size))with
    | true=>∀e:Y,sz (gsGo (zc d k) (bz t))=e→K (.string e) m n
    | false=>False
   | _=>False
  | _=>False
 | _=>False
theorem h67_ok:jcw Tryz.prog 182 h67:=by
 refine jii ok_G37 hmix (.m Tryz.func182) l67_0 fun args m n K h=> ?_
 unfold h67 at h;split at h
 case h_2=>exact h.elim
 rename_i a t;split at h
 case h_2=>exact h.elim
 rename_i s nb w dg sc sg y k cap dr f cr fl fm own hm;split at h
 case h_2=>exact h.elim
 rename_i d own2 hy;split at h
 case h_2=>exact h.elim
 rename_i hc;simp only[cnd,jaf,jae]at hc;obtain⟨h1,h2,h3⟩:=hc
 refine⟨[.pointer (some ⟨0,0,some 0⟩),.string t],_,2,rho2 a y,.string (sz (gsGo (zc d k) (bz t))),sub_F2 (jat.1 h1).plain hm hy,fun ι=>by simp[ren,ren1,rho2],jag,fun v hv j hj=> ?_,rfl,
  w_67 s nb w dg sc sg k cap dr f cr fl fm t d h1 h2 h3 (R:=fun v=>v= .string (sz (gsGo (zc d k) (bz t)))) rfl,h _ rfl⟩
 simp at hv;rcases hv with rfl | rfl
 ·have:j=0:=by simpa[ids]using hj
  omega
 ·simp[ids]at hj
def V71_0:Y×Bool×J×Nat×Nat×Int×Int→J:=fun(s,r,d,m,cap,L,i)=> [S s,B r,.slice (some ⟨300,0,some 1⟩) m cap,I L,I i]
def B71_0:Y×Bool×J×Nat×Nat×Int×Int→Ya:=fun(s,r,d,m,cap,L,i)=> [some ⟨d,5,false⟩]
def S71_0:LSpecA (Y×Bool×J×Nat×Nat×Int×Int) where
 live:=[0,4,15,16,17]
 mid:=[300]
 n:=310
 ap:=[(.tmp 15,300)]
 dec vs bs:=match vs,bs with | [.string s,.bool r,.slice (some ⟨300,0,some 1⟩) m cap,.int .i64 L,.int .i64 i],[some ⟨d,5,false⟩]=>some (s,r,d,m,cap,L,i) | _,_=>none
 pre:=fun(s,r,d,m,cap,L,i)=>vwOK d m&& ((bz s).all (hasZ [65,88,57]) &&decide (0≤i∧i≤m∧L=m∧s.size=m∧m≤1000))
 fin:=fun(s,r,d,m,cap,L,i) Z=>(bif onGo ((bz s).drop i.toNat) ((zc d m).drop i.toNat)then∀i',Z (.exit 0) [S s,B r,.slice (some ⟨300,0,some 1⟩) m cap,I L,I i'] [some ⟨d,5,false⟩]else∀i',Z .ret [S s,B false,.slice (some ⟨300,0,some 1⟩) m cap,I L,I i'] [some ⟨d,5,false⟩])
def rk(d e:Bool)(a:Y)(b:Int)(c:J):Bool:=bif aw a b 65 then bv (!(bif decide (c9 b c≥65)then decide (c9 b c≤90) || gx (c9 b c) 97 122 else gx (c9 b c) 97 122)) (c9 b c !=32 || d&&e) (d&&e)else d&&e
theorem r71_0(s:Y)(r:Bool)(d:J)(m:Nat)(cap:Nat)(L:Int)(i:Int)(jk:Tmps)(R:Exit→J→Ya→Prop):(jbn Tryz.prog G37 noL Tryz.f126.ntmps (ja2 Tryz.f126 0) (tl S71_0.live (V71_0 (s,r,d,m,cap,L,i)) jk) (ml S71_0.mid (B71_0 (s,r,d,m,cap,L,i))) S71_0.n fun e t' m' _=>S71_0.out R e t' m')=(dy (bw i L) (cl i (m:Int)) (f0 d 300 300) (bif jbg .u8 d (ew i)then bq (decide (c9 i d≥48)) true (bv (decide (c9 i d≥65)) (decide (c9 i d≤90) || jp (c9 i d) 97) (jp (c9 i d) 97)) (mf (bk s i&&rk (bk s i) (bv (aw s i 57) (!gx (c9 i d) 48 57 || true) true) s i d) (rk (aw s i 57) (!gx (c9 i d) 48 57&&c9 i d !=32) s i d) (f0 d 300 300) R [] (S s::B false::du L i 300 m cap) (S s::B r::dp L i 300 m cap) (kr [] d 300)) False else False) (R (.exit 0) (S s::B r::du L i 300 m cap) [kr [] d 300])):=by kernel_rfl
theorem l71_0:LOKf Tryz.prog (oneL 0 S71_0.hA) Tryz.f126:=by
 refine jbb (h:=S71_0.hA) (by kernel_rfl) (jbo ok_G37 hmix (by kernel_rfl) (ja0 _) S71_0 V71_0 B71_0 (fun(s,r,d,m,cap,L,i)=>(m-i).toNat) ?_ ?_ ?_)
 ·intro vs bs s h;simp only[S71_0]at h;split at h
  all_goals first | (cases h;exact⟨rfl,rfl⟩) | cases h | (split at h<;>first | (rename_i hq;cases h;have hq:=jah hq;subst hq;exact⟨rfl,rfl⟩) | cases h)
 ·exact fun⟨s,r,d,m,cap,L,i⟩ hp=>by
   simp only[S71_0,jaf]at hp;have hv:=jc3.1 hp.1;simp[V71_0,B71_0,S71_0,jaw,jbs,idsL,ids,jao hv.plain]
 ·intro⟨s,r,d,m,cap,L,i⟩ jk Z hp hf;rw[r71_0];delta e7 dy kr ak bp cq du av bq bm mf ax az ct dp f0 bv ew c9 gx au aw rk al bk jp cl bw;simp only[S71_0]at hp hf;simp only[jaf,jae]at hp;obtain⟨hV,hA,hp⟩:=hp;have hv:=jc3.1 hV;have e0:0+i.toNat*1=i.toNat:=by omega
  rw[e0];simp only[hv.rlb];have hg:∀ps,(jas ps d&&true&&true)=true:=fun ps=>by rw[goodL_plain hv.plain];rfl
  apply Ka<;>intro h
  ·have h:=jab h;obtain⟨a1,a2,a3⟩:=hv.at hp.1 (by omega)
   have hcb:jai s i.toNat=65∨jai s i.toNat=88∨jai s i.toNat=57:=by
    have hm:jai s i.toNat∈bz s:=List.drop_subset i.toNat (bz s) (by rw[jca hp.1 (by omega)];exact Kh);have:=Kf.1 hA _ hm;have:=jbj.1 this;simp only[Kg,List.not_mem_nil,or_false]at this;omega
   rw[jca hp.1 (by omega),a3,onGo]at hf;rw[a1,w64 (n:=i+1) (by omega),jaa (show 0≤i∧i<(m:Int)by omega),jaa (show 0≤i∧i<(s.size:Int)by omega)];generalize jar d i.toNat=b at*;generalize jai s i.toNat=c at*
   have el:(bif decide (b≥65)then decide (b≤90) || decide (b≥97) &&decide (b≤122)else decide (b≥97) &&decide (b≤122))=letZ b:=by
    unfold letZ;rw[Kl];by_cases h1:b≥65<;>simp[h1] <;>omega
   have ed:(decide (b≥48) &&decide (b≤57))=jf6 b:=by
    rw[Kl];simp[jf6]
   rw[el,ed]
   have key:(bif c==65 then bif !letZ b then b !=32 || c==57&& (!jf6 b&&b !=32)else c==57&& (!jf6 b&&b !=32)else c==57&& (!jf6 b&&b !=32))= !oneZ c b:=by
    unfold oneZ;rcases hcb with rfl | rfl | rfl<;>by_cases h2:b=32<;>simp[h2] <;>cases letZ b<;>cases jf6 b<;>simp
   rw[key];refine c_t rfl (c_t rfl (c_t (by simp) (c_t (by cases decide (b≥65) <;>simp) (c_t (by cases c==65<;>cases !letZ b<;>cases c==57<;>simp) (Ka (fun q=>c_t (hg _) ?_) (fun q=>c_t (hg _) ?_))))))
   ·have q:oneZ c b=false:=by simpa using q
    rw[q,Bool.false_and,cond_false]at hf;exact hf i
   ·have q:oneZ c b=true:=by simpa using q
    rw[q,Bool.true_and]at hf;exact⟨(s,r,d,m,cap,L,i+1),rfl,rfl,by simp only[S71_0,jaf,jae];exact⟨hV,hA,by omega⟩,by simp only;omega,hf⟩
  ·have h:=jac h;have hz:(bz s).drop i.toNat=[]:=KD (by rw[jak];omega);rw[hv.end (by omega),hz]at hf;exact c_t (hg _) (hf i)
def s71(s:Y)(t:Y):Bool×Value:=((bz s).all (hasZ [65,88,57]) &&decide (s.size≤1000∧t.size≤9223372036854775807),.bool (decide ((t.size:Int)=s.size) &&onGo (bz s) (bz t)))
theorem v71(s:Y)(t:Y)(R:Value→Prop):jax Tryz.prog G37 (oneL 0 S71_0.hA) Tryz.f126 [Enc.enc s,Enc.enc t] (fun _=>none) 0 (fun v _ _=>R v)=(bif al t !=al s then R (B false)else∀a:Nat,nx (S71_0.toLSpec.pre (s,(false,(jc t 7 300,(t.size,(a,(natO t.size,(0:Int)))))))) (onGo (bu s 0) (ku t 7 300)) t a 7 300 310 (Int→gy (dx (jc t 7 300) 310) (B true) R) (gy (dx (jc t 7 300) 310) (B false) R)):=by kernel_rfl
theorem ok71:jan Tryz.prog 126 (sp2 s71):=by
 refine jcz ok_G37 hmix (.m Tryz.func126) l71_0 jag fun s t hc=> ?_
 rw[ja4,v71];delta dx jv jt nx gy jc ku bu al
 try dsimp only[s71]
 obtain⟨hA,hc⟩:=Bool.and_eq_true_iff.1 hc;have hc:=jab hc;obtain⟨hv,hz⟩:=jlt t;have hV:=jc3.2 hv;refine Ka (fun h=> ?_) (fun h=>fun cap _=> ?_)
 ·have h:¬(t.size:Int)=s.size:=by simpa using h
  rw[jad h];rfl
 ·have h:(t.size:Int)=s.size:=by simpa using h
  have hg:(jas [(7,300)] (Lib.strCells t) &&true&&true&& (jaw 310 (Lib.strCells t) &&true))=true:=by rw[goodL_plain hv.plain];simp[jaw,idsL,jao hv.plain]
  have hi:(jaw 310 (Lib.strCells t) &&true)=true:=by simp[jaw,idsL,jao hv.plain]
  have z0:Int.toNat 0=0:=rfl;simp only[hv.rlb,z0,List.drop_zero,hz];refine c_t hg (c_t ?_ ?_)
  ·show(vwOK (Lib.strCells t) t.size&& ((bz s).all (hasZ [65,88,57]) &&decide ((0:Int)≤0∧(0:Int)≤t.size∧natO t.size=t.size∧s.size=t.size∧t.size≤1000)))=true;rw[hV,hA,jby];simp only[Bool.true_and,jae];exact⟨by omega,by omega,trivial,by omega,by omega⟩
  ·rw[jaa h,Bool.true_and];refine Ka (fun q _=>c_t hi fun _=>by rw[q]) (fun q _=>c_t hi fun _=>by rw[q])
end Go.Px
end
noncomputable section
namespace Go.Px
open Go Go.Ab Go.Proofs Go.Shelf
theorem dec_from:∀(l:Yc)(a:Nat),dgL (zl l)=true→Lib.decFrom a l=some (numZ (zl l) a).toNat∧0≤numZ (zl l) a
 | [],a,_=>⟨rfl,Int.natCast_nonneg a⟩
 | b::r,a,h=>by
  have h:dgL ((b.toNat:Int)::zl r)=true:=h
  have h1:48≤b.toNat∧b.toNat≤57:=by
   simp only[dgL,List.all_cons,jaf,jae]at h;omega
  have h2:dgL (zl r)=true:=by
   simp only[dgL,List.all_cons,jaf]at h;exact h.2
  obtain⟨e1,e2⟩:=dec_from r (a*10+(b.toNat-48)) h2;have e:((a*10+(b.toNat-48):Nat):Int)=(a:Int)*10+((b.toNat:Int)-48):=by omega
  rw[e]at e1 e2;have hd:Lib.digitVal b=some (b.toNat-48):=by rw[Lib.digitVal,Kd h1]
  refine⟨?_,e2⟩;rw[Lib.decFrom,hd];exact e1
theorem atoi_dig{s:Y}(h0:1≤s.size)(h:dgL (bz s)=true):Lib.atoi s.data.toList=some (dval (bz s)):=by
 have hb:bz s=zl s.data.toList:=rfl;have hl:s.data.toList.length=s.size:=rfl;rw[hb]at h ⊢;generalize s.data.toList=l at*;cases l with
 | nil=>simp at hl;omega
 | cons b r=>
  have h1:48≤b.toNat∧b.toNat≤57:=by
   have h:dgL ((b.toNat:Int)::zl r)=true:=h;simp only[dgL,List.all_cons,jaf,jae]at h;omega
  have n45:(b==45)=false:=by
   cases q:b==45 with
   | false=>rfl
   | true=>have:=eq_of_beq q;rw[this]at h1;revert h1;decide
  have n43:(b==43)=false:=by
   cases q:b==43 with
   | false=>rfl
   | true=>have:=eq_of_beq q;rw[this]at h1;revert h1;decide
  obtain⟨e1,e2⟩:=dec_from (b::r) 0 h;rw[Lib.atoi,n45,n43];show(Lib.decNat (b::r)).map (fun m:Nat=>(m:Int))=_;have:Lib.decNat (b::r)=Lib.decFrom 0 (b::r):=rfl;rw[this,e1,Option.map_some,dval];congr 1;exact Int.toNat_of_nonneg e2
def s68(s:Y):Bool×Value:=(decide (1≤s.size∧s.size≤18) &&dgL (bz s),.tuple ⟨[.int .i64 (dval (bz s)),.nilIface]⟩)
theorem ok68:jan Tryz.prog 183 (sp1 s68):=shelf1 c68 fun s hc w _=>by
 simp only[s68,jaf,jae]at hc;refine(Any.strconv_Atoi (ρ:=Tryz.lays172_ren) Tryz.lays172 s (dval (bz s)) hc.1.2 (atoi_dig hc.1.1 hc.2) w).mono fun e w' ⟨h1,t,h2⟩=>⟨h1,?_⟩
 subst h2;exact Lib.bytesWorld_below _ _ _
theorem jih:∀(ro cs:O)(a:Int),okR ro→((gsGo ro cs).length:Int)=cdg ro∧dgL (gsGo ro cs)=true∧numZ (gsGo ro cs) a=rdGo (ro.map rmk) cs a
 | [],_,_,_=>⟨rfl,rfl,rfl⟩
 | r::rs,cs,a,hok=>by
  have hok':okR rs:=fun x hx=>hok x (Kj _ hx)
  rw[gsGo,cdg,List.map_cons,rdGo];have hr:=jmu (cs.headD 0)
  have dig:∀l,dgL l=true→dgL ((48+rdD (cs.headD 0))::l)=true:=fun l h=>by
   simp only[dgL,List.all_cons,jaf,jae]at h ⊢;exact⟨by omega,h⟩
  have e:a*10+(48+rdD (cs.headD 0)-48)=a*10+rdD (cs.headD 0):=by omega
  rcases jc8 (hok r Kh)with rfl | rfl | rfl | rfl | rfl | rfl
  ·obtain⟨h1,h2,h3⟩:=jih rs cs.tail (a*10+rdD (cs.headD 0)) hok';refine⟨?_,dig _ h2,?_⟩
   ·show(((_::gsGo rs cs.tail).length:Nat):Int)=1+cdg rs;rw[List.length_cons];omega
   ·show numZ (_::gsGo rs cs.tail) a=rdGo (rs.map rmk) cs.tail (a*10+rdD (cs.headD 0));rw[numZ,e];exact h3
  ·obtain⟨h1,h2,h3⟩:=jih rs cs.tail (a*10+rdD (cs.headD 0)) hok';refine⟨?_,dig _ h2,?_⟩
   ·show(((_::gsGo rs cs.tail).length:Nat):Int)=1+cdg rs;rw[List.length_cons];omega
   ·show numZ (_::gsGo rs cs.tail) a=rdGo (rs.map rmk) cs.tail (a*10+rdD (cs.headD 0));rw[numZ,e];exact h3
  ·obtain⟨h1,h2,h3⟩:=jih rs cs a hok';exact⟨by simpa using h1,h2,h3⟩
  all_goals
   obtain⟨h1,h2,h3⟩:=jih rs cs.tail a hok';exact⟨by simpa using h1,h2,h3⟩
end Go.Px
end
noncomputable section
set_option maxHeartbeats 3200000
namespace Go.Px
open Go Go.Ab Go.Proofs Go.Shelf
def G38:Env:=(((Env.nil.addG 181 h62).addG 184 h64).addG 182 h67).add 183 (sp1 s68)
theorem ok_G38:ja3 Tryz.prog G38:=jaj (jau (jau (jau jav jm6) jm5) h67_ok) ok68
theorem cN_nv:∀(rs:O),okR rs→cN rs=nv (rs.map rmk)
 | [],_=>rfl
 | r::rs,hok=>by
  have hok':okR rs:=fun x hx=>hok x (Kj _ hx)
  have ih:=cN_nv rs hok';rw[cN,List.map_cons,je1];rcases jc8 (hok r Kh)with rfl | rfl | rfl | rfl | rfl | rfl<;>simp[rmk] <;>omega
theorem gs_use{s t:Y}(h:pN (bz s)=true):digZ (rdA (bz s) (bz t)) (pD (bz s)).toNat=gsGo (rolF (pS (bz s))) (bz t)∧0≤rdA (bz s) (bz t)∧rdA (bz s) (bz t)<tenZ (pD (bz s)).toNat∧dval (gsGo (rolF (pS (bz s))) (bz t))=rdA (bz s) (bz t)∧cN (rolF (pS (bz s)))=pW (bz s):=by
 have hl:=jhg s;obtain⟨f1,f2,f3,_⟩:=jh8 hl h;obtain⟨g1,g2,g3⟩:=jih (rolF (pS (bz s))) (bz t) 0 f1;have hp:=jdv h;have hv:dval (gsGo (rolF (pS (bz s))) (bz t))=rdA (bz s) (bz t):=by rw[dval,g3,f2,rdA]
 have hlen:(gsGo (rolF (pS (bz s))) (bz t)).length=(pD (bz s)).toNat:=by omega
 have hr:=jdz _ g2;rw[hv,hlen]at hr;refine⟨by rw[←hv];exact jis _ _ hlen g2,hr.1,hr.2,hv,by rw[cN_nv _ f1,f2,jn0 h]⟩
def s22(s:Y)(t:Y):Bool×Value:=(decide (s.size≤9223372036854775807∧t.size≤9223372036854775807),.tuple ⟨[.int .i64 (rdV (bz s) (bz t)).1,.int .i64 (rdV (bz s) (bz t)).2]⟩)
theorem fn22:Fn1 Tryz.prog 125 Tryz.f125:= .m Tryz.func125
def im(c:Y)(a b d:Nat):Bool:=decide (a≤b∧c.size≤d)
theorem v22(s:Y)(t:Y)(R:Value→Prop):jax Tryz.prog G38 noL Tryz.f125 [Enc.enc s,Enc.enc t] (fun _=>none) 0 (fun v _ _=>R v)=(fq (pN (bz s)) s (∀a:Nat,∀b:Nat,∀c:J,jbv c a b=true→zc c a=rolF (pS (bz s))→(bif al t !=pW (bz s)then R (la 31)else bif jbv c a b&&decide (a≤1000∧cN (zc c a)≤al t)then∀d:Y,sz (gsGo (zc c a) (bz t))=d→i6 (im d 1 d.size 18) (dgL (bz d)) (oe d s c a b) (∀e:Y,∀f:Int,sz (l7 false s d c a).fst=e→(l7 false s d c a).snd=f→(bif ez e t then R (aq [ak 0] (I (dval (bz d))))else bif oe d s c a b then∀g:Y,∀h:Int,sz (l7 true s d c a).fst=g→(l7 true s d c a).snd=h→go (ez g t) (pG (bz s) || true) true (ez g t&& (pG (bz s) &&decide (dval (bz d)>0))) (R (aq [ak 0] (I (cm 0 (dval (bz d)))))) (R (la 31))else False)) False else False)) (R (la 30))):=by kernel_rfl
theorem ok22:jan Tryz.prog 125 (sp2 s22):=by
 refine jcz ok_G38 hmix fn22 jal jag fun s t hc=> ?_
 rw[ja4,v22];delta av co fq ak bp la i6 go aq cm ez ic l7 al oe im;have hc:(s.size≤9223372036854775807∧t.size≤9223372036854775807):=jab hc
 try dsimp only[s22]
 refine c_t (jaa hc.1) (Ka (fun h=> ?_) (fun h=> ?_))
 ·intro k cap d hR hz;obtain⟨u1,u2,u3,u4,u5⟩:=gs_use (t:=t) h;have hl:=jhg s;have hr:=jat.1 hR;have hk:k=(pS (bz s)).length:=by rw[←rol_len h,←hz,jbk hr]
  have hp:=jdv h;have bl:((bz t).length:Int)=t.size:=by rw[jak]
  apply Ka<;>intro hw
  ·have hw:¬(t.size:Int)=pW (bz s):=by simpa using hw
   rw[rdV,Kd h,bl,Kc hw]
  ·have hw:(t.size:Int)=pW (bz s):=by simpa using hw
   refine c_t (by rw[hR,hz,u5];simp only[Bool.true_and,jae];omega) fun e he=> ?_
   rw[hz,←u1]at he;have hdd:=jfm (pD (bz s)).toNat (rdA (bz s) (bz t));have be:bz e=digZ (rdA (bz s) (bz t)) (pD (bz s)).toNat:=by rw[←he,jc7 (jhi hdd)]
   have ze:e.size=(pD (bz s)).toNat:=by rw[←jak,be,jd0]
   have hv:dval (bz e)=rdA (bz s) (bz t):=by rw[be,u1,u4]
   rw[hv,rdV,Kd h,bl,Kd hw];generalize rdA (bz s) (bz t)=m at*;have hm:((m.natAbs:Nat):Int)=m:=by omega
   have hm':(((0-m).natAbs:Nat):Int)=m:=by omega
   obtain⟨g1,g2⟩:=jls h hR hz (m:=m) (by omega);obtain⟨k1,k2⟩:=jls h hR hz (m:=0-m) (by omega);rw[hm,he]at g1 g2;rw[hm',he]at k2;have d0:decide (m<0)=false:=jad (by omega);rw[d0]at g2;have ht:tenZ (pD (bz s)).toNat≤1000000000:=jjg (by omega)
   have hF:∀(a:Y)(n:Int),sz (jds (pS (bz s)) (pW (bz s)) (pD (bz s)).toNat n)=a→(a.toList==t.toList)=decide (fdN (bz s) n=bz t):=fun a n e=>by
    rw[jcv,←e,jc7 (jik hl.1 _ _ _)];rfl
   refine c_t (by rw[be,hdd,ze,Bool.and_true,jae];omega) (c_t g1 fun a1 l1 q1 q2=>Ka (fun p=> ?_) (fun p=>c_t g1 fun a2 l2 q3 q4=> ?_))
   ·rw[hF _ _ (by rw[←q1,g2])]at p;rw[Kd (jab p)]
   ·rw[hF _ _ (by rw[←q1,g2])]at p;have p:=jac p;rw[Kc p];refine c_t (by cases ByteArray.toList a2==ByteArray.toList t<;>simp) ?_;by_cases m0:m>0
    ·have d1:decide (0-m<0)=true:=jaa (by omega);rw[d1]at k2;rw[hF _ _ (by rw[←q3,k2]),w64 (n:=0-m) (by omega)];by_cases r1:fdN (bz s) (0-m)=bz t
     ·cases hG:pG (bz s)with
      | true=>
       have:(decide (fdN (bz s) (0-m)=bz t) && (true&&decide (m>0)))=true:=by rw[jaa r1,jaa m0];rfl
       rw[this,Kd ⟨rfl,m0,r1⟩];rfl
      | false=>
       rw[Bool.false_and,Bool.and_false,Kc (fun q=>by cases q.1)];rfl
     ·rw[jad r1,Bool.false_and,Kc (fun q=>r1 q.2.2)];rfl
    ·rw[jad m0,Bool.and_false,Bool.and_false,Kc (fun q=>m0 q.2.1)];rfl
 ·have h1:¬pN (bz s)=true:=by rw[h];simp
  rw[rdV,Kc h1]
def G39:Env:=((((Env.nil.add 114 (sp2 s78)).addG 79 h70).addG 184 h64).add 126 (sp2 s71)).add 125 (sp2 s22)
theorem ok_G39:ja3 Tryz.prog G39:=jaj (jaj (jau (jau (jaj jav ok78) jm4) jm5) ok71) ok22
theorem ch_all{l:O}(h:vOK l=true)(hn:pN l=false):(pS l).all (hasZ [65,88,57])=true:=by
 have hc:jfd (exZ l)=true:=by
  simp only[vOK,jaf,Ko]at h;simp only[pN]at hn;rcases h.2 with q | q
  ·exact q
  ·rw[h.1,q]at hn;cases hn
 rw[pS,Kd h];simp only[jfd,jaf]at hc;exact hc.1
theorem digZ_0{k:Nat}:digZ (((0:Int).natAbs:Nat):Int) k=rep1 48 k:=(rep48p (jd0 _ _)).2 ((dig_zero (n:=0) (by have:=jc9 k;omega)).2 rfl)
def s24(s:Y)(t:Y):Bool×Value:=(decide (s.size≤9223372036854775807∧t.size≤9223372036854775807),.bool (hoZ (bz s) (bz t)))
theorem v24(s:Y)(t:Y)(R:Value→Prop):jax Tryz.prog G39 noL Tryz.f75 [Enc.enc s,Enc.enc t] (fun _=>none) 0 (fun v _ _=>R v)=(fq (vOK (bz s)) s (bif pN (bz s)then∀a:Nat,∀b:Nat,∀c:J,jbv c a b=true→zc c a=rolF (pS (bz s))→br (im t s.size 9223372036854775807 9223372036854775807) (B ((rdV (bz s) (bz t)).snd==0)) R else br ((bz (ic s)).all (hasZ [65,88,57]) &&im t (ic s).size 1000 9223372036854775807) (B (decide (al t=fk (ic s)) &&onGo (bz (ic s)) (bz t))) R) (R (B false))):=by kernel_rfl
theorem ok24:jan Tryz.prog 75 (sp2 s24):=by
 refine jcz ok_G39 hmix (.m Tryz.func75) jal jag fun s t hc=> ?_
 rw[ja4,v24];delta av co fq br ic fk al im;have hc:(s.size≤9223372036854775807∧t.size≤9223372036854775807):=jab hc
 try dsimp only[s24]
 refine c_t (jaa hc.1) (Ka (fun h=>Ka (fun hn=> ?_) (fun hn=> ?_)) (fun h=> ?_))
 ·intro k cap d _ _;refine c_t (jaa hc) ?_;rw[hoZ,Kd h,Kd hn];rfl
 ·have hl:=jhg s;have b1:bz (sz (pS (bz s)))=pS (bz s):=jc7 hl.1;have z1:(sz (pS (bz s))).size=(pS (bz s)).length:=by rw[←jak,b1]
  have hn':¬pN (bz s)=true:=by rw[hn];simp
  rw[b1,z1,ch_all h hn];refine c_t (by simp only[Bool.true_and,jae];omega) ?_;rw[hoZ,Kd h,Kc hn',pCh h hn,jak]
 ·have h1:¬vOK (bz s)=true:=by rw[h];simp
  rw[hoZ,Kc h1]
def s42(s:Y)(t:Y):Bool×Value:=(decide (s.size≤9223372036854775807∧t.size≤9223372036854775807),.tuple ⟨[.string (sz (fiS (bz s) (bz t))),.bool (fiF (bz s) (bz t)),.int .i64 (fiE (bz s))]⟩)
def s54(s:Y):Bool×Value:=(decide (s.size≤9223372036854775807),.tuple ⟨[.string (sz (zeS (bz s))),.int .i64 (pE (bz s))]⟩)
theorem v54(s:Y)(R:Value→Prop):jax Tryz.prog G39 noL Tryz.f219 [Enc.enc s] (fun _=>none) 0 (fun v _ _=>R v)=(fq (vOK (bz s)) s (bif pN (bz s)then∀a:Nat,∀b:Nat,∀c:J,jbv c a b=true→zc c a=rolF (pS (bz s))→pq (ig f9 (pD (bz s)) 1000 1000) false s (repZ (bz f9) (pD (bz s)).toNat) c [] a b (ak 0) R else br (ig ⟨#[32]⟩ (pW (bz s)) 1000 1000) (aq [ak 0] (S (sz (repZ (bz ⟨#[32]⟩) (pW (bz s)).toNat)))) R) (R (aq [ak 30] cv))):=by kernel_rfl
theorem ok54:jan Tryz.prog 219 (sp1 s54):=by
 refine jb6 ok_G39 hmix (.m Tryz.func219) jal jag fun s hc=> ?_
 rw[ja4,v54];delta av co fq aq ay cv ak br ig ic l7 al oe pq f9;have hc:(s.size≤9223372036854775807):=jab hc
 try dsimp only[s54]
 refine c_t (jaa hc) (Ka (fun h=>Ka (fun hn=> ?_) (fun hn=> ?_)) (fun h=> ?_))
 ·intro k cap d hR hz;have hp:=jdv hn
  have e48:repZ (bz (ByteArray.mk #[48])) (pD (bz s)).toNat=digZ (((0:Int).natAbs:Nat):Int) (pD (bz s)).toNat:=by
   rw[digZ_0];exact jjl 48 _
  obtain⟨g1,g2⟩:=jls hn hR hz (m:=0) (by have:=jc9 (pD (bz s)).toNat;omega);have d0:decide ((0:Int)<0)=false:=rfl;rw[d0]at g2;rw[e48];refine c_t (jaa ⟨by omega,by omega,by decide⟩) (c_t g1 fun t l h1 h2=> ?_);rw[g2]at h1;rw[zeS,Kd h,Kd hn,pE,Kd h,←h1];rfl
 ·have hw:= @jkj s;have hn':¬pN (bz s)=true:=by rw[hn];simp
  refine c_t (jaa ⟨by omega,by omega,by decide⟩) ?_;have e32:bz (ByteArray.mk #[32])=[32]:=rfl;rw[zeS,Kd h,Kc hn',pE,Kd h,e32,jjl]
 ·have h1:¬vOK (bz s)=true:=by rw[h];simp
  rw[zeS,Kc h1,pE,Kc h1,ji4]
end Go.Px
end
noncomputable section
namespace Go.Ff
open Go Go.Ab Go.Proofs Go.Px
theorem jjs{l:J}:jbz l=true↔ ∀v∈l,∃n,v= .int .u8 n:=by
 induction l with
 | nil=>simp[jbz]
 | cons v r ih=>
  constructor
  ·intro h;unfold jbz at h;split at h
   ·rename_i heq;cases heq
   ·rename_i n r' heq;cases heq;intro u hu;rcases Kg.1 hu with rfl | hu
    ·exact⟨_,rfl⟩
    ·exact ih.1 h u hu
   ·cases h
  ·intro h;obtain⟨n,rfl⟩:=h v (Kh ..);exact ih.2 fun u hu=>h u (Kj _ hu)
theorem isB_plain{d:J}(h:jbz d=true):ja1 d=true:=by
 rw[←jml h];exact jhv _
theorem atB:∀{d:J}{j:Nat},jbz d=true→j<d.length→jbg .u8 d j=true∧jar d j=(d.map iv).getD j 0
 | .int .u8 n::r,0,_,_=>⟨rfl,rfl⟩
 | .int .u8 n::r,j+1,h,hj=>by
  have:=atB (d:=r) (j:=j) (by simpa[jbz]using h) (by simpa using hj);simpa[jbg,jar]using this
end Go.Ff
end
noncomputable section
namespace Go.Ab
open Go Go.RowKit
def eqI(a b:Int):Bool:=match a,b with
 | .ofNat m,.ofNat n=>Nat.beq m n
 | .negSucc m,.negSucc n=>Nat.beq m n
 | _,_=>false
def eqU:Yc→Yc→Bool
 | [],[]=>true
 | a::l,b::r=>match Nat.beq a.toNat b.toNat with | true=>eqU l r | false=>false
 | _,_=>false
def eqK(a b:IntKind):Bool:=match decEq a b with | .isTrue _=>true | .isFalse _=>false
mutual
def eqV:Value→Value→Bool
 | .int k a,.int k' b=>match eqK k k' with | true=>eqI a b | false=>false
 | .bool a,.bool b=>match a,b with | true,true=>true | false,false=>true | _,_=>false
 | .string ⟨⟨a⟩⟩,.string ⟨⟨b⟩⟩=>eqU a b
 | .agg ⟨l⟩,.agg ⟨r⟩=>eqVL l r
 | .iface t a,.iface t' b=>match Nat.beq t t' with | true=>eqV a b | false=>false
 | .nilIface,.nilIface=>true
 | _,_=>false
def eqVL:J→J→Bool
 | [],[]=>true
 | a::l,b::r=>match eqV a b with | true=>eqVL l r | false=>false
 | _,_=>false
end
theorem eqI_spec{a b:Int}(h:eqI a b=true):a=b:=by
 unfold eqI at h;split at h
 ·rw[jah h]
 ·rw[jah h]
 ·cases h
theorem eqU_spec:∀{a b:Yc},eqU a b=true→a=b
 | [],[],_=>rfl
 | a::l,b::r,h=>by
  simp only[eqU]at h;split at h
  ·rename_i hb;rw[UInt8.toNat_inj.1 (jah hb),eqU_spec h]
  ·cases h
 | [],_::_,h=>by cases h
 | _::_,[],h=>by cases h
theorem eqK_spec{a b:IntKind}(h:eqK a b=true):a=b:=by
 unfold eqK at h;split at h
 ·assumption
 ·cases h
mutual
theorem eqV_spec:∀{a b:Value},eqV a b=true→a=b
 | .int k a,.int k' b,h=>by
  simp only[eqV]at h;split at h
  ·rename_i hk;rw[eqK_spec hk,eqI_spec h]
  ·cases h
 | .bool a,.bool b,h=>by cases a<;>cases b<;>first | rfl | cases h
 | .string ⟨⟨a⟩⟩,.string ⟨⟨b⟩⟩,h=>by
  simp only[eqV]at h;rw[eqU_spec h]
 | .agg ⟨l⟩,.agg ⟨r⟩,h=>by
  simp only[eqV]at h;rw[jim h]
 | .iface t a,.iface t' b,h=>by
  simp only[eqV]at h;split at h
  ·rename_i ht;rw[jah ht,eqV_spec h]
  ·cases h
 | .nilIface,.nilIface,_=>rfl
theorem jim:∀{a b:J},eqVL a b=true→a=b
 | [],[],_=>rfl
 | a::l,b::r,h=>by
  simp only[eqVL]at h;split at h
  ·rename_i hb;rw[eqV_spec hb,jim h]
  ·cases h
 | [],_::_,h=>by cases h
 | _::_,[],h=>by cases h
end
def memo:List (J×Value)→Spec
 | []=>fun _ _=>none
 | (a,v)::r=>fun args bs=>match eqVL args a with | true=>some (true,v) | false=>memo r args bs
theorem jgq{args:J}{bs:Ya}{b:Bool}{v:Value}:∀{l:List (J×Value)},memo l args bs=some (b,v)→b=true∧(args,v)∈l
 | [],h=>by cases h
 | (a,u)::r,h=>by
  simp only[memo]at h;split at h
  ·rename_i ha;simp only[Kb,Ke]at h;exact⟨h.1.symm,by rw[jim ha,h.2];exact Kh ..⟩
  ·obtain⟨h1,h2⟩:=jgq h;exact⟨h1,Kj _ h2⟩
variable [Tabs]
def AllD(P:Program)(G:Env)(L:Nat→Option jcb)(fn:Func):List (J×Value)→Prop
 | []=>True
 | (a,v)::r=>ja4 P G L fn a v∧AllD P G L fn r
theorem AllD_mem{P:Program}{G:Env}{L:Nat→Option jcb}{fn:Func}{a:J}{v:Value}:∀{l:List (J×Value)},AllD P G L fn l→(a,v)∈l→ja4 P G L fn a v
 | (a',v')::r,h,hm=>by
  rcases Kg.1 hm with e | hm
  ·cases e;exact h.1
  ·exact AllD_mem h.2 hm
theorem pure_memo{P:Program}{G:Env}{L:Nat→Option jcb}{f:FuncId}{fn:Func}(hG:ja3 P G)(hm:P.follows .mixedOrders=true)(hf:Fn1 P f fn)(hL:LOKf P L fn){l:List (J×Value)}
  (hp:(l.all fun x=>ja1 x.1&&Nat.ble x.1.length fn.ntmps)=true) (h:AllD P G L fn l):jan P f (memo l):=by
 refine jdd hG hm hf hL fun args bs v hs=> ?_
 obtain⟨_,hmem⟩:=jgq hs;have:=Kf.1 hp _ hmem;simp only[jaf]at this;exact⟨this.1,jag this.2,AllD_mem h hmem⟩
omit [Tabs] in
omit [Tabs] in
def RunL(P:Program)(G:Env)(L:Nat→Option jcb)(fn:Func):List (J×Value)→Prop
 | []=>True
 | (a,v)::r=>jax P G L fn a (fun _=>none) 0 (fun v' _ _=>v'=v)∧RunL P G L fn r
theorem allD_of{P:Program}{G:Env}{L:Nat→Option jcb}{fn:Func}:∀{l:List (J×Value)},RunL P G L fn l→AllD P G L fn l
 | [],_=>trivial
 | (_,_)::_,h=>⟨by rw[ja4];exact h.1,allD_of h.2⟩
inductive Nst where
 | leaf
 | app (src:Option Nat) (n s:Nat) (r:Nst)
 | bts (n:Nat) (r:Nst)
 | both (a b:Nst)
 | le (i:Nat) (r:Nst)
def lenB(t:J)(c n s:Nat):Bool:=Nat.beq (t.length+n*s) (c*s) &&Nat.ble n c&&Nat.ble c 9223372036854775807&&true&&true
def ji2(p:Prop):Nst→List (J×Nat×Nat×Nat)→Prop
 | .leaf,_=>p
 | .bts n r,e=>∀c:Nat,Nat.ble n c=true→ji2 p r e
 | .both a b,e=>ji2 p a e∧ji2 p b e
 | .le i r,e=>match e[i]? with
  | some (_,c0,n0,_)=>bif Nat.ble n0 c0 then ji2 p r e else False
  | none=>True
 | .app none n s r,e=>∀(c:Nat)(t:J),jbd t c n s=true→ji2 p r ((t,c,n,s)::e)
 | .app (some i) n s r,e=>match e[i]? with
  | some (t0,c0,n0,s0)=>bif lenB t0 c0 n0 s0 then∀(c:Nat)(t:J),jbd t c n s=true→ji2 p r ((t,c,n,s)::e)else False
  | none=>True
theorem lenB_ok{t:J}{c n s:Nat}(h:jbd t c n s=true):lenB t c n s=true:=by
 simp only[jbd,jaf]at h;simp only[lenB,h.1.1.2,h.1.2,h.2,Bool.and_true]
theorem lenB_le{t:J}{c n s:Nat}(h:jbd t c n s=true):Nat.ble n c=true:=by
 simp only[jbd,jaf]at h;exact h.1.2
theorem jgd{p:Prop}(hp:p):∀(t:Nst)(e:List (J×Nat×Nat×Nat)),(∀x∈e,jbd x.1 x.2.1 x.2.2.1 x.2.2.2=true)→ji2 p t e
 | .leaf,_,_=>hp
 | .bts n r,e,h=>fun c _=>jgd hp r e h
 | .both a b,e,h=>⟨jgd hp a e h,jgd hp b e h⟩
 | .le i r,e,h=>by
  simp only[ji2];split
  ·rename_i t0 c0 n0 s0 hi;rw[lenB_le (h _ (List.mem_of_getElem? hi))];exact jgd hp r e h
  ·trivial
 | .app none n s r,e,h=>fun c t ht=>jgd hp r _ fun x hx=>by
  rcases Kg.1 hx with rfl | hx
  ·exact ht
  ·exact h x hx
 | .app (some i) n s r,e,h=>by
  simp only[ji2];split
  ·rename_i t0 c0 n0 s0 hi;rw[lenB_ok (h _ (List.mem_of_getElem? hi))]
   exact fun c t ht=>jgd hp r _ fun x hx=>by
    rcases Kg.1 hx with rfl | hx
    ·exact ht
    ·exact h x hx
  ·trivial
def jni:List (J×Value)→List Nst→Prop
 | [],_=>True
 | (_,v)::r,[]=>v=v∧jni r []
 | (_,v)::r,k::ks=>ji2 (v=v) k []∧jni r ks
omit [Tabs] in
theorem jjp:∀l ks,jni l ks
 | [],_=>trivial
 | (_,_)::r,[]=>⟨rfl,jjp r []⟩
 | (_,_)::r,k::ks=>⟨jgd rfl k [] (by simp),jjp r ks⟩
theorem pure_memoN(ks:List Nst){P:Program}{G:Env}{L:Nat→Option jcb}{f:FuncId}{fn:Func}(hG:ja3 P G)(hm:P.follows .mixedOrders=true)(hf:Fn1 P f fn)(hL:LOKf P L fn){l:List (J×Value)}
  (hp:(l.all fun x=>ja1 x.1&&Nat.ble x.1.length fn.ntmps)=true) (h:RunL P G L fn l=jni l ks):jan P f (memo l):=
 pure_memo hG hm hf hL hp (allD_of (cast h.symm (jjp l ks)))
end Go.Ab
end
section
namespace Go.Fx
open Go Go.Ab
structure Ty where
 k:Int
 p:Int
 q:Int
 v:Bool
 s:Y
structure Vl where
 n:Int
 s:Y
instance:Enc Ty where
 enc t:= .agg ⟨[.int .i64 t.k,.int .i64 t.p,.int .i64 t.q,.bool t.v,.string t.s]⟩
 dec | .agg ⟨[.int .i64 k,.int .i64 p,.int .i64 q,.bool v,.string s]⟩=>some ⟨k,p,q,v,s⟩ | _=>none
 dec_some:=by
  intro v a h;split at h
  ·cases h;rfl
  ·cases h
 plain_enc _:=rfl
instance:Enc Vl where
 enc t:= .agg ⟨[.int .i64 t.n,.string t.s]⟩
 dec | .agg ⟨[.int .i64 n,.string s]⟩=>some ⟨n,s⟩ | _=>none
 dec_some:=by
  intro v a h;split at h
  ·cases h;rfl
  ·cases h
 plain_enc _:=rfl
abbrev I(n:Int):Value:= .int .i64 n
abbrev B(b:Bool):Value:= .bool b
def e0:Y:=⟨#[]⟩
def T0:Ty:=⟨0,0,0,false,⟨#[]⟩⟩
def V0:Vl:=⟨0,⟨#[]⟩⟩
abbrev tv(t:Ty):Value:= .agg ⟨[.int .i64 t.k,.int .i64 t.p,.int .i64 t.q,.bool t.v,.string t.s]⟩
abbrev vv(v:Vl):Value:= .agg ⟨[.int .i64 v.n,.string v.s]⟩
abbrev tup(l:J):Value:= .tuple ⟨l⟩
def most(k:Int):Int:=if k=1 then 9 else 31
def jbi(t:Ty):Prop:=(t.k=1∨t.k=2)∧1≤t.p∧t.p≤most t.k∧0≤t.q∧t.q≤t.p∧(t.k=2→t.q=0)∧t.v=false∧t.s.toList=[]
instance (t:Ty):Decidable (jbi t):=by unfold jbi;infer_instance
def base(k:Int):Int:=if k=1 then 10 else 2
def pw(b n:Int):Int:=b^n.toNat
def bnd(t:Ty):Int:=pw (base t.k) t.p
def check(t:Ty):Int:=if jbi t then 0 else 5
def Fit(v:Vl)(t:Ty):Prop:=v.s.toList=[]∧ -bnd t<v.n∧v.n<bnd t
instance (v:Vl)(t:Ty):Decidable (Fit v t):=by unfold Fit;infer_instance
def fits(v:Vl)(t:Ty):Int:=if jbi t then(if Fit v t then 0 else 6)else 5
def scl(n d:Int):Int:=if 0≤d then n*pw 10 d else n.tdiv (pw 10 (-d))
def InB(n:Int)(t:Ty):Prop:= -bnd t<n∧n<bnd t
instance (n:Int)(t:Ty):Decidable (InB n t):=by unfold InB;infer_instance
def cutN(n:Int)(t:Ty):Int:=if InB n t then n else n.tmod (bnd t)
def cutC(n:Int)(t:Ty)(c:Int):Int:=if InB n t then 0 else c
def tensL:J:=[.int .i64 1,.int .i64 10,.int .i64 100,.int .i64 1000,.int .i64 10000,.int .i64 100000,.int .i64 1000000,.int .i64 10000000,.int .i64 100000000,.int .i64 1000000000,
 .int .i64 10000000000,.int .i64 100000000000,.int .i64 1000000000000,.int .i64 10000000000000,.int .i64 100000000000000,.int .i64 1000000000000000,.int .i64 10000000000000000,.int .i64 100000000000000000,.int .i64 1000000000000000000]
def R64(n:Int):Prop:= -9223372036854775808≤n∧n≤9223372036854775807
instance (n:Int):Decidable (R64 n):=by unfold R64;infer_instance
def zer(op b:Int):Prop:=(op=9∨op=10)∧b=0
instance (op b:Int):Decidable (zer op b):=by unfold zer;infer_instance
def Q18(n:Int):Prop:= -4000000000000000000≤n∧n≤4000000000000000000
instance (n:Int):Decidable (Q18 n):=by unfold Q18;infer_instance
def quoOK(a b up:Int):Prop:=b≠0∧ -18≤up∧up≤18∧Q18 a∧Q18 b∧(0≤up→Q18 (a*pw 10 up))∧(up<0→Q18 (b*pw 10 (-up)))
instance (a b up:Int):Decidable (quoOK a b up):=by unfold quoOK;infer_instance
def dvOK(op y:Int):Prop:=op=10→y≠0
instance (op y:Int):Decidable (dvOK op y):=by unfold dvOK;infer_instance
def rOK(n u:Int):Prop:=1≤u∧u≤1000000000∧ -4000000000000000000≤n∧n≤4000000000000000000
instance (n u:Int):Decidable (rOK n u):=by unfold rOK;infer_instance
theorem w64{n:Int}(h: -9223372036854775808≤n∧n≤9223372036854775807):IntKind.i64.wrap n=n:=by rw[IntKind.wrap_i64];omega
theorem str0(s:Y):(!s.toList==(ByteArray.mk #[]).toList)= !decide (s.toList=[]):=by
 have:(ByteArray.mk #[]).toList=[]:=by kernel_rfl
 rw[this];cases s.toList<;>rfl
end Go.Fx
namespace Go.Fx
open Go Go.Ab
theorem jbp(a b:Int):IntKind.i64.wrap (IntKind.i64.wrap a*b)=IntKind.i64.wrap (a*b):=by
 simp only[IntKind.wrap_i64]
 have h:((a+9223372036854775808)%18446744073709551616-9223372036854775808)*b=a*b+18446744073709551616*(-((a+9223372036854775808)/18446744073709551616)*b):=by
  have:=Int.emod_def (a+9223372036854775808) 18446744073709551616;rw[this];grind
 rw[h];omega
theorem jbw(b:Int){n:Int}(h:n≤0):pw b n=1:=by
 rw[pw,show n.toNat=0 by omega,Int.pow_zero]
theorem jbx(b:Int){n:Int}(h:0≤n):pw b (n+1)=pw b n*b:=by
 rw[pw,pw,show(n+1).toNat=n.toNat+1 by omega,Int.pow_succ]
theorem pw_add(b:Int){n m:Int}(h:0≤n)(h':0≤m):pw b (n+m)=pw b n*pw b m:=by
 rw[pw,pw,pw,show(n+m).toNat=n.toNat+m.toNat by omega,Int.pow_add]
theorem ji5{b:Int}(hb:1≤b)(n:Int):1≤pw b n:=by
 have:0<b^n.toNat:=Int.pow_pos (by omega);unfold pw;omega
theorem jk4{b:Int}(hb:1≤b){n m:Int}(h:n≤m):pw b n≤pw b m:=by
 rcases Int.le_total n 0 with hn | hn
 ·rw[jbw b hn];exact ji5 hb m
 ·have e:m=n+(m-n):=by omega
  rw[e,pw_add b hn (by omega)];have h1:=ji5 hb n;have h2:=ji5 hb (m-n);have:=Int.mul_le_mul_of_nonneg_left h2 (show 0≤pw b n by omega);omega
theorem pw10_18:pw 10 18=1000000000000000000:=by decide
theorem pw10_9:pw 10 9=1000000000:=by decide
theorem pw2_31:pw 2 31=2147483648:=by decide
end Go.Fx
namespace Go.Fx
open Go Go.Ab
theorem tens_nat:∀n:Nat,n<19→jbg .i64 tensL n=true∧jar tensL n=10^n:=by decide
theorem tens_at{p:Int}(h:0≤p)(h':p<19):jbg .i64 tensL p.toNat=true∧jar tensL p.toNat=pw 10 p:=tens_nat _ (by omega)
theorem shl_pw{p:Int}(h:0≤p)(h':p≤62):IntKind.i64.wrap (1*2^min p.toNat 64)=pw 2 p:=by
 have h1:=jk4 (b:=2) (by omega) h';have h2:=ji5 (b:=2) (by omega) p;have h3:pw 2 62=4611686018427387904:=by decide
 rw[show min p.toNat 64=p.toNat by omega,Int.one_mul];exact w64 (by show _≤pw 2 p∧pw 2 p≤_;omega)
theorem jcf{b p:Int}(h:b=10∧p≤18∨b=2∧p≤62):IntKind.i64.wrap (pw b p)=pw b p:=by
 have h3:pw 2 62=4611686018427387904:=by decide
 have h4:=pw10_18;rcases h with⟨rfl,h⟩ | ⟨rfl,h⟩
 ·have h1:=jk4 (b:=10) (by omega) h;have h2:=ji5 (b:=10) (by omega) p;exact w64 (by omega)
 ·have h1:=jk4 (b:=2) (by omega) h;have h2:=ji5 (b:=2) (by omega) p;exact w64 (by omega)
end Go.Fx
namespace Go.Fx
open Go Go.Ab
theorem bnd_range{t:Ty}(h:jbi t):2≤bnd t∧bnd t≤2147483648:=by
 obtain⟨hk,h1,h2,_⟩:=h;unfold bnd;rcases hk with hk | hk
 ·simp only[hk,most,base]at*;have a:=jk4 (b:=10) (by omega) h1;have b:=jk4 (b:=10) (by omega) (show t.p≤9 by simpa using h2);have c:=pw10_9;have d:pw 10 1=10:=by decide
  simp only[if_true];omega
 ·simp only[hk,most,base]at*;have a:=jk4 (b:=2) (by omega) h1;have b:=jk4 (b:=2) (by omega) (show t.p≤31 by simpa using h2);have c:=pw2_31;have d:pw 2 1=2:=by decide
  simp only[show¬((2:Int)=1)by decide,if_false];omega
end Go.Fx
namespace Go.Fx
end Go.Fx
namespace Go.Fx
open Go Go.Ab
theorem valid_r{t:Ty}(h:jbi t):1≤t.p∧t.p≤31∧0≤t.q∧t.q≤t.p∧t.q≤9:=by grind [jbi,most]
end Go.Fx
namespace Go.Fx
open Go Go.Ab
theorem str_e0{s:Y}(h:s.toList=[]):s=e0:=by
 rw[Go.Lib.toList_data]at h;obtain⟨⟨l⟩⟩:=s;simp only at h;subst h;rfl
end Go.Fx
end
section
namespace Go.Cv
open Go.Ab (jac jae jaf)
def dig(c:Int):Bool:=decide (48≤c∧c≤57)
def jcn(l:List Int):Bool:=l.all fun c=>decide (c=48∨c=49)
def jbc(l:List Int):Bool:=l.all dig
def trL(l:List Int):List Int:=l.dropWhile (· ==32)
def trR(l:List Int):List Int:=(l.reverse.dropWhile (· ==32)).reverse
def ahead(c:Int)(l:List Int):List Int:=l.takeWhile (· !=c)
def past(c:Int)(l:List Int):Option (List Int):=match l.dropWhile (· !=c)with
 | []=>none
 | _::r=>some r
def expD(l:List Int):Option Int:=if 1≤l.length∧l.length≤2∧jbc l=true then some (l.foldl (fun a c=>10*a+(c-48)) 0)else none
def expZ:List Int→Option Int
 | 43::l=>expD l
 | 45::l=>(expD l).map fun n=> -n
 | l=>expD l
abbrev Num:=Bool×List Int×Int
section
variable (jaz : Bool → List Int → Int → Num) (binD : List Int → List Int)
def decR(neg:Bool)(l:List Int):Option Num:=
 match (match past 69 l with | none=>some 0 | some x=>expZ x)with
 | none=>none
 | some e=>
  let s:=ahead 69 l
  let whole:=ahead 46 s
  let part:=(past 46 s).getD []
  if whole++part≠ []∧jbc whole=true∧jbc part=true then some (jaz neg (whole++part) (part.length-e))else none
def bodR(neg:Bool)(l:List Int):Option Num:=
 if 2≤l.length∧l.getLast?=some 66 then
  if l.length-1≤31∧jcn l.dropLast=true then some (jaz neg (binD l.dropLast) 0)else none
 else decR jaz neg l
def sgnR:List Int→Option Num
 | []=>some (false,[],0)
 | 45::l=>bodR jaz binD true l
 | 43::l=>bodR jaz binD false l
 | l=>bodR jaz binD false l
def numR(l:List Int):Option Num:=sgnR jaz binD (trR (trL l))
inductive St where
 | beg | bod (some pt:Bool) | exq (sg:Bool) (many:Nat) | beh | ded
structure Rd where
 neg:Bool:=false
 bin:Bool:=false
 down:Bool:=false
 ds:List Int:=[]
 sc:Int:=0
 pw:Int:=0
def bodN(r:Rd)(c:Int)(s p:Bool):St×Rd:=
 if dig c=true then(.bod true p,{r with ds:=r.ds++ [c],sc:=if p=true then r.sc+1 else r.sc})
 else if c=46∧p=false then(.bod s true,r)
 else if s=false then(.ded,r)
 else if c=69 then(.exq false 0,r)
 else if c=66∧p=false then(.beh,{r with bin:=true})
 else if c=32 then(.beh,r)else(.ded,r)
def jce:St→Rd→Int→St×Rd
 | .beg,r,c=>if c=32 then(.beg,r)else if c=43∨c=45 then(.bod false false,{r with neg:=decide (c=45)})else bodN r c false false
 | .bod s p,r,c=>bodN r c s p
 | .exq sg m,r,c=>if dig c=true∧m<2 then(.exq true (m+1),{r with pw:=10*r.pw+(c-48)})
  else if(c=43∨c=45)∧sg=false then(.exq true 0,{r with down:=decide (c=45)})
  else if c=32∧0<m then(.beh,r)else(.ded,r)
 | .beh,r,c=>if c=32 then(.beh,r)else(.ded,r)
 | .ded,r,_=>(.ded,r)
def endP:St→Bool
 | .beg=>true
 | .bod s _=>s
 | .exq _ m=>decide (0<m)
 | .beh=>true
 | .ded=>false
def runP:List Int→St→Rd→Option Rd
 | [],st,r=>if endP st=true then some r else none
 | c::l,st,r=>runP l (jce st r c).1 (jce st r c).2
def finP(r:Rd):Option Num:=
 if r.bin=true then(if r.ds.length≤31∧jcn r.ds=true then some (jaz r.neg (binD r.ds) 0)else none)
 else some (jaz r.neg r.ds (r.sc-if r.down=true then -r.pw else r.pw))
def numP(l:List Int):Option Num:=(runP l .beg {}).bind (finP jaz binD)
end
theorem jc6:∀(l:List Int)(r:Rd),runP l .ded r=none
 | [],_=>rfl
 | c::l,r=>by rw[runP];exact jc6 l r
theorem jga:∀(l:List Int)(r:Rd),runP l .beh r=if l.all (· ==32)=true then some r else none
 | [],_=>rfl
 | c::l,r=>by
  rw[runP,jce];by_cases h:c=32
  ·subst h;rw[Kd rfl,jga l r];rfl
  ·rw[Kc h,jc6,Kc];simp[h]
theorem jh4(b:List Int)(hb:b.all (· ==32)=true):∀(l:List Int)(st:St)(r:Rd),runP (l++b) st r=runP l st r
 | [],st,r=>by
  cases b with
  | nil=>rfl
  | cons c b=>
   simp only[List.all_cons,jaf,K4]at hb;obtain⟨rfl,hb⟩:=hb;show runP b (jce st r 32).1 (jce st r 32).2=if endP st=true then some r else none
   cases st with
   | beg=>
    have ih:=jh4 b hb [] .beg r;exact ih
   | bod s p=>
    cases s with
    | true=>
     show runP b (bodN r 32 true p).1 (bodN r 32 true p).2=_;cases p<;>exact(jga b r).trans (by rw[Kd hb];rfl)
    | false=>
     show runP b (bodN r 32 false p).1 (bodN r 32 false p).2=_;cases p<;>exact jc6 b r
   | exq sg m=>
    show runP b (jce (.exq sg m) r 32).1 (jce (.exq sg m) r 32).2=_;have hd:dig 32=false:=by decide
    have e:jce (.exq sg m) r 32=if 0<m then(.beh,r)else(.ded,r):=by
     rw[jce,Kc (fun q=>by rw[hd]at q;cases q.1),Kc (fun q=>absurd q.1 (by decide))];by_cases h:0<m
     ·rw[Kd ⟨rfl,h⟩,Kd h]
     ·rw[Kc (fun q=>h q.2),Kc h]
    rw[e];by_cases h:0<m
    ·rw[Kd h,jga,Kd hb];simp[endP,h]
    ·rw[Kc h,jc6];simp[endP,h]
   | beh=>
    exact(jga b r).trans (by rw[Kd hb];rfl)
   | ded=>exact jc6 b r
 | c::l,st,r=>by
  rw[List.cons_append,runP,runP,jh4 b hb l]
theorem run_lead:∀(l:List Int),runP l .beg {}=runP (trL l) .beg {}
 | []=>rfl
 | c::l=>by
  by_cases h:c=32
  ·subst h;rw[show trL (32::l)=trL l from rfl,←run_lead l];rfl
  ·rw[show trL (c::l)=c::l from List.dropWhile_cons_of_neg (by simpa using h)]
theorem trR_spec(l:List Int):∃b:List Int,b.all (· ==32)=true∧l=trR l++b∧((trR l).getLast?≠some 32):=by
 refine⟨(l.reverse.takeWhile (· ==32)).reverse,?_,?_,?_⟩
 ·rw[List.all_reverse];exact List.all_takeWhile
 ·rw[trR,←List.reverse_append,List.takeWhile_append_dropWhile,List.reverse_reverse]
 ·rw[trR,List.getLast?_reverse];intro h;have:=List.head?_dropWhile_not (p:=(· ==(32:Int))) (l:=l.reverse);rw[h]at this;simp at this
theorem jjk:∀(d l:List Int)(s p:Bool)(r:Rd),jbc d=true→
  runP (d++l) (.bod s p) r=runP l (.bod (s || !d.isEmpty) p) {r with ds:=r.ds++d,sc:=if p=true then r.sc+d.length else r.sc}
 | [],l,s,p,r,_=>by
  cases p<;>simp
 | c::d,l,s,p,r,h=>by
  simp only[jbc,List.all_cons,jaf]at h
  have e:jce (.bod s p) r c=(.bod true p,{r with ds:=r.ds++ [c],sc:=if p=true then r.sc+1 else r.sc}):=by
   rw[jce,bodN,Kd h.1]
  rw[List.cons_append,runP,e];have:=jjk d l true p {r with ds:=r.ds++ [c],sc:=if p=true then r.sc+1 else r.sc} h.2;rw[this];have e2:r.sc+1+(d.length:Int)=r.sc+((d.length:Int)+1):=by omega
  cases p<;>simp[e2]
theorem split_digs(l:List Int):∃d v:List Int,l=d++v∧jbc d=true∧(v=[]∨ ∃c r,v=c::r∧dig c=false):=by
 refine⟨l.takeWhile dig,l.dropWhile dig,(List.takeWhile_append_dropWhile).symm,List.all_takeWhile,?_⟩;cases h:l.dropWhile dig with
 | nil=>exact .inl rfl
 | cons c r=>
  refine .inr ⟨c,r,rfl,?_⟩;have:=List.head?_dropWhile_not (p:=dig) (l:=l);rw[h]at this;simpa using this
theorem digs_app{a b:List Int}:jbc (a++b)=(jbc a&&jbc b):=List.all_append
theorem run_exp(x:List Int)(hx:x.getLast?≠some 32)(r:Rd)(h0:r.pw=0∧r.down=false):
  (runP x (.exq false 0) r).map (fun r'=>(r'.neg,r'.bin,r'.ds,r'.sc,if r'.down=true then -r'.pw else r'.pw))=(expZ x).map fun e=>(r.neg,r.bin,r.ds,r.sc,e):=by
 have two:∀(l:List Int)(sg:Bool)(r:Rd),l.getLast?≠some 32→r.pw=0→(∀c t,l=c::t→sg=false→c≠43∧c≠45)→
   runP l (.exq sg 0) r=(expD l).map fun e=>{r with pw:=e}:=by
  intro l sg r hl hr hs
  match l with
  | []=>rfl
  | [a]=>
   rw[runP,jce];cases ha:dig a with
   | true=>
    rw[Kd ⟨rfl,by decide⟩];simp[runP,endP,expD,jbc,ha,hr]
   | false=>
    rw[Kc (fun q=>by cases q.1),Kc,Kc (fun q=>absurd q.2 (by decide))]
    ·simp[runP,endP,expD,jbc,ha]
    ·intro q;have:=hs a [] rfl q.2;omega
  | [a,b]=>
   rw[runP,jce];cases ha:dig a with
   | true=>
    rw[Kd ⟨rfl,by decide⟩];show runP [b] (.exq true 1) _=_;rw[runP,jce];cases hb:dig b with
    | true=>
     rw[Kd ⟨rfl,by decide⟩];simp[runP,endP,expD,jbc,ha,hb,hr]
    | false=>
     have hb32:b≠32:=fun q=>hl (by rw[q];rfl)
     rw[Kc (fun q=>by cases q.1),Kc (fun q=>by cases q.2),Kc (fun q=>hb32 q.1)];simp[runP,endP,expD,jbc,ha,hb]
   | false=>
    rw[Kc (fun q=>by cases q.1),Kc,Kc (fun q=>absurd q.2 (by decide))]
    ·show runP [b] .ded r=_;rw[jc6];simp[expD,jbc,ha]
    ·intro q;have:=hs a [b] rfl q.2;omega
  | a::b::c::t=>
   have en:expD (a::b::c::t)=none:=by
    rw[expD,Kc];intro q;have:=q.2.1;simp at this
   rw[en,runP,jce];cases ha:dig a with
   | false=>
    rw[Kc (fun q=>by cases q.1),Kc,Kc (fun q=>absurd q.2 (by decide))]
    ·exact jc6 _ _
    ·intro q;have:=hs a _ rfl q.2;omega
   | true=>
    rw[Kd ⟨rfl,by decide⟩];show runP (b::c::t) (.exq true 1) _=none
    have hbl:∀r',runP (c::t) .beh r'=none:=fun r'=>by
     rw[jga,Kc];intro q
     have:(c::t).getLast?=some 32:=by
      have hne:c::t≠ []:=by simp
      rw[List.getLast?_eq_some_getLast hne];have:=Kf.1 q _ (List.getLast_mem hne);rw[eq_of_beq this]
     refine hl ?_;rw[←this];simp[List.getLast?_cons_cons]
    rw[runP,jce];cases hb:dig b with
    | false=>
     rw[Kc (fun q=>by cases q.1),Kc (fun q=>by cases q.2)];by_cases h32:b=32
     ·rw[Kd ⟨h32,by decide⟩];exact hbl _
     ·rw[Kc (fun q=>h32 q.1)];exact jc6 _ _
    | true=>
     rw[Kd ⟨rfl,by decide⟩];show runP (c::t) (.exq true 2) _=none;rw[runP,jce,Kc (fun q=>absurd q.2 (by decide)),Kc (fun q=>by cases q.2)];by_cases h32:c=32
     ·rw[Kd ⟨h32,by decide⟩];have:=hbl;have e:=this {r with pw:=0};rw[runP,jce,Kd h32]at e;rw[jga]at e ⊢;split at e
      ·cases e
      ·rename_i q;rw[Kc q]
     ·rw[Kc (fun q=>h32 q.1)];exact jc6 _ _
 obtain⟨hp,hd⟩:=h0
 match x,hx with
 | [],_=>rfl
 | c::l,hx=>
  by_cases h43:c=43
  ·subst h43
   have e:jce (.exq false 0) r 43=(.exq true 0,{r with down:=false}):=by
    rw[jce,Kc (fun q=>absurd q.1 (by decide)),Kd ⟨.inl rfl,rfl⟩];rfl
   have hl:l.getLast?≠some 32:=by
    intro q;cases l with
    | nil=>cases q
    | cons a t=>exact hx (by rw[List.getLast?_cons_cons];exact q)
   have tt:=two l true {r with down:=false} hl hp (fun _ _ _ q=>by cases q);rw[runP,e];show Option.map _ (runP l (.exq true 0) {r with down:=false})=(expD l).map _;rw[tt];cases expD l<;>simp
  ·by_cases h45:c=45
   ·subst h45
    have e:jce (.exq false 0) r 45=(.exq true 0,{r with down:=true}):=by
     rw[jce,Kc (fun q=>absurd q.1 (by decide)),Kd ⟨.inr rfl,rfl⟩];rfl
    have hl:l.getLast?≠some 32:=by
     intro q;cases l with
     | nil=>cases q
     | cons a t=>exact hx (by rw[List.getLast?_cons_cons];exact q)
    have tt:=two l true {r with down:=true} hl hp (fun _ _ _ q=>by cases q);rw[runP,e];show Option.map _ (runP l (.exq true 0) {r with down:=true})=((expD l).map _).map _;rw[tt];cases expD l<;>simp
   ·rw[two (c::l) false r hx hp (fun a t e _=>by cases e;exact⟨h43,h45⟩)]
    have:expZ (c::l)=expD (c::l):=by
     unfold expZ;split
     ·rename_i e;cases e;exact absurd rfl h43
     ·rename_i e;cases e;exact absurd rfl h45
     ·rfl
    rw[this];cases expD (c::l) <;>simp[hd]
theorem jdp{c:Int}:∀{l:List Int},c∉l→ahead c l=l∧past c l=none
 | [],_=>⟨rfl,rfl⟩
 | a::l,h=>by
  simp only[Kg,not_or]at h;have ha:(a !=c)=true:=by simpa using Ne.symm h.1
  obtain⟨h1,h2⟩:=jdp h.2;refine⟨?_,?_⟩
  ·show List.takeWhile _ (a::l)=_;rw[List.takeWhile_cons_of_pos (p:=fun x=>x !=c) ha];exact congrArg _ h1
  ·unfold past at h2 ⊢;rw[List.dropWhile_cons_of_pos (p:=fun x=>x !=c) ha];exact h2
theorem jde{c:Int}:∀{d:List Int}{r:List Int},c∉d→ahead c (d++c::r)=d∧past c (d++c::r)=some r
 | [],r,_=>by
  have:(c !=c)=false:=by simp
  refine⟨?_,?_⟩
  ·show List.takeWhile _ (c::r)=_;rw[List.takeWhile_cons_of_neg (p:=fun x=>x !=c) (by simp)]
  ·unfold past;rw[List.nil_append,List.dropWhile_cons_of_neg (p:=fun x=>x !=c) (by simp)]
 | a::d,r,h=>by
  simp only[Kg,not_or]at h;have ha:(a !=c)=true:=by simpa using Ne.symm h.1
  obtain⟨h1,h2⟩:=jde (r:=r) h.2;refine⟨?_,?_⟩
  ·show List.takeWhile _ (a::(d++c::r))=_;rw[List.takeWhile_cons_of_pos (p:=fun x=>x !=c) ha];exact congrArg _ h1
  ·unfold past at h2 ⊢;rw[List.cons_append,List.dropWhile_cons_of_pos (p:=fun x=>x !=c) ha];exact h2
theorem jec{d:List Int}(h:jbc d=true){c:Int}(hc:dig c=false):c∉d:=fun q=>by
 have:=Kf.1 h c q;rw[hc]at this;cases this
theorem jey{c:Int}:∀{d l:List Int},c∉d→ahead c (d++l)=d++ahead c l
 | [],_,_=>rfl
 | a::d,l,h=>by
  simp only[Kg,not_or]at h;have ha:(a !=c)=true:=by simpa using Ne.symm h.1
  have:=jey (l:=l) h.2;show List.takeWhile _ (a::(d++l))=_;rw[List.takeWhile_cons_of_pos (p:=fun x=>x !=c) ha];exact congrArg _ this
theorem jdm{c a:Int}(l:List Int)(h:a≠c):ahead c (a::l)=a::ahead c l:=
 jey (d:=[a]) (by simpa using Ne.symm h)
section
variable {jaz : Bool → List Int → Int → Num} {binD : List Int → List Int}
theorem dec_bad{d w:List Int}{c:Int}(hd:jbc d=true)(hc:dig c=false)(h69:c≠69)(h46:c≠46)(neg:Bool):decR jaz neg (d++c::w)=none:=by
 have n69:(69:Int) ∉d:=jec hd (by decide);have n46:(46:Int) ∉d:=jec hd (by decide);unfold decR;split
 ·rfl
 ·dsimp only;rw[jey n69,jdm _ h69,jey n46,jdm _ h46,Kc];intro q;have:=q.2.1;rw[digs_app]at this;simp only[jbc,List.all_cons,hc,Bool.false_and,Bool.and_false]at this;cases this
theorem dec_bad2{d d2 w:List Int}{c:Int}(hd:jbc d=true)(hd2:jbc d2=true)(hc:dig c=false)(h69:c≠69)(neg:Bool):decR jaz neg (d++46::(d2++c::w))=none:=by
 have n69:(69:Int) ∉d:=jec hd (by decide);have n46:(46:Int) ∉d:=jec hd (by decide);have m69:(69:Int) ∉d2:=jec hd2 (by decide);unfold decR;split
 ·rfl
 ·dsimp only;rw[jey n69,jdm _ (by decide),jey m69,jdm _ h69,(jde n46).1,(jde n46).2,Kc];intro q;have:=q.2.2;rw[Option.getD_some,digs_app]at this;simp only[jbc,List.all_cons,hc,Bool.false_and,Bool.and_false]at this;cases this
theorem drop_mem(d w:List Int)(c:Int)(h:w≠ []):c∈(d++c::w).dropLast:=by
 rw[List.dropLast_append_of_ne_nil (by simp),List.dropLast_cons_of_ne_nil h];simp
theorem bits_no{l:List Int}{c:Int}(h:c∈l)(hc:c≠48∧c≠49):jcn l=false:=by
 cases e:jcn l with
 | false=>rfl
 | true=>
  have:=Kf.1 e c h;simp only[jae]at this;omega
theorem not_dig{c:Int}(h:dig c=false):c≠48∧c≠49:=by
 unfold dig at h;have:=jac h;omega
theorem jkc{d w:List Int}{c:Int}(hc:dig c=false)(hw:w≠ []∨c≠66)(neg:Bool):
  (bodR jaz binD neg (d++c::w)=none∧(d++c::w).getLast?=some 66)∨(bodR jaz binD neg (d++c::w)=decR jaz neg (d++c::w)):=by
 unfold bodR;by_cases h:2≤(d++c::w).length∧(d++c::w).getLast?=some 66
 ·rw[Kd h];left
  have hw:w≠ []:=by
   rcases hw with q | q
   ·exact q
   ·intro e;subst e;have:=h.2;simp at this;exact q this
  refine⟨?_,h.2⟩;rw[Kc];intro q;rw[bits_no (drop_mem d w c hw) (not_dig hc)]at q;cases q.2
 ·rw[Kc h];exact .inr rfl
theorem bod_bad{d w:List Int}{c:Int}(hd:jbc d=true)(hc:dig c=false)(h69:c≠69)(h46:c≠46)(hw:w≠ []∨c≠66)(neg:Bool):bodR jaz binD neg (d++c::w)=none:=by
 rcases jkc (jaz:=jaz) (binD:=binD) (d:=d) hc hw neg with h | h
 ·exact h.1
 ·rw[h,dec_bad hd hc h69 h46]
theorem jk1{w:List Int}(h:w.getLast?≠some 32)(h0:w≠ [])(r:Rd):runP w .beh r=none:=by
 rw[jga,Kc];intro q;rw[List.getLast?_eq_some_getLast h0]at h;have:=Kf.1 q _ (List.getLast_mem h0);exact h (congrArg some (eq_of_beq this))
theorem jd8{d w:List Int}{c:Int}(h:w≠ []):(d++c::w).getLast?=w.getLast?:=by
 cases w with
 | nil=>exact absurd rfl h
 | cons a t=>
  rw[List.getLast?_append,List.getLast?_cons_cons,List.getLast?_eq_some_getLast (l:=a::t) (by simp)];rfl
theorem exp_last{x:List Int}{e:Int}(h:expZ x=some e):x.getLast?≠some 66:=by
 have key:∀l:List Int,∀e,expD l=some e→l.getLast?≠some 66:=by
  intro l e h q;unfold expD at h;split at h
  ·rename_i hh;have hm:(66:Int)∈l:=List.mem_of_getLast? q;have:=Kf.1 hh.2.2 66 hm;revert this;decide
  ·cases h
 unfold expZ at h;split at h
 ·rename_i l;intro q;cases l with
  | nil=>cases h
  | cons a t=>exact key _ _ h (by rw[List.getLast?_cons_cons]at q;exact q)
 ·rename_i l;intro q;cases hl:expD l with
  | none=>rw[hl]at h;cases h
  | some z=>
   cases l with
   | nil=>cases hl
   | cons a t=>exact key _ _ hl (by rw[List.getLast?_cons_cons]at q;exact q)
 ·exact key _ _ h
theorem fin_exp{x:List Int}(hx:x.getLast?≠some 32){r:Rd}(h:r.pw=0∧r.down=false∧r.bin=false):
  (runP x (.exq false 0) r).bind (finP jaz binD)=(expZ x).map fun e=>jaz r.neg r.ds (r.sc-e):=by
 have q:=run_exp x hx r ⟨h.1,h.2.1⟩;cases h1:runP x (.exq false 0) r with
 | none=>
  rw[h1]at q;cases h2:expZ x with
  | none=>rfl
  | some e=>rw[h2]at q;cases q
 | some r'=>
  rw[h1]at q;cases h2:expZ x with
  | none=>rw[h2]at q;cases q
  | some e=>
   rw[h2]at q;simp only[Option.map_some,Kb,Ke]at q;obtain⟨q1,q2,q3,q4,q5⟩:=q;show finP jaz binD r'=some _;rw[finP,Kc (by rw[q2,h.2.2];decide),q1,q3,q4,q5]
theorem run_body{u:List Int}(hu:u.getLast?≠some 32)(neg:Bool):(runP u (.bod false false) {neg:=neg}).bind (finP jaz binD)=bodR jaz binD neg u:=by
 obtain⟨d,v,rfl,hd,hv⟩:=split_digs u;have n69:(69:Int) ∉d:=jec hd (by decide);have n46:(46:Int) ∉d:=jec hd (by decide);rw[jjk d v false false _ hd];simp only[List.nil_append,Bool.false_or,Bool.false_eq_true,if_false];rcases hv with rfl | ⟨c,w,rfl,hc⟩
 ·-- digits alone
  have hl:¬(2≤(d++ []).length∧(d++ []).getLast?=some 66):=by
   rw[KA];intro q;have:=List.mem_of_getLast? q.2;exact jec hd (by decide) this
  unfold bodR decR;rw[Kc hl,KA,(jdp n69).1,(jdp n69).2];dsimp only;rw[(jdp n46).1,(jdp n46).2];cases d with
  | nil=>rfl
  | cons a t=>
   have hn:jbc []=true:=rfl;rw[Kd ⟨by simp,hd,hn⟩];show finP jaz binD _=_;simp[finP]
 ·have hw32:w≠ []→w.getLast?≠some 32:=fun h q=>hu (by rw[jd8 h];exact q)
  rw[runP];show(runP w (bodN _ c _ _).1 (bodN _ c _ _).2).bind _=_;unfold bodN;rw[Kc (by rw[hc];decide)];by_cases h46:c=46
  ·subst h46;rw[Kd ⟨rfl,rfl⟩];obtain⟨d2,v2,rfl,hd2,hv2⟩:=split_digs w;have m69:(69:Int) ∉d2:=jec hd2 (by decide);dsimp only;rw[jjk d2 v2 _ true _ hd2];simp only[if_true];rcases hv2 with rfl | ⟨c2,x,rfl,hc2⟩
   ·have hl:¬(2≤(d++46::(d2++ [])).length∧(d++46::(d2++ [])).getLast?=some 66):=by
     rw[KA];intro q;have:=List.mem_of_getLast? q.2;simp only[Kq,Kg]at this;rcases this with q | q | q
     ·exact jec hd (by decide) q
     ·cases q
     ·exact jec hd2 (by decide) q
    unfold bodR decR;have no:(69:Int) ∉d++46::d2:=by simp[n69,m69]
    rw[Kc hl,KA,(jdp no).1,(jdp no).2];dsimp only;rw[(jde n46).1,(jde n46).2];rw[Option.getD_some];by_cases he:d++d2=[]
    ·have h1:d=[]:=(List.append_eq_nil_iff.1 he).1;have h2:d2=[]:=(List.append_eq_nil_iff.1 he).2;subst h1 h2;rw[Kc (fun q=>q.1 rfl)];rfl
    ·rw[Kd ⟨he,hd,hd2⟩]
     have hs:(!d.isEmpty || !d2.isEmpty)=true:=by
      cases d with
      | nil=>cases d2 with
       | nil=>exact absurd rfl he
       | cons=>rfl
      | cons=>rfl
     rw[hs];show finP jaz binD _=_;simp[finP]
   ·rw[runP];show(runP x (bodN _ c2 _ _).1 (bodN _ c2 _ _).2).bind _=_;unfold bodN;rw[Kc (by rw[hc2];decide),Kc (fun q=>by cases q.2)];have hx32:x≠ []→x.getLast?≠some 32:=fun h q=>hu (by rw[jd8 (by simp),jd8 h];exact q)
    have hne:d2++c2::x≠ []:=by simp
    by_cases h69:c2=69
    ·subst h69
     have hx:x.getLast?≠some 32:=by
      cases x with
      | nil=>simp
      | cons a t=>exact hx32 (by simp)
     have hR:bodR jaz binD neg (d++46::(d2++69::x))=if d++d2=[]then none else(expZ x).map fun e=>jaz neg (d++d2) (d2.length-e):=by
      have e1:decR jaz neg (d++46::(d2++69::x))=if d++d2=[]then none else(expZ x).map fun e=>jaz neg (d++d2) (d2.length-e):=by
       have no:(69:Int) ∉d++46::d2:=by simp[n69,m69]
       have ea:d++46::(d2++69::x)=(d++46::d2)++69::x:=by simp
       unfold decR;rw[ea,(jde no).1,(jde no).2];dsimp only;cases hx:expZ x with
       | none=>by_cases he:d++d2=[] <;>simp[he]
       | some e=>
        dsimp only;rw[(jde n46).1,(jde n46).2,Option.getD_some];by_cases he:d++d2=[]
        ·rw[Kd he,Kc (fun q=>q.1 he)]
        ·rw[Kc he,Kd ⟨he,hd,hd2⟩];rfl
      rcases jkc (jaz:=jaz) (binD:=binD) (d:=d) (w:=d2++69::x) (c:=46) (by decide) (.inl hne) neg with⟨h1,h2⟩ | h1
      ·rw[h1]
       have hxx:expZ x=none:=by
        cases hx:expZ x with
        | none=>rfl
        | some e=>
         have:=exp_last hx;rw[jd8 hne]at h2;cases x with
         | nil=>simp at h2
         | cons a t=>rw[jd8 (by simp)]at h2;exact absurd h2 this
       rw[hxx];split<;>rfl
      ·rw[h1,e1]
     rw[hR];by_cases he:d++d2=[]
     ·have h1:d=[]:=(List.append_eq_nil_iff.1 he).1;have h2:d2=[]:=(List.append_eq_nil_iff.1 he).2;subst h1 h2;show(runP x .ded _).bind _=_;rw[jc6,Kd he];rfl
     ·have hs:(!d.isEmpty || !d2.isEmpty)=true:=by
       cases d with
       | nil=>cases d2 with
        | nil=>exact absurd rfl he
        | cons=>rfl
       | cons=>rfl
      rw[hs,Kc (by decide),Kd rfl,Kc he];rw[fin_exp hx ⟨rfl,rfl,rfl⟩];simp
    ·have hR:bodR jaz binD neg (d++46::(d2++c2::x))=none:=by
      rcases jkc (jaz:=jaz) (binD:=binD) (d:=d) (w:=d2++c2::x) (c:=46) (by decide) (.inl hne) neg with⟨h1,_⟩ | h1
      ·exact h1
      ·rw[h1,dec_bad2 hd hd2 hc2 h69]
     rw[hR];by_cases hs:(!d.isEmpty || !d2.isEmpty)=false
     ·rw[Kd hs,jc6];rfl
     ·rw[Kc hs,Kc h69,Kc (fun q=>by cases q.2)];by_cases h32:c2=32
      ·have hx0:x≠ []:=fun q=>hu (by subst q h32;rw[jd8 (by simp)];simp)
       rw[Kd h32,jk1 (hx32 hx0) hx0];rfl
      ·rw[Kc h32,jc6];rfl
  ·rw[Kc (fun q=>h46 q.1)];by_cases h69:c=69
   ·subst h69
    have hw:w.getLast?≠some 32:=by
     cases w with
     | nil=>simp
     | cons a t=>exact hw32 (by simp)
    have hR:bodR jaz binD neg (d++69::w)=if d=[]then none else(expZ w).map fun e=>jaz neg d (0-e):=by
     have e1:decR jaz neg (d++69::w)=if d=[]then none else(expZ w).map fun e=>jaz neg d (0-e):=by
      unfold decR;rw[(jde n69).1,(jde n69).2];dsimp only;cases hx:expZ w with
      | none=>by_cases he:d=[] <;>simp[he]
      | some e=>
       dsimp only;rw[(jdp n46).1,(jdp n46).2,Option.getD_none,KA];by_cases he:d=[]
       ·rw[Kd he,Kc (fun q=>q.1 he)]
       ·rw[Kc he,Kd ⟨he,hd,rfl⟩];rfl
     rcases jkc (jaz:=jaz) (binD:=binD) (d:=d) (w:=w) (c:=69) (by decide) (.inr (by decide)) neg with⟨h1,h2⟩ | h1
     ·rw[h1]
      have hxx:expZ w=none:=by
       cases hx:expZ w with
       | none=>rfl
       | some e=>
        have:=exp_last hx;cases w with
        | nil=>simp at h2
        | cons a t=>rw[jd8 (by simp)]at h2;exact absurd h2 this
      rw[hxx];split<;>rfl
     ·rw[h1,e1]
    rw[hR];cases d with
    | nil=>
     rw[Kd rfl,Kd rfl];show(runP w .ded _).bind _=none;rw[jc6];rfl
    | cons a t=>
     rw[Kc (by simp),Kd rfl,Kc (by simp),fin_exp hw ⟨rfl,rfl,rfl⟩]
   ·by_cases h66:c=66∧w=[]
    ·obtain⟨rfl,rfl⟩:=h66;cases d with
     | nil=>rfl
     | cons a t=>
      rw[Kc (by simp),Kc (by decide),Kd ⟨rfl,rfl⟩];unfold bodR;rw[Kd ⟨by simp,List.getLast?_concat⟩];have e1:((a::t)++ [66]).dropLast=a::t:=List.dropLast_concat;have e2:((a::t)++ [(66:Int)]).length-1=(a::t).length:=by simp
      rw[e1,e2];show finP jaz binD _=_;rw[finP,Kd rfl]
    ·have hor:w≠ []∨c≠66:=by
      by_cases q:w=[]
      ·exact .inr fun e=>h66 ⟨e,q⟩
      ·exact .inl q
     rw[bod_bad hd hc h69 h46 hor];by_cases hs:(!d.isEmpty)=false
     ·rw[Kd hs,jc6];rfl
     ·rw[Kc hs,Kc h69];by_cases hb:c=66
      ·have hw0:w≠ []:=fun q=>h66 ⟨hb,q⟩
       rw[Kd ⟨hb,rfl⟩,jk1 (hw32 hw0) hw0];rfl
      ·rw[Kc (fun q=>hb q.1)];by_cases h32:c=32
       ·have hw0:w≠ []:=fun q=>hu (by subst q h32;simp)
        rw[Kd h32,jk1 (hw32 hw0) hw0];rfl
       ·rw[Kc h32,jc6];rfl
theorem num_eq(hn:∀neg,jaz neg [] 0=(false,[],0))(l:List Int):numP jaz binD l=numR jaz binD l:=by
 unfold numP numR;rw[run_lead];obtain⟨b,hb,e,hl⟩:=trR_spec (trL l)
 have hL:trL l≠ []→(trL l).head?≠some 32:=by
  intro _ q;have:=List.head?_dropWhile_not (p:=(· ==(32:Int))) (l:=l);unfold trL at q;rw[q]at this;simp at this
 rw[e,jh4 b hb]
 have hh:(trR (trL l)).head?≠some 32:=by
  intro q
  have:(trL l).head?=some 32:=by
   rw[e];cases h:trR (trL l)with
   | nil=>rw[h]at q;cases q
   | cons a t=>rw[h]at q;exact q
  exact hL (fun z=>by rw[z]at this;cases this) this
 rw[←e];generalize trR (trL l)=u at*
 match u,hl,hh with
 | [],_,_=>
  show finP jaz binD _=_;simp[finP,hn,sgnR]
 | c::t,hl,hh=>
  have hc:c≠32:=fun q=>hh (by rw[q];rfl)
  have ht:t.getLast?≠some 32:=by
   intro q;cases t with
   | nil=>cases q
   | cons a r=>exact hl (by rw[List.getLast?_cons_cons];exact q)
  rw[runP];by_cases h:c=43∨c=45
  ·have e:jce .beg {} c=(.bod false false,{neg:=decide (c=45)}):=by
    rw[jce,Kc hc,Kd h]
   rw[e];show(runP t (.bod false false) {neg:=decide (c=45)}).bind _=_;rw[run_body ht];rcases h with rfl | rfl<;>rfl
  ·have e:jce .beg {} c=jce (.bod false false) {} c:=by
    rw[jce,Kc hc,Kc h];rfl
   rw[e];have:=run_body (jaz:=jaz) (binD:=binD) hl false;rw[runP]at this;rw[this];unfold sgnR;split
   ·rename_i q;cases q
   ·rename_i q;cases q;exact absurd (.inr rfl) h
   ·rename_i q;cases q;exact absurd (.inl rfl) h
   ·rfl
end
end Go.Cv
end
section
namespace Go.Cv
def jnl(l:List Int):List Int:=l.dropWhile (· ==48)
def rep48(n:Nat):List Int:=List.replicate n 48
def intP(ds:List Int)(sc q:Int):List Int:=if sc≤q then jnl (ds++rep48 (q-sc).toNat)else jnl (ds.take (max (ds.length-(sc-q)) 0).toNat)
def plcZ(ds:List Int)(sc q:Int):List Int:=if ds=[]then []else ds++rep48 (q-sc).toNat
def plcR(ds:List Int)(sc q:Int):List Int:=(plcZ ds sc q).take ((plcZ ds sc q).length-max 0 (min ((plcZ ds sc q).length:Int) (sc-q))).toNat
theorem trim_rep:∀n,jnl (rep48 n)=[]
 | 0=>rfl
 | n+1=>by
  show List.dropWhile _ (48::rep48 n)=[]
  rw[List.dropWhile_cons_of_pos (p:=fun x=>x==48) (by decide)];exact trim_rep n
theorem trim_head{l:List Int}(h:l.head?≠some 48):jnl l=l:=by
 cases l with
 | nil=>rfl
 | cons c r=>
  show List.dropWhile _ (c::r)=c::r;rw[List.dropWhile_cons_of_neg (p:=fun x=>x==48)];intro q;exact h (congrArg some (eq_of_beq q))
theorem place_eq{ds:List Int}{sc q:Int}(h0:ds=[]→sc=0)(hh:ds.head?≠some 48):intP ds sc q=plcR ds sc q:=by
 unfold intP plcR plcZ;by_cases he:ds=[]
 ·subst he;rw[Kd rfl];split
  ·rw[List.nil_append,trim_rep,List.take_nil]
  ·rw[List.take_nil,List.take_nil];rfl
 ·rw[Kc he];split
  ·rename_i h;have e:((ds++rep48 (q-sc).toNat).length-max 0 (min ((ds++rep48 (q-sc).toNat).length:Int) (sc-q))).toNat=(ds++rep48 (q-sc).toNat).length:=by omega
   rw[e,Kw (Kv _),trim_head];cases ds with
   | nil=>exact absurd rfl he
   | cons c r=>exact hh
  ·rename_i h;have e:(q-sc).toNat=0:=by omega
   rw[e,show rep48 0=[]from rfl,KA];have e2:(max ((ds.length:Int)-(sc-q)) 0).toNat=((ds.length:Int)-max 0 (min (ds.length:Int) (sc-q))).toNat:=by omega
   rw[e2];generalize ((ds.length:Int)-max 0 (min (ds.length:Int) (sc-q))).toNat=k;refine trim_head ?_;cases ds with
   | nil=>exact absurd rfl he
   | cons c r=>
    cases k with
    | zero=>simp
    | succ k=>exact hh
end Go.Cv
end
noncomputable section
namespace Go.Cx
open Go Go.Ab Go.Proofs Go.Shelf Go.Px
open Go.Fx (Ty Vl)
structure Nu where
 g:Bool
 d:Y
 c:Int
instance:Enc Nu where
 enc t:= .agg ⟨[.bool t.g,.string t.d,.int .i64 t.c]⟩
 dec | .agg ⟨[.bool g,.string d,.int .i64 c]⟩=>some ⟨g,d,c⟩ | _=>none
 dec_some:=by
  intro v a h;split at h
  ·cases h;rfl
  ·cases h
 plain_enc _:=rfl
theorem c154:jbt Tryz.prog 110:=cal Tryz.func110 (by kernel_rfl) (by kernel_rfl)
theorem c131:jbt Tryz.prog 289:=cal Tryz.func289 (by kernel_rfl) (by kernel_rfl)
theorem c55:jbt Tryz.prog 124:=cal Tryz.func124 (by kernel_rfl) (by kernel_rfl)
theorem c30:jbt Tryz.prog 114:=cal Tryz.func114 (by kernel_rfl) (by kernel_rfl)
theorem c29:jbt Tryz.prog 130:=cal Tryz.func130 (by kernel_rfl) (by kernel_rfl)
def tlZ(l:O)(c:Int):O:=l.dropWhile (· ==c)
def trZ(l:O)(c:Int):O:=(l.reverse.dropWhile (· ==c)).reverse
noncomputable def s154 (s t : Y) : Bool × Value := (oneB t && asc (bz t), .string (szO (tlZ (bz s) ((bz t).getD 0 0))))
theorem ok154:jan Tryz.prog 110 (sp2 s154):=jdf c154 fun s t hc w _=>by
 simp only[s154,jaf]at hc;obtain⟨c,h1,h2⟩:=jeq hc.1;have hlt:c.toNat<128:=jdo hc.2 0 c (by rw[h1];rfl);have e:Enc.enc t=Value.string ⟨#[c]⟩:=congrArg Value.string h1;rw[e];refine(Any.strings_TrimLeft_one Tryz.lays161 s c hlt w).mono fun e w' ⟨h3,h4⟩=>⟨?_,jci h4⟩
 rw[h3,jhk];simp only[s154,Lib.trimLeftB,jcx,tlZ];rw[je7 (q:=(· ==(bz t).getD 0 0)) (fun b=>by rw[←h2,Kl,K4,K4,jmi]),jka]
noncomputable def s131 (s t : Y) : Bool × Value := (decide (s.size ≤ 9223372036854775807) && (oneB t && asc (bz t)), .string (szO (trZ (bz s) ((bz t).getD 0 0))))
theorem ok131:jan Tryz.prog 289 (sp2 s131):=jdf c131 fun s t hc w _=>by
 simp only[s131,jaf,jae]at hc;obtain⟨c,h1,h2⟩:=jeq hc.2.1;have hlt:c.toNat<128:=jdo hc.2.2 0 c (by rw[h1];rfl);have e:Enc.enc t=Value.string ⟨#[c]⟩:=congrArg Value.string h1;rw[e];refine(Any.strings_TrimRight_one Tryz.lays162 s c hlt w hc.1).mono fun e w' ⟨h3,h4⟩=>⟨?_,jci h4⟩
 rw[h3,jhk];simp only[s131,Lib.trimRightB,jcx,trZ];rw[zl,List.map_reverse];have hq:∀b:UInt8,(b==c)=((b.toNat:Int)==(bz t).getD 0 0):=fun b=>by rw[←h2,Kl,K4,K4,jmi]
 have:=je7 (p:=(· ==c)) (q:=(· ==(bz t).getD 0 0)) hq s.data.toList.reverse;rw[zl,zl,List.map_reverse]at this;rw[this];rfl
noncomputable def s55 (s t : Y) : Bool × Value := (decide (s.size ≤ 9223372036854775807) && (decide (t.size ≤ 1000) && asc (bz t)), .string (szO (jcm (bz s) (bz t))))
theorem ok55:jan Tryz.prog 124 (sp2 s55):=jdf c55 fun s t hc w _=>by
 simp only[s55,jaf,jae]at hc;obtain⟨h1,h2,h3⟩:=hc;refine(Any.strings_Trim_laid Tryz.lays160 jjt s t w (by omega) (by omega) (jdo h3)).mono fun e w' ⟨h5,h6⟩=>⟨?_,h6⟩
 rw[h5,jhk,trim_zl];simp only[s55,jcx];rfl
def s30(s:Y)(n:Int):Bool×Value:=(decide (0≤n∧n≤1000∧s.size≤1000),.string (szO (repZ (bz s) n.toNat)))
theorem ok30:jan Tryz.prog 114 (sp2 s30):=jdf c30 fun s n hc w _=>by
 obtain⟨h1,h2,h3⟩:=jab hc
 have e:Enc.enc n=Value.int .i64 (n.toNat:Int):=by
  show Value.int .i64 n=_;rw[Int.toNat_of_nonneg h1]
 rw[e];have hm:s.size*n.toNat≤1000*1000:=Nat.mul_le_mul h3 (by omega);refine(Any.strings_Repeat Tryz.lays105 Tryz.Builder_Extra_105 s n.toNat w (by omega) (by omega)).mono fun e w' ⟨h4,h5⟩=>⟨?_,h5⟩
 rw[h4,jhk,jms];simp only[s30,jcx];rfl
def itoZ(n:Int):O:=zl (Lib.itoa n)
def s29(n:Int):Bool×Value:=(decide (-9223372036854775808≤n∧n≤9223372036854775807),.string (szO (itoZ n)))
theorem ok29:jan Tryz.prog 130 (sp1 s29):=shelf1 c29 fun n hc w ht=>by
 obtain⟨h0,h1⟩:=jab hc;refine(Any.strconv_Itoa (ρ:=Tryz.laysM171_ren) Tryz.laysM171 n h0 h1 w (tab_pow ht)).mono fun e w' ⟨h2,k,os,h3⟩=>⟨?_,by rw[h3];exact Lib.below_grow _ _ (Kv _) _ _⟩
 rw[h2,jhk];simp only[s29,jcx];rfl
end Go.Cx
end
noncomputable section
set_option maxHeartbeats 3200000
namespace Go.Cx
open Go Go.Ab Go.Proofs Go.Shelf Go.Px Go.Cv
open Go.Fx (Ty Vl check jbi most base pw bnd Fit fits tv vv tup V0 T0 jbw jbx jbp jcf str0)
def G0:Env:=Env.nil
theorem ok_G0:ja3 Tryz.prog G0:=jav
theorem jkt(l:O):List.drop (Int.toNat 0) l=l:=rfl
def binG:O→Int→Int
 | [],a=>a
 | c::r,a=>binG r (2*a+(c-48))
theorem w8s{c:Int}(h:48≤c∧c<256):IntKind.wrap .u8 (c-48)=c-48:=w8 (by omega)
theorem jix{s:Y}{i:Nat}(h:i<s.size)(hb:jcn (bz s)=true):jai s i=48∨jai s i=49:=by
 have hl:i<(bz s).length:=by rw[jak];exact h
 have e:jai s i=(bz s)[i]:=by rw[jed,List.getD_eq_getElem?_getD,Kx hl];rfl
 rw[jcn,Kf]at hb;have:=hb (bz s)[i] (List.getElem_mem hl);rw[e];simpa using this
theorem dig_cases{s:Y}{i:Nat}(h:i<s.size)(hb:jbc (bz s)=true):48≤jai s i∧jai s i≤57:=by
 have hl:i<(bz s).length:=by rw[jak];exact h
 have e:jai s i=(bz s)[i]:=by rw[jed,List.getD_eq_getElem?_getD,Kx hl];rfl
 rw[jbc,Kf]at hb;have:=hb (bz s)[i] (List.getElem_mem hl);rw[e];simpa[dig]using this
theorem bz_slice1{s:Y}:bz (s.extract 1 s.size)=(bz s).drop 1:=by
 rw[jb5,Kw (by rw[jak];omega)]
theorem jfn{s:Y}(n:Nat):bz (s.extract 0 n)=(bz s).take n:=by rw[jb5];rfl
theorem jcd(s:Y)(i j:Nat):(s.extract i j).size=min j s.size-i:=KJ
theorem jb8(s:Y):(s.toList==(ByteArray.mk #[]).toList)=decide (bz s=[]):=by
 rw[jcv];rfl
def s152(c:U8):Bool×Value:=(true,B (c.n==32))
theorem v152(c:U8)(R:Value→Prop):jax Tryz.prog G0 noL Tryz.f287 [Enc.enc c] (fun _=>none) 0 (fun v _ _=>R v)=(R (B (U8.n c==32))):=by kernel_rfl
theorem ok152:jan Tryz.prog 287 (sp1 s152):=by
 refine jb6 ok_G0 hmix (.m Tryz.func287) jal jag fun c hc=> ?_
 rw[ja4,v152]
 try dsimp only[s152]
def s213(c:U8):Bool×Value:=(true,B (dig c.n))
theorem v213(c:U8)(R:Value→Prop):jax Tryz.prog G0 noL Tryz.f308 [Enc.enc c] (fun _=>none) 0 (fun v _ _=>R v)=(bif decide (U8.n c≥48) || true then R (B (decide (U8.n c≥48) &&decide (U8.n c≤57)))else False):=by kernel_rfl
theorem ok213:jan Tryz.prog 308 (sp1 s213):=by
 refine jb6 ok_G0 hmix (.m Tryz.func308) jal jag fun c hc=> ?_
 rw[ja4,v213]
 try dsimp only[s213]
 refine c_t (by simp) ?_;show Value.bool _=Value.bool _;congr 1;rw[Kl];simp[dig]
def s192(c:U8):Bool×Value:=(true,B (dig c.n))
theorem v192(c:U8)(R:Value→Prop):jax Tryz.prog G0 noL Tryz.f269 [Enc.enc c] (fun _=>none) 0 (fun v _ _=>R v)=(bif decide (U8.n c≥48) || true then R (B (decide (U8.n c≥48) &&decide (U8.n c≤57)))else False):=by kernel_rfl
theorem ok192:jan Tryz.prog 269 (sp1 s192):=by
 refine jb6 ok_G0 hmix (.m Tryz.func269) jal jag fun c hc=> ?_
 rw[ja4,v192]
 try dsimp only[s192]
 refine c_t (by simp) ?_;show Value.bool _=Value.bool _;congr 1;rw[Kl];simp[dig]
def s141(k:Int):Bool×Value:=(true,I (most k))
theorem v141(k:Int)(R:Value→Prop):jax Tryz.prog G0 noL Tryz.f176 [Enc.enc k] (fun _=>none) 0 (fun v _ _=>R v)=(bif k==1 then R (I 9)else R (I 31)):=by kernel_rfl
theorem ok141:jan Tryz.prog 176 (sp1 s141):=by
 refine jb6 ok_G0 hmix (.m Tryz.func176) jal jag fun k hc=> ?_
 rw[ja4,v141]
 try dsimp only[s141]
 repeat' apply Ka<;>intro h
 all_goals grind [s141,most]
def G1:Env:=Env.nil.add 176 (sp1 s141)
theorem ok_G1:ja3 Tryz.prog G1:=jaj jav ok141
def s66(t:Ty):Bool×Value:=(true,I (check t))
def dl(a:Fx.Ty)(b:Int):Bool:=Fx.Ty.k a==b
def sk(b:Bool)(a:Fx.Ty):Bool:=decide (Fx.Ty.q a<0) || (decide (Fx.Ty.q a>Fx.Ty.p a) || bv (dl a 2) (Fx.Ty.q a !=0 || (Fx.Ty.v a || b)) (Fx.Ty.v a || b))
def o7(b:Bool)(a:Fx.Ty):Bool:=decide (Fx.Ty.p a<1) || (decide (Fx.Ty.p a>Fx.most (Fx.Ty.k a)) || sk b a)
theorem v66(t:Ty)(R:Value→Prop):jax Tryz.prog G1 noL Tryz.f121 [Enc.enc t] (fun _=>none) 0 (fun v _ _=>R v)=(go (!dl t 1) (!dl t 2 || o7 true t) (o7 true t) (bv (!dl t 1) (!dl t 2 || o7 (!ez (Fx.Ty.s t) ay) t) (o7 (!ez (Fx.Ty.s t) ay) t)) (R (ak 5)) (R (ak 0))):=by kernel_rfl
theorem ok66:jan Tryz.prog 121 (sp1 s66):=by
 refine jb6 ok_G1 hmix (.m Tryz.func121) jal jag fun t hc=> ?_
 rw[ja4,v66];delta av go ak bv dl sk o7 ez ay
 try dsimp only[s66]
 repeat' apply Ka<;>intro h
 all_goals grind [s66,check,jbi,str0]
def G2:Env:=Env.nil.add 121 (sp1 s66)
theorem ok_G2:ja3 Tryz.prog G2:=jaj jav ok66
def s85(t:Ty):Bool×Value:=(true,B (decide (jbi t)))
theorem v85(t:Ty)(R:Value→Prop):jax Tryz.prog G2 noL Tryz.f305 [Enc.enc t] (fun _=>none) 0 (fun v _ _=>R v)=(R (B (check t==0))):=by kernel_rfl
theorem ok85:jan Tryz.prog 305 (sp1 s85):=by
 refine jb6 ok_G2 hmix (.m Tryz.func305) jal jag fun t hc=> ?_
 rw[ja4,v85]
 try dsimp only[s85]
 show Value.bool _=Value.bool _;congr 1;rw[check];split<;>simp_all
def G3:Env:=Env.nil.add 269 (sp1 s192)
theorem ok_G3:ja3 Tryz.prog G3:=jaj jav ok192
def V135_0:Y×Bool×Int→J:=fun(s,b,i)=> [S s,B b,I i]
def B135_0:Y×Bool×Int→Ya:=fun _=> []
def S135_0:LSpec (Y×Bool×Int) where
 live:=[0,2,3]
 mid:=[]
 n:=60
 dec vs bs:=match vs,bs with | [.string s,.bool b,.int .i64 i],[]=>some (s,b,i) | _,_=>none
 pre:=fun(s,b,i)=>decide (0≤i∧i≤s.size∧s.size≤9223372036854775807)
 fin:=fun(s,b,i) Z=>(bif jbc ((bz s).drop i.toNat)then Z (.exit 0) [S s,B b,I s.size] []else(∀i',Z .ret [S s,B false,I i'] []))
theorem r135_0(s:Y)(b:Bool)(i:Int)(jk:Tmps)(R:Exit→J→Ya→Prop):(jbn Tryz.prog G3 noL Tryz.f215.ntmps (ja2 Tryz.f215 0) (tl S135_0.live (V135_0 (s,b,i)) jk) (ml S135_0.mid (B135_0 (s,b,i))) S135_0.n fun e t' m' _=>R e (List.map t' S135_0.live) (List.map m' S135_0.mid))=(km (bk s i) (!dig (au s i)) s s R i [ak i] [az i] [ak i] (B false) (B b)):=by kernel_rfl
theorem l135_0:LOKf Tryz.prog (oneL 0 S135_0.h) Tryz.f215:=by
 refine jbb (h:=S135_0.h) (by kernel_rfl) (ja6 ok_G3 hmix (by kernel_rfl) (ja0 _) S135_0 V135_0 B135_0 (fun(s,b,i)=>(s.size-i).toNat) ?_ ?_ ?_)
 ·intro vs bs s h;simp only[S135_0]at h;split at h
  all_goals first | (cases h;exact⟨rfl,rfl⟩) | cases h | (split at h<;>first | (rename_i hq;cases h;have hq:=jah hq;subst hq;exact⟨rfl,rfl⟩) | cases h)
 ·exact fun _ _ _ h=>h
 ·intro⟨s,b,i⟩ jk Z hp hf;rw[r135_0];delta al ep km ak ax az au bk;simp only[S135_0]at hp hf;simp only[jae]at hp;apply Ka<;>intro h
  ·have h:=jab h;rw[jca hp.1 h,jbc,List.all_cons]at hf;refine c_t (jaa (by omega)) ?_;apply Ka<;>intro hd
   ·have e:dig (jai s i.toNat)=false:=by simpa using hd
    rw[e]at hf;exact hf i
   ·have e:dig (jai s i.toNat)=true:=by simpa using hd
    rw[e,Bool.true_and]at hf;rw[w64 (by omega)];exact⟨(s,b,i+1),rfl,rfl,by simp only[S135_0,jae];omega,by simp only;omega,hf⟩
  ·have h:=jac h;rw[jck (by omega)]at hf;obtain rfl:i=s.size:=by omega
   exact hf
def s135(s:Y):Bool×Value:=(decide (s.size≤9223372036854775807),B (jbc (bz s)))
theorem v135(s:Y)(R:Value→Prop):jax Tryz.prog G3 (oneL 0 S135_0.h) Tryz.f215 [Enc.enc s] (fun _=>none) 0 (fun v _ _=>R v)=(mb (Cx.S135_0.pre (s,(false,(0:Int)))) (jbc (bu s 0)) (B true) (B false) R):=by kernel_rfl
theorem ok135:jan Tryz.prog 215 (sp1 s135):=by
 refine jb6 ok_G3 hmix (.m Tryz.func215) l135_0 jag fun s hc=> ?_
 rw[ja4,v135];delta gm mb bu;have hc:(s.size≤9223372036854775807):=jab hc
 try dsimp only[s135]
 refine c_t (by simp only[S135_0,jae];omega) ?_;rw[jkt];refine Ka (fun h=> ?_) (fun h _=> ?_)
 all_goals
  rw[h];exact fun _=>rfl
def V74_0:Y×Bool×Int→J:=fun(s,b,i)=> [S s,B b,I i]
def B74_0:Y×Bool×Int→Ya:=fun _=> []
def S74_0:LSpec (Y×Bool×Int) where
 live:=[0,2,3]
 mid:=[]
 n:=60
 dec vs bs:=match vs,bs with | [.string s,.bool b,.int .i64 i],[]=>some (s,b,i) | _,_=>none
 pre:=fun(s,b,i)=>decide (0≤i∧i≤s.size∧s.size≤9223372036854775807)
 fin:=fun(s,b,i) Z=>(bif jcn ((bz s).drop i.toNat)then Z (.exit 0) [S s,B b,I s.size] []else(∀i',Z .ret [S s,B false,I i'] []))
theorem r74_0(s:Y)(b:Bool)(i:Int)(jk:Tmps)(R:Exit→J→Ya→Prop):(jbn Tryz.prog G3 noL Tryz.f136.ntmps (ja2 Tryz.f136 0) (tl S74_0.live (V74_0 (s,b,i)) jk) (ml S74_0.mid (B74_0 (s,b,i))) S74_0.n fun e t' m' _=>R e (List.map t' S74_0.live) (List.map m' S74_0.mid))=(km (j6 (au s i !=48) true s s i i) (au s i !=48&&au s i !=49) s s R i [ak i] [az i] [ak i] (B false) (B b)):=by kernel_rfl
theorem l74_0:LOKf Tryz.prog (oneL 0 S74_0.h) Tryz.f136:=by
 refine jbb (h:=S74_0.h) (by kernel_rfl) (ja6 ok_G3 hmix (by kernel_rfl) (ja0 _) S74_0 V74_0 B74_0 (fun(s,b,i)=>(s.size-i).toNat) ?_ ?_ ?_)
 ·intro vs bs s h;simp only[S74_0]at h;split at h
  all_goals first | (cases h;exact⟨rfl,rfl⟩) | cases h | (split at h<;>first | (rename_i hq;cases h;have hq:=jah hq;subst hq;exact⟨rfl,rfl⟩) | cases h)
 ·exact fun _ _ _ h=>h
 ·intro⟨s,b,i⟩ jk Z hp hf;rw[r74_0];delta al ep km ak ax az au bv bk j6;simp only[S74_0]at hp hf;simp only[jae]at hp;apply Ka<;>intro h
  ·have h:=jab h;rw[jca hp.1 h,jcn,List.all_cons]at hf;refine c_t (by rw[jaa (show 0≤i∧i<(s.size:Int)by omega)];simp) ?_;apply Ka<;>intro hd
   ·have e:decide (jai s i.toNat=48∨jai s i.toNat=49)=false:=by rw[decide_eq_false_iff_not];simp at hd;omega
    rw[e]at hf;exact hf i
   ·have e:decide (jai s i.toNat=48∨jai s i.toNat=49)=true:=by rw[jae];simp at hd;omega
    rw[e,Bool.true_and]at hf;rw[w64 (by omega)];exact⟨(s,b,i+1),rfl,rfl,by simp only[S74_0,jae];omega,by simp only;omega,hf⟩
  ·have h:=jac h;rw[jck (by omega)]at hf;obtain rfl:i=s.size:=by omega
   exact hf
def s74(s:Y):Bool×Value:=(decide (s.size≤9223372036854775807),B (jcn (bz s)))
theorem v74(s:Y)(R:Value→Prop):jax Tryz.prog G3 (oneL 0 S74_0.h) Tryz.f136 [Enc.enc s] (fun _=>none) 0 (fun v _ _=>R v)=(mb (Cx.S74_0.pre (s,(false,(0:Int)))) (jcn (bu s 0)) (B true) (B false) R):=by kernel_rfl
theorem ok74:jan Tryz.prog 136 (sp1 s74):=by
 refine jb6 ok_G3 hmix (.m Tryz.func136) l74_0 jag fun s hc=> ?_
 rw[ja4,v74];delta gm mb bu;have hc:(s.size≤9223372036854775807):=jab hc
 try dsimp only[s74]
 refine c_t (by simp only[S74_0,jae];omega) ?_;rw[jkt];refine Ka (fun h=> ?_) (fun h _=> ?_)
 all_goals
  rw[h];exact fun _=>rfl
def V156_0:Y×Int×Int×Int→J:=fun(s,c,r,i)=> [S s,C8 c,I r,I i]
def B156_0:Y×Int×Int×Int→Ya:=fun _=> []
def S156_0:LSpec (Y×Int×Int×Int) where
 live:=[0,1,4,5]
 mid:=[]
 n:=60
 dec vs bs:=match vs,bs with | [.string s,.int .u8 c,.int .i64 r,.int .i64 i],[]=>some (s,c,r,i) | _,_=>none
 pre:=fun(s,c,r,i)=>decide (0≤i∧i≤s.size∧s.size≤9223372036854775807)
 fin:=fun(s,c,r,i) Z=>(bif hasZ ((bz s).drop i.toNat) c then Z .ret [S s,C8 c,I (i+(Cv.ahead c ((bz s).drop i.toNat)).length),I (i+(Cv.ahead c ((bz s).drop i.toNat)).length)] []else Z (.exit 0) [S s,C8 c,I r,I s.size] [])
theorem r156_0(s:Y)(c:Int)(r:Int)(i:Int)(jk:Tmps)(R:Exit→J→Ya→Prop):(jbn Tryz.prog G3 noL Tryz.f213.ntmps (ja2 Tryz.f213 0) (tl S156_0.live (V156_0 (s,c,r,i)) jk) (ml S156_0.mid (B156_0 (s,c,r,i))) S156_0.n fun e t' m' _=>R e (List.map t' S156_0.live) (List.map m' S156_0.mid))=(km (bk s i) (aw s i c) s s R i (bp i i) (ct r i) (bp r i) (am c) (am c)):=by kernel_rfl
theorem l156_0:LOKf Tryz.prog (oneL 0 S156_0.h) Tryz.f213:=by
 refine jbb (h:=S156_0.h) (by kernel_rfl) (ja6 ok_G3 hmix (by kernel_rfl) (ja0 _) S156_0 V156_0 B156_0 (fun(s,c,r,i)=>(s.size-i).toNat) ?_ ?_ ?_)
 ·intro vs bs s h;simp only[S156_0]at h;split at h
  all_goals first | (cases h;exact⟨rfl,rfl⟩) | cases h | (split at h<;>first | (rename_i hq;cases h;have hq:=jah hq;subst hq;exact⟨rfl,rfl⟩) | cases h)
 ·exact fun _ _ _ h=>h
 ·intro⟨s,c,r,i⟩ jk Z hp hf;rw[r156_0];delta al ep km am ak bp ax az ct au aw bk;simp only[S156_0]at hp hf;simp only[jae]at hp;apply Ka<;>intro h
  ·have h:=jab h;rw[jca hp.1 h]at hf;refine c_t (jaa (by omega)) ?_;apply Ka<;>intro hd
   ·have hd:jai s i.toNat=c:=by simpa using hd
    have e1:hasZ (jai s i.toNat::(bz s).drop (i+1).toNat) c=true:=by simp[hasZ,hd]
    have e2:Cv.ahead c (jai s i.toNat::(bz s).drop (i+1).toNat)=[]:=by simp[Cv.ahead,hd]
    rw[e1,e2]at hf;simp at hf;exact hf
   ·have hd:¬jai s i.toNat=c:=by simpa using hd
    have e1:hasZ (jai s i.toNat::(bz s).drop (i+1).toNat) c=hasZ ((bz s).drop (i+1).toNat) c:=by simp[hasZ,hd]
    rw[e1,jdm _ hd]at hf;rw[w64 (by omega)];refine⟨(s,c,r,i+1),rfl,rfl,by simp only[S156_0,jae];omega,by simp only;omega,?_⟩
    have e3:i+(jai s i.toNat::Cv.ahead c ((bz s).drop (i+1).toNat)).length=i+1+((Cv.ahead c ((bz s).drop (i+1).toNat)).length:Int):=by
     rw[List.length_cons];omega
    rw[e3]at hf;exact hf
  ·have h:=jac h;rw[jck (by omega)]at hf;obtain rfl:i=s.size:=by omega
   exact hf
def s156(s:Y)(c:U8):Bool×Value:=(decide (s.size≤9223372036854775807),I (Cv.ahead c.n (bz s)).length)
theorem v156(s:Y)(c:U8)(R:Value→Prop):jax Tryz.prog G3 (oneL 0 S156_0.h) Tryz.f213 [Enc.enc s,Enc.enc c] (fun _=>none) 0 (fun v _ _=>R v)=(io (S156_0.pre (s,(U8.n c,((0:Int),(0:Int))))) (hasZ (bu s 0) (U8.n c)) (Tmps→R (I (0+((Cv.ahead (U8.n c) (bu s 0)).length:Int)))) (Tmps→R (I (al s)))):=by kernel_rfl
theorem ok156:jan Tryz.prog 213 (sp2 s156):=by
 refine jcz ok_G3 hmix (.m Tryz.func213) l156_0 jag fun s c hc=> ?_
 rw[ja4,v156];delta av io al bu;have hc:(s.size≤9223372036854775807):=jab hc
 try dsimp only[s156]
 refine c_t (by simp only[S156_0,jae];omega) ?_;rw[jkt];apply Ka<;>intro h
 ·exact fun _=>by simp
 ·have:c.n∉bz s:=fun q=>by rw[jbj.2 q]at h;cases h
  rw[(jdp this).1,jak];exact fun _=>rfl
def V82_0:Y×Int×Int×Int→J:=fun(s,r,n,i)=> [S s,C64 r,C64 n,I i]
def B82_0:Y×Int×Int×Int→Ya:=fun _=> []
def S82_0:LSpec (Y×Int×Int×Int) where
 live:=[0,2,3,4]
 mid:=[]
 n:=60
 dec vs bs:=match vs,bs with | [.string s,.int .u64 r,.int .u64 n,.int .i64 i],[]=>some (s,r,n,i) | _,_=>none
 pre:=fun(s,r,n,i)=>decide (0≤i∧i≤s.size∧s.size≤64∧0≤n∧n<2^i.toNat) &&jcn (bz s)
 fin:=fun(s,r,n,i) Z=>Z (.exit 0) [S s,C64 r,C64 (binG ((bz s).drop i.toNat) n),I s.size] []
def oh(c:Y)(a b d:Int):Value:= .int .u64 (IntKind.u64.wrap (IntKind.u64.wrap (a*b)+IntKind.u64.wrap (IntKind.u8.wrap (au c d-48))))
theorem r82_0(s:Y)(r:Int)(n:Int)(i:Int)(jk:Tmps)(R:Exit→J→Ya→Prop):(jbn Tryz.prog G3 noL Tryz.f85.ntmps (ja2 Tryz.f85 0) (tl S82_0.live (V82_0 (s,r,n,i)) jk) (ml S82_0.mid (B82_0 (s,r,n,i))) S82_0.n fun e t' m' _=>R e (List.map t' S82_0.live) (List.map m' S82_0.mid))=(bif ep s i then bm (bk s i) R [] [S s,.int .u64 r,oh s n 2 i,az i]else R (.exit 0) [S s,.int .u64 r,.int .u64 n,ak i] []):=by kernel_rfl
theorem l82_0:LOKf Tryz.prog (oneL 0 S82_0.h) Tryz.f85:=by
 refine jbb (h:=S82_0.h) (by kernel_rfl) (ja6 ok_G3 hmix (by kernel_rfl) (ja0 _) S82_0 V82_0 B82_0 (fun(s,r,n,i)=>(s.size-i).toNat) ?_ ?_ ?_)
 ·intro vs bs s h;simp only[S82_0]at h;split at h
  all_goals first | (cases h;exact⟨rfl,rfl⟩) | cases h | (split at h<;>first | (rename_i hq;cases h;have hq:=jah hq;subst hq;exact⟨rfl,rfl⟩) | cases h)
 ·exact fun _ _ _ h=>h
 ·intro⟨s,r,n,i⟩ jk Z hp hf;rw[r82_0];delta ak bm ax az au oh al bk ep;simp only[S82_0]at hp hf;simp only[jaf,jae]at hp;obtain⟨hp,hb⟩:=hp;apply Ka<;>intro h
  ·have h:=jab h;rw[jca hp.1 h,binG]at hf;refine c_t (jaa (by omega)) ?_;have hc:=jix (s:=s) (i:=i.toNat) (by omega) hb
   have h2:(2:Int) ^ (i+1).toNat=2*2^i.toNat:=by
    rw[show(i+1).toNat=i.toNat+1 by omega,Int.pow_succ,Int.mul_comm]
   have h3:(2:Int) ^ (i+1).toNat≤2^64:=by
    have:(2:Nat) ^ (i+1).toNat≤2^64:=Nat.pow_le_pow_right (by omega) (by omega);have h':((2^ (i+1).toNat:Nat):Int)≤((2^64:Nat):Int):=Int.ofNat_le.2 this;simpa using h'
   have h4:(2:Int) ^64=18446744073709551616:=by decide
   rw[w64 (n:=i+1) (by omega),w8s (by omega),wu64 (n:=jai s i.toNat-48) (by omega),wu64 (n:=n*2) (by omega),wu64 (by omega),Int.mul_comm n 2];exact⟨(s,r,2*n+(jai s i.toNat-48),i+1),rfl,rfl,by simp only[S82_0,jaf,jae];exact⟨by omega,hb⟩,by simp only;omega,hf⟩
  ·have h:=jac h;rw[jck (by omega)]at hf;obtain rfl:i=s.size:=by omega
   exact hf
def s82(s:Y):Bool×Value:=(jcn (bz s) &&decide (s.size≤64),C64 (binG (bz s) 0))
theorem v82(s:Y)(R:Value→Prop):jax Tryz.prog G3 (oneL 0 S82_0.h) Tryz.f85 [Enc.enc s] (fun _=>none) 0 (fun v _ _=>R v)=(gy (S82_0.pre (s,((0:Int),((0:Int),(0:Int))))) (.int .u64 (binG (bu s 0) 0)) R):=by kernel_rfl
theorem ok82:jan Tryz.prog 85 (sp1 s82):=by
 refine jb6 ok_G3 hmix (.m Tryz.func85) l82_0 jag fun s hc=> ?_
 rw[ja4,v82];delta gy bu
 try dsimp only[s82]
 simp only[s82,jaf,jae]at hc;refine c_t (by simp only[S82_0,jaf,jae];exact⟨by simp;omega,hc.1⟩) ?_;exact fun _=>rfl
def G4:Env:=Env.nil.add 215 (sp1 s135)
theorem ok_G4:ja3 Tryz.prog G4:=jaj jav ok135
def nz(l:O):O:=trZ (tlZ l 48) 48
def jaz(g:Bool)(l:O)(q:Int):Num:=if nz l=[]then(false,[],0)else(g,nz l,q-((tlZ l 48).length-(nz l).length))
def binD(l:O):O:=decZ (binG l 0)
def decG:O→Int→Int
 | [],a=>a
 | c::r,a=>decG r (10*a+(c-48))
abbrev numV(x:Num):Value:= .agg ⟨[.bool x.1,.string (szO x.2.1),.int .i64 x.2.2]⟩
def num0:Num:=(false,[],0)
def rdN(l:O):Option Num:=if 255<l.length then none else numR jaz binD l
theorem jkz(c:Int)(l:O):tlZ (c::l) c=tlZ l c:=by simp[tlZ]
theorem jnz{c d:Int}(h:d≠c)(l:O):tlZ (d::l) c=d::l:=by simp[tlZ,h]
theorem jky(c:Int)(l:O):trZ (l++ [c]) c=trZ l c:=by simp[trZ]
theorem jny{c d:Int}(h:d≠c)(l:O):trZ (l++ [d]) c=l++ [d]:=by simp[trZ,h]
theorem jhf(l:O)(c:Int):(trZ l c).length≤l.length:=by
 rw[trZ,KL];exact KG (Kt _).length_le (by rw[KL];omega)
theorem jd4(l:O)(c:Int):(tlZ l c).length≤l.length:=(Kt _).length_le
theorem jlv(l:O):trL l=tlZ l 32:=rfl
theorem jlu(l:O):trR l=trZ l 32:=rfl
theorem jfo{s:Y}{n:Int}(h:(s.size:Int)=n+1)(h0:0≤n):bz s=bz (s.extract 0 n.toNat)++ [jai s n.toNat]:=by
 have e:=KC n.toNat (bz s);have d:=jca (s:=s) (i:=n) h0 (by omega);rw[jck (s:=s) (i:=n+1) (by omega)]at d;rw[jfn,←d,e]
theorem jek{s:Y}(h:0<s.size):bz s=jai s 0::bz (s.extract 1 s.size):=by
 rw[bz_slice1];exact jca (s:=s) (i:=0) (by omega) (by omega)
theorem jgx{s:Y}(h:s.size=0):bz s=[]:=KF.1 (by rw[jak];exact h)
theorem jmp{s:Y}{l:O}(h:bz s=l):s=szO l:=by rw[jcx,←h,jh2]
theorem jbu(l:O):(szO l).size=l.length:=by rw[jcx,jco]
def V79_0:Y×Y→J:=fun(s,r)=> [S s,S r]
def B79_0:Y×Y→Ya:=fun _=> []
def S79_0:LSpec (Y×Y) where
 live:=[0,2]
 mid:=[]
 n:=60
 dec vs bs:=match vs,bs with | [.string s,.string r],[]=>some (s,r) | _,_=>none
 pre:=fun(s,r)=>decide (s.size≤9223372036854775807)
 fin:=fun(s,r) Z=>∀s':Y,bz s'=tlZ (bz s) 32→Z (.exit 0) [S s',S r] []
def mn(b c:Bool)(a i m:Y)(f:Exit→J→Ya→Prop)(d e:Int)(g:Ya)(j n:J)(k:Nat)(h l:Value):Prop:=bif bv (decide (al a>0)) (b&&true) true then bif decide (al a>0) &&c then bm (c7 0 d e e (al a)) f g (h:: .string i::j)else f (.exit k) (l:: .string m::n) g else False
theorem r79_0(s:Y)(r:Y)(jk:Tmps)(R:Exit→J→Ya→Prop):(jbn Tryz.prog G4 noL Tryz.f80.ntmps (ja2 Tryz.f80 0) (tl S79_0.live (V79_0 (s,r)) jk) (ml S79_0.mid (B79_0 (s,r))) S79_0.n fun e t' m' _=>R e (List.map t' S79_0.live) (List.map m' S79_0.mid))=(mn (bk s 0) (aw s 0 32) s r r R 1 (al s) [] [] [] 0 (S (g0 s 1)) (S s)):=by kernel_rfl
theorem l79_0:∀t m n K,S79_0.h t m n K→Ab.Sem Tryz.prog Tryz.f80.ntmps (.loop (ja2 Tryz.f80 0)) t m n K:=by
 refine ja6 ok_G4 hmix (by kernel_rfl) (ja0 _) S79_0 V79_0 B79_0 (fun(s,r)=>s.size) ?_ ?_ ?_
 ·intro vs bs s h;simp only[S79_0]at h;split at h
  all_goals first | (cases h;exact⟨rfl,rfl⟩) | cases h | (split at h<;>first | (rename_i hq;cases h;have hq:=jah hq;subst hq;exact⟨rfl,rfl⟩) | cases h)
 ·exact fun _ _ _ h=>h
 ·intro⟨s,r⟩ jk Z hp hf;rw[r79_0];delta bm c7 al bv mn g0 au aw bk;simp only[S79_0]at hp hf;have hp:s.size≤9223372036854775807:=jab hp;have hx:(decide ((s.size:Int)>0))=true→0<s.size:=fun h=>by have:=jab h;omega
  refine c_t (by rcases Nat.eq_zero_or_pos s.size with q | q<;>simp[q]) (Ka (fun h=> ?_) (fun h=> ?_))
  ·simp only[jaf]at h;have h0:=hx h.1;have hc:jai s 0=32:=by simpa using h.2
   rw[jek h0,hc,jkz]at hf;refine c_t (by simp;try omega) ?_;exact⟨(s.extract 1 s.size,r),rfl,rfl,by simp only[S79_0,jae,jcd];omega,by simp only[jcd];omega,hf⟩
  ·refine hf s ?_;rcases Nat.eq_zero_or_pos s.size with h0 | h0
   ·rw[jgx h0];rfl
   ·rw[jek h0];refine(jnz (fun q=> ?_) _).symm;simp[q,h0]at h
def V79_2:Y×Y→J:=fun(s,r)=> [S s,S r]
def B79_2:Y×Y→Ya:=fun _=> []
def S79_2:LSpec (Y×Y) where
 live:=[0,2]
 mid:=[]
 n:=60
 dec vs bs:=match vs,bs with | [.string s,.string r],[]=>some (s,r) | _,_=>none
 pre:=fun(s,r)=>decide (s.size≤9223372036854775807)
 fin:=fun(s,r) Z=>∀s':Y,bz s'=trZ (bz s) 32→Z (.exit 2) [S s',S r] []
def j1(a:Y)(b:Int):Y:=a.extract 0 (d9 a b).toNat
theorem r79_2(s:Y)(r:Y)(jk:Tmps)(R:Exit→J→Ya→Prop):(jbn Tryz.prog G4 noL Tryz.f80.ntmps (ja2 Tryz.f80 2) (tl S79_2.live (V79_2 (s,r)) jk) (ml S79_2.mid (B79_2 (s,r))) S79_2.n fun e t' m' _=>R e (List.map t' S79_2.live) (List.map m' S79_2.mid))=(mn (cl (d9 s 1) (al s)) (jai s (d9 s 1).toNat==32) s r r R 0 (d9 s 1) [] [] [] 2 (S (j1 s 1)) (S s)):=by kernel_rfl
theorem l79_2:∀t m n K,S79_2.h t m n K→Ab.Sem Tryz.prog Tryz.f80.ntmps (.loop (ja2 Tryz.f80 2)) t m n K:=by
 refine ja6 ok_G4 hmix (by kernel_rfl) (ja0 _) S79_2 V79_2 B79_2 (fun(s,r)=>s.size) ?_ ?_ ?_
 ·intro vs bs s h;simp only[S79_2]at h;split at h
  all_goals first | (cases h;exact⟨rfl,rfl⟩) | cases h | (split at h<;>first | (rename_i hq;cases h;have hq:=jah hq;subst hq;exact⟨rfl,rfl⟩) | cases h)
 ·exact fun _ _ _ h=>h
 ·intro⟨s,r⟩ jk Z hp hf;rw[r79_2];delta bm c7 al bv mn d9 j1 cl;simp only[S79_2]at hp hf;have hp:s.size≤9223372036854775807:=jab hp;have hl:∀h:0<s.size,IntKind.i64.wrap ((s.size:Int)-1)=((s.size-1:Nat):Int):=fun h=>by rw[w64 (by omega)];omega
  refine c_t (by
    rcases Nat.eq_zero_or_pos s.size with q | q
    ·simp[q]
    ·rw[hl q];simp
     try omega) (Ka (fun h=> ?_) (fun h=> ?_))
  ·simp only[jaf]at h;have h0:0<s.size:=by have:=jab h.1;omega
   rw[hl h0]at h ⊢;have hb:=jfo (s:=s) (n:=((s.size-1:Nat):Int)) (by omega) (by omega);rw[Int.toNat_natCast]at hb;have hc:jai s (s.size-1)=32:=by simpa using h.2
   rw[hc]at hb;have hb':=hb;rw[hb,jky]at hf;refine c_t (by simp;try omega) ?_;exact⟨(s.extract 0 (s.size-1),r),rfl,rfl,by simp only[S79_2,jae,jcd];omega,by simp only[jcd];omega,hf⟩
  ·have hz:bz s=trZ (bz s) 32:=by
    rcases Nat.eq_zero_or_pos s.size with h0 | h0
    ·rw[jgx h0];rfl
    ·have hb:=jfo (s:=s) (n:=((s.size-1:Nat):Int)) (by omega) (by omega);rw[Int.toNat_natCast]at hb;rw[hb];refine(jny (fun q=> ?_) _).symm;rw[hl h0]at h;simp[q,h0]at h
   exact hf s hz
theorem lok79:LOKf Tryz.prog (twoL 0 S79_0.h 2 S79_2.h) Tryz.f80:=je2 (by kernel_rfl) (by kernel_rfl) l79_0 l79_2
def s79(s:Y):Bool×Value:=(decide (s.size≤9223372036854775807),S (szO (trZ (tlZ (bz s) 32) 32)))
theorem v79(s:Y)(R:Value→Prop):jax Tryz.prog G4 (twoL 0 S79_0.h 2 S79_2.h) Tryz.f80 [Enc.enc s] (fun _=>none) 0 (fun v _ _=>R v)=(bif S79_0.pre (s,ay)then∀a:Y,bz a=tlZ (bz s) 32→ib (S79_2.pre (a,ay)) (∀b:Y,bz b=trZ (bz a) 32→Tmps→R (S b)) False else False):=by kernel_rfl
theorem ok79:jan Tryz.prog 80 (sp1 s79):=by
 refine jb6 ok_G4 hmix (.m Tryz.func80) lok79 jag fun s hc=> ?_
 rw[ja4,v79];delta av ib ay;have hc:(s.size≤9223372036854775807):=jab hc
 try dsimp only[s79]
 refine c_t (jaa hc) fun s1 h1 _=> ?_
 have hs:s1.size≤s.size:=by rw[←jak,←jak,h1];exact jd4 _ _
 refine c_t (jaa (by omega)) fun s2 h2 _=> ?_
 rw[h1]at h2;rw[jmp h2]
def V80_0:Bool×Y×Int×Y×Bool×Int→J:=fun(g,s,q,x,xb,xi)=> [B g,S s,I q,.pointer (some ⟨0,0,some 0⟩)]
def B80_0:Bool×Y×Int×Y×Bool×Int→Ya:=fun(g,s,q,x,xb,xi)=> [some ⟨[B xb,S x,I xi],59,true⟩]
def S80_0:LSpec (Bool×Y×Int×Y×Bool×Int) where
 live:=[0,1,2,6]
 mid:=[0]
 n:=60
 dec vs bs:=match vs,bs with | [.bool g,.string s,.int .i64 q,.pointer (some ⟨0,0,some 0⟩)],[some ⟨[.bool xb,.string x,.int .i64 xi],59,true⟩]=>some (g,s,q,x,xb,xi) | _,_=>none
 pre:=fun(g,s,q,x,xb,xi)=>decide (s.size≤9223372036854775807)
 fin:=fun(g,s,q,x,xb,xi) Z=>∀s':Y,bz s'=tlZ (bz s) 48→Z (.exit 0) [B g,S s',I q,.pointer (some ⟨0,0,some 0⟩)] [some ⟨[B xb,S x,I xi],59,true⟩]
def gu(a:Bool)(b:Y)(c:Int):Option Blk:=some (.mk [.bool a,.string b,ak c] 59 true)
theorem r80_0(g:Bool)(s:Y)(q:Int)(x:Y)(xb:Bool)(xi:Int)(jk:Tmps)(R:Exit→J→Ya→Prop):(jbn Tryz.prog G4 noL Tryz.f83.ntmps (ja2 Tryz.f83 0) (tl S80_0.live (V80_0 (g,s,q,x,xb,xi)) jk) (ml S80_0.mid (B80_0 (g,s,q,x,xb,xi))) S80_0.n fun e t' m' _=>R e (List.map t' S80_0.live) (List.map m' S80_0.mid))=(mn (bk s 0) (aw s 0 48) s (g0 s 1) s R 1 (al s) [gu xb x xi] [ak q,ar 0] [ak q,ar 0] 0 (B g) (B g)):=by kernel_rfl
theorem l80_0:∀t m n K,S80_0.h t m n K→Ab.Sem Tryz.prog Tryz.f83.ntmps (.loop (ja2 Tryz.f83 0)) t m n K:=by
 refine ja6 ok_G4 hmix (by kernel_rfl) (ja0 _) S80_0 V80_0 B80_0 (fun(g,s,q,x,xb,xi)=>s.size) ?_ ?_ ?_
 ·intro vs bs s h;simp only[S80_0]at h;split at h
  all_goals first | (cases h;exact⟨rfl,rfl⟩) | cases h | (split at h<;>first | (rename_i hq;cases h;have hq:=jah hq;subst hq;exact⟨rfl,rfl⟩) | cases h)
 ·exact fun _ _ _ h=>h
 ·intro⟨g,s,q,x,xb,xi⟩ jk Z hp hf;rw[r80_0];delta bm c7 al bv mn ar ak gu g0 au aw bk;simp only[S80_0]at hp hf;have hp:s.size≤9223372036854775807:=jab hp;have hx:(decide ((s.size:Int)>0))=true→0<s.size:=fun h=>by have:=jab h;omega
  refine c_t (by rcases Nat.eq_zero_or_pos s.size with q | q<;>simp[q]) (Ka (fun h=> ?_) (fun h=> ?_))
  ·simp only[jaf]at h;have h0:=hx h.1;have hc:jai s 0=48:=by simpa using h.2
   rw[jek h0,hc,jkz]at hf;refine c_t (by simp;try omega) ?_;exact⟨(g,s.extract 1 s.size,q,x,xb,xi),rfl,rfl,by simp only[S80_0,jae,jcd];omega,by simp only[jcd];omega,hf⟩
  ·refine hf s ?_;rcases Nat.eq_zero_or_pos s.size with h0 | h0
   ·rw[jgx h0];rfl
   ·rw[jek h0];refine(jnz (fun q=> ?_) _).symm;simp[q,h0]at h
def V80_2:Bool×Y×Int×Y×Bool×Int→J:=fun(g,s,q,x,xb,xi)=> [B g,S s,I q,.pointer (some ⟨0,0,some 0⟩)]
def B80_2:Bool×Y×Int×Y×Bool×Int→Ya:=fun(g,s,q,x,xb,xi)=> [some ⟨[B xb,S x,I xi],59,true⟩]
def S80_2:LSpec (Bool×Y×Int×Y×Bool×Int) where
 live:=[0,1,2,6]
 mid:=[0]
 n:=60
 dec vs bs:=match vs,bs with | [.bool g,.string s,.int .i64 q,.pointer (some ⟨0,0,some 0⟩)],[some ⟨[.bool xb,.string x,.int .i64 xi],59,true⟩]=>some (g,s,q,x,xb,xi) | _,_=>none
 pre:=fun(g,s,q,x,xb,xi)=>decide (s.size≤1000000∧ -2000000+s.size≤q∧q≤2000000)
 fin:=fun(g,s,q,x,xb,xi) Z=>∀s':Y,bz s'=trZ (bz s) 48→Z (.exit 2) [B g,S s',I (q-((s.size:Int)-s'.size)),.pointer (some ⟨0,0,some 0⟩)] [some ⟨[B xb,S x,I xi],59,true⟩]
theorem r80_2(g:Bool)(s:Y)(q:Int)(x:Y)(xb:Bool)(xi:Int)(jk:Tmps)(R:Exit→J→Ya→Prop):(jbn Tryz.prog G4 noL Tryz.f83.ntmps (ja2 Tryz.f83 2) (tl S80_2.live (V80_2 (g,s,q,x,xb,xi)) jk) (ml S80_2.mid (B80_2 (g,s,q,x,xb,xi))) S80_2.n fun e t' m' _=>R e (List.map t' S80_2.live) (List.map m' S80_2.mid))=(mn (cl (d9 s 1) (al s)) (jai s (d9 s 1).toNat==48) s (j1 s 1) s R 0 (d9 s 1) [gu xb x xi] [I (dt q 1),ar 0] [ak q,ar 0] 2 (B g) (B g)):=by kernel_rfl
theorem l80_2:∀t m n K,S80_2.h t m n K→Ab.Sem Tryz.prog Tryz.f83.ntmps (.loop (ja2 Tryz.f83 2)) t m n K:=by
 refine ja6 ok_G4 hmix (by kernel_rfl) (ja0 _) S80_2 V80_2 B80_2 (fun(g,s,q,x,xb,xi)=>s.size) ?_ ?_ ?_
 ·intro vs bs s h;simp only[S80_2]at h;split at h
  all_goals first | (cases h;exact⟨rfl,rfl⟩) | cases h | (split at h<;>first | (rename_i hq;cases h;have hq:=jah hq;subst hq;exact⟨rfl,rfl⟩) | cases h)
 ·exact fun _ _ _ h=>h
 ·intro⟨g,s,q,x,xb,xi⟩ jk Z hp hf;rw[r80_2];delta bm c7 al bv mn ar ak dt gu d9 j1 cl;simp only[S80_2]at hp hf;have hp:s.size≤1000000∧ -2000000+s.size≤q∧q≤2000000:=jab hp;have hl:∀h:0<s.size,IntKind.i64.wrap ((s.size:Int)-1)=((s.size-1:Nat):Int):=fun h=>by rw[w64 (by omega)];omega
  refine c_t (by
    rcases Nat.eq_zero_or_pos s.size with q | q
    ·simp[q]
    ·rw[hl q];simp
     try omega) (Ka (fun h=> ?_) (fun h=> ?_))
  ·simp only[jaf]at h;have h0:0<s.size:=by have:=jab h.1;omega
   rw[hl h0]at h ⊢;have hb:=jfo (s:=s) (n:=((s.size-1:Nat):Int)) (by omega) (by omega);rw[Int.toNat_natCast]at hb;have hc:jai s (s.size-1)=48:=by simpa using h.2
   rw[hc]at hb;have hb':=hb;rw[hb,jky]at hf;refine c_t (by simp;try omega) ?_;rw[w64 (by omega)];refine⟨(g,s.extract 0 (s.size-1),q-1,x,xb,xi),rfl,rfl,by simp only[S80_2,jae,jcd];omega,by simp only[jcd];omega,fun s' e=> ?_⟩;have e2:q-1-(((s.extract 0 (s.size-1)).size:Int)-s'.size)=q-((s.size:Int)-s'.size):=by rw[jcd];omega
   rw[e2];exact hf s' e
  ·have hz:bz s=trZ (bz s) 48:=by
    rcases Nat.eq_zero_or_pos s.size with h0 | h0
    ·rw[jgx h0];rfl
    ·have hb:=jfo (s:=s) (n:=((s.size-1:Nat):Int)) (by omega) (by omega);rw[Int.toNat_natCast]at hb;rw[hb];refine(jny (fun q=> ?_) _).symm;rw[hl h0]at h;simp[q,h0]at h
   have e:=hf s hz;rw[show q-((s.size:Int)-s.size)=q by omega]at e;exact e
theorem lok80:LOKf Tryz.prog (twoL 0 S80_0.h 2 S80_2.h) Tryz.f83:=je2 (by kernel_rfl) (by kernel_rfl) l80_0 l80_2
def s80(g:Bool)(s:Y)(q:Int):Bool×Value:=(decide (s.size≤1000∧ -100000≤q∧q≤100000),numV (jaz g (bz s) q))
def lu:Value:=cu [.bool false,cv,ak 0]
def pu(d:Bool)(a:Y)(e:Int)(c:Value→Prop):Prop:=∀b:Y,bz b=trZ (bz a) 48→ib (ez b ay) (c lu) (c (cu [.bool d,.string b,.int .i64 (e-(al a-al b))]))
theorem v80(g:Bool)(s:Y)(q:Int)(R:Value→Prop):jax Tryz.prog G4 (twoL 0 S80_0.h 2 S80_2.h) Tryz.f83 [Enc.enc g,Enc.enc s,Enc.enc q] (fun _=>none) 0 (fun v _ _=>R v)=(bif Cx.S80_0.pre (g,(s,(q,(ay,(false,(0:Int))))))then∀a:Y,bz a=tlZ (bz s) 48→ib (S80_2.pre (g,(a,(q,(ay,(false,(0:Int))))))) (pu g a q R) False else False):=by kernel_rfl
theorem ok80:jan Tryz.prog 83 (sp3 s80):=by
 refine jh7 ok_G4 hmix (.m Tryz.func83) lok80 jag fun g s q hc=> ?_
 rw[ja4,v80];delta av ib cu al ak ay cv lu ez pu;have hc:(s.size≤1000∧ -100000≤q∧q≤100000):=jab hc
 try dsimp only[s80]
 refine c_t (jaa (by omega)) fun s1 h1 _=> ?_
 have hs:s1.size≤s.size:=by rw[←jak,←jak,h1];exact jd4 _ _
 refine c_t (jaa (by omega)) fun s2 h2 _=> ?_
 rw[h1]at h2;have l1:(s1.size:Int)=(tlZ (bz s) 48).length:=by rw[←jak,h1]
 have l2:(s2.size:Int)=(nz (bz s)).length:=by rw[←jak,h2];rfl
 have h2:bz s2=nz (bz s):=h2;rw[jb8,h2];apply Ka<;>intro h
 ·have h:=jab h;rw[jaz,Kd h];show _=Value.agg ⟨[.bool false,.string (szO []),.int .i64 0]⟩;rw[jcx];rfl
 ·have h:=jac h;rw[jaz,Kc h,l1,l2,jmp h2]
def V157_0:Y×Int×Bool×Bool×Int×Int→J:=fun(s,r,rb,ng,n,i)=> [S s,I r,B rb,B ng,I n,I i]
def B157_0:Y×Int×Bool×Bool×Int×Int→Ya:=fun _=> []
def S157_0:LSpec (Y×Int×Bool×Bool×Int×Int) where
 live:=[0,2,3,4,5,6]
 mid:=[]
 n:=60
 dec vs bs:=match vs,bs with | [.string s,.int .i64 r,.bool rb,.bool ng,.int .i64 n,.int .i64 i],[]=>some (s,r,rb,ng,n,i) | _,_=>none
 pre:=fun(s,r,rb,ng,n,i)=>decide (0≤i∧i≤s.size∧s.size≤2∧0≤n∧(i=0→n=0)∧(i=1→n<10)∧n<100) &&jbc (bz s)
 fin:=fun(s,r,rb,ng,n,i) Z=>Z (.exit 0) [S s,I r,B rb,B ng,I (decG ((bz s).drop i.toNat) n),I s.size] []
theorem r157_0(s:Y)(r:Int)(rb:Bool)(ng:Bool)(n:Int)(i:Int)(jk:Tmps)(R:Exit→J→Ya→Prop):(jbn Tryz.prog G4 noL Tryz.f214.ntmps (ja2 Tryz.f214 0) (tl S157_0.live (V157_0 (s,r,rb,ng,n,i)) jk) (ml S157_0.mid (B157_0 (s,r,rb,ng,n,i))) S157_0.n fun e t' m' _=>R e (List.map t' S157_0.live) (List.map m' S157_0.mid))=(bif ep s i then bm (bk s i) R [] [S s,ak r,B rb,B ng,k9 s 10 n i,az i]else R (.exit 0) (S s::ak r::B rb::B ng::bp n i) []):=by kernel_rfl
theorem l157_0:LOKf Tryz.prog (oneL 0 S157_0.h) Tryz.f214:=by
 refine jbb (h:=S157_0.h) (by kernel_rfl) (ja6 ok_G4 hmix (by kernel_rfl) (ja0 _) S157_0 V157_0 B157_0 (fun(s,r,rb,ng,n,i)=>(s.size-i).toNat) ?_ ?_ ?_)
 ·intro vs bs s h;simp only[S157_0]at h;split at h
  all_goals first | (cases h;exact⟨rfl,rfl⟩) | cases h | (split at h<;>first | (rename_i hq;cases h;have hq:=jah hq;subst hq;exact⟨rfl,rfl⟩) | cases h)
 ·exact fun _ _ _ h=>h
 ·intro⟨s,r,rb,ng,n,i⟩ jk Z hp hf;rw[r157_0];delta ak bp bm ax az kg jl j7 au k9 al bk ep;simp only[S157_0]at hp hf;simp only[jaf,jae]at hp;obtain⟨hp,hb⟩:=hp;apply Ka<;>intro h
  ·have h:=jab h;rw[jca hp.1 h,decG]at hf;refine c_t (jaa (by omega)) ?_;have hc:=dig_cases (s:=s) (i:=i.toNat) (by omega) hb;rw[w64 (n:=i+1) (by omega),w8s (by omega),w64 (n:=jai s i.toNat-48) (by omega),w64 (n:=10*n) (by omega),w64 (by omega)];exact⟨(s,r,rb,ng,10*n+(jai s i.toNat-48),i+1),rfl,rfl,by simp only[S157_0,jaf,jae];exact⟨by omega,hb⟩,by simp only;omega,hf⟩
  ·have h:=jac h;rw[jck (by omega)]at hf;obtain rfl:i=s.size:=by omega
   exact hf
theorem jg9:∀(l:O)(a:Int),decG l a=l.foldl (fun a c=>10*a+(c-48)) a
 | [],_=>rfl
 | c::l,a=>jg9 l _
theorem expD_size{s:Y}:expD (bz s)=if 1≤s.size∧s.size≤2∧jbc (bz s)=true then some (decG (bz s) 0)else none:=by
 rw[expD,jak,jg9]
theorem decG_rng{l:O}(h:jbc l=true)(h2:l.length≤2):0≤decG l 0∧decG l 0≤99:=by
 match l,h,h2 with
 | [],_,_=>simp[decG]
 | [a],h,_=>
  simp[jbc,dig]at h;simp only[decG];omega
 | [a,b],h,_=>
  simp[jbc,dig]at h;simp only[decG];omega
 | _::_::_::_,_,h2=>simp at h2
theorem exb{s:Y}:(decide ((s.size:Int)<1) || (decide ((s.size:Int)>2) || !jbc (bz s)))= !(expD (bz s)).isSome:=by
 rw[expD_size,Kl];simp only[Ko,jae,Ks];split
 ·rename_i h;simp[h.2.2];omega
 ·rename_i h;simp only[Option.isSome_none,true_iff,iff_true];cases hd:jbc (bz s)
  ·simp
  ·simp only[hd,and_true]at h;simp;omega
theorem jgu{c:Int}{l:O}:expZ (c::l)=if c=45 then(expD l).map (fun n=> -n)else if c=43 then expD l else expD (c::l):=by
 by_cases h:c=45
 ·subst h;rfl
 ·by_cases h2:c=43
  ·subst h2;rfl
  ·rw[Kc h,Kc h2];unfold expZ;split
   ·rename_i q;cases q;exact absurd rfl h2
   ·rename_i q;cases q;exact absurd rfl h
   ·rfl
theorem jgt{s:Y}{e:Int}(h:expD (bz s)=some e):e=decG (bz s) 0∧0≤e∧e≤99∧1≤s.size∧s.size≤2∧jbc (bz s)=true:=by
 rw[expD_size]at h;split at h
 ·rename_i q;cases h;have:=decG_rng q.2.2 (by rw[jak];omega);exact⟨rfl,this.1,this.2,q⟩
 ·cases h
theorem lim_or{s:Y}(h:s.size≤9223372036854775807):(decide ((s.size:Int)<1) || (decide ((s.size:Int)>2) || decide (s.size≤9223372036854775807) &&true))=true:=by simp[h]
def s157(s:Y):Bool×Value:=(decide (s.size≤9223372036854775807),tup [I ((expZ (bz s)).getD 0),B (expZ (bz s)).isSome])
def qg(c d g:Bool)(a b:Int)(h i:Prop)(f:Value)(e:Value→Prop):Prop:=bif bw a 1 || (decide (a>b) || c)then bif bw a 1 || (decide (a>b) || d)then e f else av g h i else False
def rm(b:Bool)(a:Y)(c:Prop)(d:Value→Prop):Prop:=qg (co a&&true) (!jbc (bz a)) (S157_0.pre (a,((0:Int),(false,(b,((0:Int),(0:Int))))))) (al a) 2 (Tmps→c) False (aq d8 (ak 0)) d
theorem v157(s:Y)(R:Value→Prop):jax Tryz.prog G4 (oneL 0 S157_0.h) Tryz.f214 [Enc.enc s] (fun _=>none) 0 (fun v _ _=>R v)=(go (decide (al s>0)) (bk s 0&& (aw s 0 43 || bk s 0&&true)) true (decide (al s>0) && (aw s 0 43 || aw s 0 45)) (gk (c7 0 1 (al s) (al s) (al s)) s 0 (rm (aw s 0 45) (g0 s 1) (bif aw s 0 45 then R (aq fv (I (cm 0 (decG (fw 0 (bz (g0 s 1))) 0))))else R (aq fv (I (decG (fw 0 (bz (g0 s 1))) 0)))) R) False) (rm false s (R (aq fv (I (decG (bu s 0) 0)))) R)):=by kernel_rfl
theorem ok157:jan Tryz.prog 214 (sp1 s157):=by
 refine jb6 ok_G4 hmix (.m Tryz.func214) l157_0 jag fun s hc=> ?_
 rw[ja4,v157];delta av go bw qg aq ak d8 al co rm bu fv bk gk fw g0 cm au aw c7;have hc:(s.size≤9223372036854775807):=jab hc
 try dsimp only[s157]
 refine c_t (by rcases Nat.eq_zero_or_pos s.size with q | q<;>simp[q]) (Ka (fun h=> ?_) (fun h=> ?_))
 ·simp only[jaf,Ko,jae,K4]at h;have h0:0<s.size:=by omega
  have h:jai s 0=43∨jai s 0=45:=h.2;have hs1:(s.extract 1 s.size).size≤9223372036854775807:=by rw[jcd];omega
  refine c_t (by simp;omega) (c_t (by simp;omega) (c_t (lim_or hs1) ?_));have hz:=jgu (c:=jai s 0) (l:=bz (s.extract 1 s.size));rw[←jek h0]at hz;rw[Int.toNat_one];rw[exb];generalize s.extract 1 s.size=s1 at*;cases he:expD (bz s1)with
  | none=>
   have:expZ (bz s)=none:=by
    rw[hz,he];rcases h with h | h
    ·rw[Kc (by omega),Kd (by exact h)]
    ·rw[Kd (by exact h)];rfl
   rw[this];exact c_t rfl rfl
  | some e=>
   obtain⟨e1,e2,e3,e4,e5,e6⟩:=jgt he;refine c_f rfl (c_t (by simp only[S157_0,jaf,jae];exact⟨by simp;omega,e6⟩) fun x=> ?_);rw[jkt,←e1];apply Ka<;>intro q
   ·have q:jai s 0=45:=eq_of_beq q;rw[hz,Kd q,he,w64 (by omega),Int.zero_sub];rfl
   ·have q:¬jai s 0=45:=by simpa using q
    have q2:jai s 0=43:=h.resolve_right q;rw[hz,Kc q,Kd q2,he];rfl
 ·refine c_t (lim_or hc) ?_;rw[exb]
  have hz:expZ (bz s)=expD (bz s):=by
   rcases Nat.eq_zero_or_pos s.size with q | q
   ·rw[jgx q];rfl
   ·have q':((s.size:Int)>0):=by omega
    simp only[q',decide_true,Bool.true_and,Kr,beq_eq_false_iff_ne]at h;have hz:=jgu (c:=jai s 0) (l:=bz (s.extract 1 s.size));rw[←jek q,Kc (by exact h.2),Kc (by exact h.1)]at hz;exact hz
  rw[hz];cases he:expD (bz s)with
  | none=>exact c_t rfl rfl
  | some e=>
   obtain⟨e1,e2,e3,e4,e5,e6⟩:=jgt he;refine c_f rfl (c_t (by simp only[S157_0,jaf,jae];exact⟨by simp;omega,e6⟩) fun x=> ?_);rw[jkt,←e1];rfl
def H1:Env:=(Env.nil.add 110 (sp2 s154)).add 289 (sp2 s131)
theorem ok_H1:ja3 Tryz.prog H1:=jaj (jaj jav ok154) ok131
theorem jkp{l:O}(h:IsB l)(c:Int):IsB (tlZ l c):=fun x hx=>h x ((Kt _).subset hx)
theorem jm3{l:O}(h:IsB l)(c:Int):IsB (trZ l c):=fun x hx=>by
 rw[trZ,List.mem_reverse]at hx;exact h x (List.mem_reverse.1 ((Kt _).subset hx))
theorem jcs{l:O}(h:IsB l):bz (szO l)=l:=by rw[jcx,jc7 h]
theorem jdi:szO []=⟨#[]⟩:=jcx []
def dz(n:Int):O:=if n=0 then []else decZ n
theorem jlg{n:Int}(h:0<n):dz n=dz (n/10)++ [48+n%10]:=by
 obtain⟨k,rfl⟩:∃k:Nat,n=(k:Int):=⟨n.toNat,by omega⟩
 have hu:∀j:Nat,j<10→((UInt8.ofNat (48+j)).toNat:Int)=48+j:=fun j hj=>by rw[UInt8.toNat_ofNat'];omega
 rw[dz,Kc (by omega),decZ,Int.toNat_natCast,Lib.decDigits];by_cases h1:k<10
 ·have e:(k:Int)/10=0:=by omega
  rw[dif_pos h1,dz,e,Kd rfl,zl,List.map_cons,List.map_nil,hu k h1,List.nil_append];congr 1;omega
 ·have e:(k:Int)/10=((k/10:Nat):Int):=by omega
  rw[dif_neg h1,dz,e,Kc (by omega),decZ,Int.toNat_natCast,zl,List.map_append,List.map_cons,List.map_nil,hu (k%10) (by omega)];rfl
theorem row_pre{d:J}{m cap:Nat}(h:RowP d m cap)(x:Int){tail:J}{cap':Nat}(ht:jbd tail cap' (1+m) 1=true):
  RowP ([.int .u8 x]++d.take m++tail) (1+m) cap'∧zc ([.int .u8 x]++d.take m++tail) (1+m)=x::zc d m:=by
 obtain⟨t1,t2,t3,t4⟩:=jfe ht;have hz:=jbe h;have:=jki (x::zc d m) (tail:=tail) (cap:=cap') t1 (by simp only[List.length_cons,hz];omega) t4;simp only[List.length_cons,hz]at this;rw[h.take,Nat.add_comm 1 m];exact this
def s77(g:Bool)(s:Y)(q:Int):Bool×Value:=(decide (s.size≤100000∧ -100000≤q∧q≤100000),numV (jaz g (bz s) q))
def kj(a:Y):Y:=szO (tlZ (bz a) (jy 48))
theorem v77(g:Bool)(s:Y)(q:Int)(R:Value→Prop):jax Tryz.prog H1 noL Tryz.f239 [Enc.enc g,Enc.enc s,Enc.enc q] (fun _=>none) 0 (fun v _ _=>R v)=(i6 (co (kj s)) (oneB f9&&asc (bz f9)) (j2 (trZ (bz (kj s)) (jy 48))) (R lu) (R (cu [B g,S (szO (trZ (bz (kj s)) (jy 48))),I (cm q (IntKind.i64.wrap (fk (kj s)-fk (szO (trZ (bz (kj s)) (jy 48))))))]))):=by kernel_rfl
theorem ok77:jan Tryz.prog 239 (sp3 s77):=by
 refine jh7 ok_H1 hmix (.m Tryz.func239) jal jag fun g s q hc=> ?_
 rw[ja4,v77];delta i6 cu cm fk jy kj ak ay cv lu j2 f9 co;have hc:(s.size≤100000∧ -100000≤q∧q≤100000):=jab hc
 try dsimp only[s77]
 have d:(bz ⟨#[48]⟩).getD 0 0=48:=rfl;have iA:IsB (tlZ (bz s) 48):=jkp (jdh s) 48;have eA:bz (szO (tlZ (bz s) 48))=tlZ (bz s) 48:=jcs iA;have h1:=jd4 (bz s) 48;rw[jak]at h1;have h2:=jhf (tlZ (bz s) 48) 48;rw[d,eA,jbu];refine c_t (by rw[jaa (show(tlZ (bz s) 48).length≤9223372036854775807 by omega),Bool.true_and];kernel_rfl) ?_;rw[jb8,jcs (jm3 iA 48),jbu];apply Ka<;>intro h
 ·have h:nz (bz s)=[]:=jab h;rw[jaz,Kd h];show _=Value.agg ⟨[.bool false,.string (szO []),.int .i64 0]⟩;rw[jdi]
 ·have h:¬nz (bz s)=[]:=jac h;rw[jaz,Kc h,w64 (n:=((tlZ (bz s) 48).length:Int)-(trZ (tlZ (bz s) 48) 48).length) (by omega),w64 (by omega)];rfl
def V78_0:Y×Y×Int×Int×Int→J:=fun(s,r,n,L,i)=> [S s,S r,C64 n,I L,I i]
def B78_0:Y×Y×Int×Int×Int→Ya:=fun _=> []
def S78_0:LSpec (Y×Y×Int×Int×Int) where
 live:=[0,2,3,7,8]
 mid:=[]
 n:=60
 dec vs bs:=match vs,bs with | [.string s,.string r,.int .u64 n,.int .i64 L,.int .i64 i],[]=>some (s,r,n,L,i) | _,_=>none
 pre:=fun(s,r,n,L,i)=>decide (0≤i∧i≤L∧L=s.size∧s.size≤64∧0≤n∧n<2^i.toNat) &&jcn (bz s)
 fin:=fun(s,r,n,L,i) Z=>Z (.exit 0) [S s,S r,C64 (binG ((bz s).drop i.toNat) n),I L,I L] []
theorem r78_0(s:Y)(r:Y)(n:Int)(L:Int)(i:Int)(jk:Tmps)(R:Exit→J→Ya→Prop):(jbn Tryz.prog H1 noL Tryz.f240.ntmps (ja2 Tryz.f240 0) (tl S78_0.live (V78_0 (s,r,n,L,i)) jk) (ml S78_0.mid (B78_0 (s,r,n,L,i))) S78_0.n fun e t' m' _=>R e (List.map t' S78_0.live) (List.map m' S78_0.mid))=(bif bw i L then bm (bk s i) R [] (e9 s r (ct L i) (oh s 2 n i))else R (.exit 0) (e9 s r (bp L i) (.int .u64 n)) []):=by kernel_rfl
theorem l78_0:∀t m n K,S78_0.h t m n K→Ab.Sem Tryz.prog Tryz.f240.ntmps (.loop (ja2 Tryz.f240 0)) t m n K:=by
 refine ja6 ok_H1 hmix (by kernel_rfl) (ja0 _) S78_0 V78_0 B78_0 (fun(s,r,n,L,i)=>(s.size-i).toNat) ?_ ?_ ?_
 ·intro vs bs s h;simp only[S78_0]at h;split at h
  all_goals first | (cases h;exact⟨rfl,rfl⟩) | cases h | (split at h<;>first | (rename_i hq;cases h;have hq:=jah hq;subst hq;exact⟨rfl,rfl⟩) | cases h)
 ·exact fun _ _ _ h=>h
 ·intro⟨s,r,n,L,i⟩ jk Z hp hf;rw[r78_0];delta e9 ak bp bm au oh ax az ct al bk bw;simp only[S78_0]at hp hf;simp only[jaf,jae]at hp;obtain⟨hp,hb⟩:=hp;apply Ka<;>intro h
  ·have h:=jab h;rw[jca hp.1 (by omega),binG]at hf;refine c_t (jaa (by omega)) ?_;have hc:=jix (s:=s) (i:=i.toNat) (by omega) hb
   have h2:(2:Int) ^ (i+1).toNat=2*2^i.toNat:=by
    rw[show(i+1).toNat=i.toNat+1 by omega,Int.pow_succ,Int.mul_comm]
   have h3:(2:Int) ^ (i+1).toNat≤2^64:=by
    have:(2:Nat) ^ (i+1).toNat≤2^64:=Nat.pow_le_pow_right (by omega) (by omega);have h':((2^ (i+1).toNat:Nat):Int)≤((2^64:Nat):Int):=Int.ofNat_le.2 this;simpa using h'
   have h4:(2:Int) ^64=18446744073709551616:=by decide
   rw[w64 (n:=i+1) (by omega),w8s (by omega),wu64 (n:=jai s i.toNat-48) (by omega),wu64 (n:=2*n) (by omega),wu64 (by omega)];exact⟨(s,r,2*n+(jai s i.toNat-48),L,i+1),rfl,rfl,by simp only[S78_0,jaf,jae];exact⟨by omega,hb⟩,by simp only;omega,hf⟩
  ·have h:=jac h;rw[jck (by omega)]at hf;obtain rfl:i=L:=by omega
   exact hf
def V78_2:Int×Rw→J:=fun(n,o)=> [C64 n,o.v 200]
def B78_2:Int×Rw→Ya:=fun(n,o)=> [o.b]
def S78_2:LSpecA (Int×Rw) where
 live:=[3,5]
 mid:=[200]
 n:=210
 ap:=[(.tmp 5,200)]
 dec vs bs:=match vs,bs with
  | [.int .u64 n,.slice none 0 0],[none]=>some (n,.nil)
  | [.int .u64 n,.slice (some ⟨200,0,some 1⟩) m cap],[some ⟨d,5,true⟩]=>some (n,.own d m cap)
  | _,_=>none
 pre:=fun(n,o)=>o.ok&&decide (0≤n∧(o.is=true→o.z≠ [])∧o.z.length≤20∧n<10^ (20-o.z.length))
 fin:=fun(n,o) Z=>(dz n++o.z=[]→Z (.exit 2) [C64 0,.slice none 0 0] [none])∧(∀d' m' cap',jcp d' m' cap'=true→zc d' m'=dz n++o.z→dz n++o.z≠ []→Z (.exit 2) [C64 0,.slice (some ⟨200,0,some 1⟩) m' cap'] [some ⟨d',5,true⟩])
theorem r78_2n(n:Int)(jk:Tmps)(R:Exit→J→Ya→Prop):(jbn Tryz.prog H1 noL Tryz.f240.ntmps (ja2 Tryz.f240 2) (tl S78_2.live (V78_2 (n,.nil)) jk) (ml S78_2.mid (B78_2 (n,.nil))) S78_2.n fun e t' m' _=>S78_2.out R e t' m')=(bif gp n then∀a:Nat,∀b:J,fu b a (1+0)→lh R (IntKind.u64.wrap (n.tdiv 10)) .u64 (jq (IntKind.u64.wrap (48+n.tmod 10))::b) [] 218 (cq 200 0 1 a)else R (.exit 2) [.int .u64 n,jm] [none]):=by kernel_rfl
theorem r78_2o(n:Int)(d:J)(m:Nat)(cap:Nat)(jk:Tmps)(R:Exit→J→Ya→Prop):(jbn Tryz.prog H1 noL Tryz.f240.ntmps (ja2 Tryz.f240 2) (tl S78_2.live (V78_2 (n,.own d m cap)) jk) (ml S78_2.mid (B78_2 (n,.own d m cap))) S78_2.n fun e t' m' _=>S78_2.out R e t' m')=(dy (gp n) (Nat.ble (0+m*1) d.length&& ((d.drop 0).take (m*1)).all jf9&&jb2 (1+m) 1) (f0 d 200 200) (∀a:Nat,∀b:J,fu b a (1+m)→lh R (IntKind.u64.wrap (n.tdiv 10)) .u64 (jq (IntKind.u64.wrap (48+n.tmod 10))::((d.drop 0).take (m*1)++b)) [] 218 (cq 200 0 (1+m) a)) (R (.exit 2) [.int .u64 n,cq 200 0 m cap] [gn d])):=by kernel_rfl
theorem l78_2:∀t m n K,S78_2.hA t m n K→Ab.Sem Tryz.prog Tryz.f240.ntmps (.loop (ja2 Tryz.f240 2)) t m n K:=by
 refine jbo ok_H1 hmix (by kernel_rfl) (ja0 _) S78_2 V78_2 B78_2 (fun(n,o)=>n.toNat) ?_ ?_ ?_
 ·intro vs bs s h;simp only[S78_2]at h;split at h
  all_goals first | (cases h;exact⟨rfl,rfl⟩) | cases h | (split at h<;>first | (rename_i hq;cases h;have hq:=jah hq;subst hq;exact⟨rfl,rfl⟩) | cases h)
 ·exact fun⟨n,o⟩ hp=>by
   simp only[S78_2,jaf]at hp;cases o with
   | nil=>simp[V78_2,B78_2,S78_2,jaw,jbs,idsL,ids,Rw.v,Rw.b]
   | own d m cap=>simp[V78_2,B78_2,S78_2,jaw,jbs,idsL,ids,Rw.v,Rw.b,jao (jap.1 hp.1).plain]
 ·intro⟨n,o⟩ jk Z hp hf;simp only[S78_2]at hp hf;simp only[jaf,jae]at hp;obtain⟨hr,h0,his,h20,hlt⟩:=hp
  have hten:0<n→o.z.length<20∧n/10<10^ (20-(o.z.length+1)):=fun hn=>by
   rcases Nat.lt_or_ge o.z.length 20 with q | q
   ·refine⟨q,?_⟩;rw[show 20-o.z.length=(20-(o.z.length+1))+1 by omega,Int.pow_succ]at hlt;omega
   ·rw[show 20-o.z.length=0 by omega]at hlt;omega
  have hw:IntKind.u8.wrap (IntKind.u64.wrap (48+n.tmod 10))=48+n%10:=by
   rw[Int.tmod_eq_emod_of_nonneg h0,wu64 (by omega),w8 (by omega)]
  have hq:n<18446744073709551616*10→IntKind.u64.wrap (n.tdiv 10)=n/10:=fun h=>by
   rw[Int.tdiv_eq_ediv_of_nonneg h0,wu64 (by omega)]
  have h64:n<18446744073709551616*10:=by
   have:(10:Int) ^ (20-o.z.length)≤10^20:=by
    have:(10:Nat) ^ (20-o.z.length)≤10^20:=Nat.pow_le_pow_right (by omega) (by omega);have h':((10^ (20-o.z.length):Nat):Int)≤((10^20:Nat):Int):=Int.ofNat_le.2 this;simpa using h'
   have h5:(10:Int) ^20=100000000000000000000:=by decide
   omega
  cases o with
  | nil=>
   rw[r78_2n];delta jm bm iq lh cq jq fu gp;rw[hw,hq h64];apply Ka<;>intro h
   ·have h:n>0:=jab h;intro cap tail ht;obtain⟨g1,g2⟩:=jgc [48+n%10] (tail:=tail) (cap':=cap) ht;have g1:RowP (.int .u8 (48+n%10)::tail) 1 cap:=g1;have g2:zc (.int .u8 (48+n%10)::tail) 1=[48+n%10]:=g2;rw[g1.good,g1.rlb];refine c_t rfl ⟨(n/10,.own _ 1 cap),rfl,rfl,?_,by simp only;omega,?_⟩
    ·simp only[S78_2,jaf,jae];refine⟨jap.2 g1,by omega,?_⟩;simp only[Rw.z,g2];exact⟨fun _=>by simp,by simp,(hten h).2⟩
    ·have e:dz (n/10)++(Rw.own (.int .u8 (48+n%10)::tail) 1 cap).z=dz n++Rw.nil.z:=by
      rw[jlg h];simp only[Rw.z,g2,KA]
     simp only[S78_2];rw[e];exact hf
   ·have h:n=0:=by have:=jac h;omega
    subst h;exact hf.1 rfl
  | own d m cap=>
   rw[r78_2o];delta e7 dy gn cq bm iq lh jq fu f0 gp;rw[hw,hq h64];have hr:RowP d m cap:=jap.1 hr;have hzl:=jbe hr;have hm:m≤20:=by rw[←hzl];exact h20
   apply Ka<;>intro h
   ·have h:n>0:=jab h
    refine c_t (by
     have e1:Nat.ble (0+m*1) d.length=true:=by rw[Nat.ble_eq];have:=hr.len;have:=hr.le;omega
     have e2:(List.take (m*1) (List.drop 0 d)).all jf9=true:=by
      rw[Nat.mul_one,List.drop_zero,hr.take];exact cz_cell _
     have e3:jb2 (1+m) 1=true:=by simp only[jb2,jaf,Nat.ble_eq];omega
     rw[e1,e2,e3];rfl) fun cap1 tail ht=> ?_
    obtain⟨g1,g2⟩:=row_pre hr (48+n%10) ht;have g1:RowP (.int .u8 (48+n%10)::(List.take (m*1) (List.drop 0 d)++tail)) (1+m) cap1:=by rw[Nat.mul_one];exact g1
    have g2:zc (.int .u8 (48+n%10)::(List.take (m*1) (List.drop 0 d)++tail)) (1+m)=(48+n%10)::zc d m:=by rw[Nat.mul_one];exact g2
    rw[g1.good,g1.rlb];refine c_t rfl ⟨(n/10,.own _ (1+m) cap1),rfl,rfl,?_,by simp only;omega,?_⟩
    ·simp only[S78_2,jaf,jae];refine⟨jap.2 g1,by omega,?_⟩;simp only[Rw.z,g2,List.length_cons];exact⟨fun _=>by simp,by have:=(hten h).1;simp only[Rw.z]at this;omega,(hten h).2⟩
    ·have e:dz (n/10)++(Rw.own (.int .u8 (48+n%10)::(List.take (m*1) (List.drop 0 d)++tail)) (1+m) cap1).z=dz n++(Rw.own d m cap).z:=by
      rw[jlg h];simp only[Rw.z,g2,Kz,List.cons_append,List.nil_append]
     simp only[S78_2];rw[e];exact hf
   ·have h:n=0:=by have:=jac h;omega
    subst h;rw[hr.good,hr.rlb];refine c_t rfl ?_;exact hf.2 d m cap (jap.2 hr) rfl (his rfl)
theorem jiy:∀(l:O)(a:Int),jcn l=true→0≤a→0≤binG l a∧binG l a<(a+1)*2^l.length
 | [],a,_,h=>by simp[binG];omega
 | c::r,a,hb,h=>by
  simp only[jcn,List.all_cons,jaf,jae]at hb;obtain⟨h1,h2⟩:=jiy r (2*a+(c-48)) hb.2 (by omega);rw[binG];refine⟨h1,Int.lt_of_lt_of_le h2 ?_⟩;rw[List.length_cons,Int.pow_succ,Int.mul_comm (2^r.length) 2,←Int.mul_assoc];exact Int.mul_le_mul_of_nonneg_right (by omega) (Int.le_of_lt (Int.pow_pos (by omega)))
theorem jmf{l:O}(hb:jcn l=true)(h:l.length≤64):0≤binG l 0∧binG l 0<18446744073709551616:=by
 obtain⟨h1,h2⟩:=jiy l 0 hb (by omega);refine⟨h1,Int.lt_of_lt_of_le h2 ?_⟩;have:(2:Nat) ^l.length≤2^64:=Nat.pow_le_pow_right (by omega) h;have h':((2^l.length:Nat):Int)≤((2^64:Nat):Int):=Int.ofNat_le.2 this;have h4:(2:Int) ^64=18446744073709551616:=by decide
 simp at h';omega
theorem lok78:LOKf Tryz.prog (twoL 0 S78_0.h 2 S78_2.hA) Tryz.f240:=je2 (by kernel_rfl) (by kernel_rfl) l78_0 l78_2
def s78(s:Y):Bool×Value:=(jcn (bz s) &&decide (s.size≤64),S (szO (dz (binG (bz s) 0))))
theorem v78(s:Y)(R:Value→Prop):jax Tryz.prog H1 (twoL 0 S78_0.h 2 S78_2.hA) Tryz.f240 [Enc.enc s] (fun _=>none) 0 (fun v _ _=>R v)=(bif S78_0.pre (s,(ay,((0:Int),(al s,(0:Int)))))then ib (S78_2.toLSpec.pre (binG (bu s 0) 0,Rw.nil)) ((Decidable.rec (fun a:Not (Eq (Cx.binG (List.drop (Int.toNat 0) (Px.bz s)) 0) 0)=>decZ (binG (bu s 0) 0)) (fun a:Eq (Cx.binG (List.drop (Int.toNat 0) (Px.bz s)) 0) 0=> []) ((binG (bu s 0) 0).instDecidableEq 0)++([]:O)=([]:O)→Tmps→R (S ByteArray.empty))∧(∀a:J,∀b:Nat,∀c:Nat,jcp a b c=true→zc a b=dz (binG (bu s 0) 0)++Rw.z Rw.nil→Decidable.rec (fun d:Not (Eq (Cx.binG (List.drop (Int.toNat 0) (Px.bz s)) 0) 0)=>decZ (binG (bu s 0) 0)) (fun d:Eq (Cx.binG (List.drop (Int.toNat 0) (Px.bz s)) 0) 0=> []) ((binG (bu s 0) 0).instDecidableEq 0)++([]:O)≠([]:O)→li a b R)) False else False):=by kernel_rfl
theorem ok78:jan Tryz.prog 240 (sp1 s78):=by
 refine jb6 ok_H1 hmix (.m Tryz.func240) lok78 jag fun s hc=> ?_
 rw[ja4,v78];delta av ib br ko li bu al ay
 try dsimp only[s78]
 simp only[s78,jaf,jae]at hc;obtain⟨hb,hl⟩:=hc;obtain⟨b1,b2⟩:=jmf (l:=bz s) hb (by rw[jak];exact hl);refine c_t (by simp only[S78_0,jaf,jae];exact⟨by simp;omega,hb⟩) fun _=> ?_
 refine c_t ?_ ⟨fun hz _=> ?_,fun d' m' cap' hr hz hne=> ?_⟩
 ·simp only[S78_2,jaf,jae];refine⟨rfl,b1,⟨(fun h=>by cases h),⟨by simp[Rw.z],?_⟩⟩⟩;have h5:(10:Int) ^20=100000000000000000000:=by decide
  show binG (bz s) 0<10^20;omega
 ·have hz:dz (binG (bz s) 0)++ []=[]:=hz;rw[KA]at hz;rw[hz,jdi];rfl
 ·have hr:=jap.1 hr;have hz:zc d' m'=dz (binG (bz s) 0)++ []:=hz;rw[KA]at hz;refine c_t (by rw[jba hr.plain];rfl) fun _=>c_t hr.str.1 ?_
  rw[hr.str.2,hz,jcx]
end Go.Cx
end
section
namespace Go.Cv
def jfb:St→Bool
 | .ded=>true
 | _=>false
def runQ:List Int→St→Rd→Option (St×Rd)
 | [],st,r=>some (st,r)
 | c::l,st,r=>if jfb (jce st r c).1=true then none else runQ l (jce st r c).1 (jce st r c).2
theorem run_Q:∀(l:List Int)(st:St)(r:Rd),jfb st=false→runP l st r=(runQ l st r).bind fun x=>if endP x.1=true then some x.2 else none
 | [],st,r,_=>rfl
 | c::l,st,r,_=>by
  rw[runP,runQ];by_cases h:jfb (jce st r c).1=true
  ·rw[Kd h];cases hs:(jce st r c).1 with
   | ded=>rw[jc6];rfl
   | _=>rw[hs]at h;cases h
  ·rw[Kc h];exact run_Q l _ _ (by simpa using h)
section
variable {l : List Int} {r : Rd} {c : Int}
theorem q_beg1(h:c=32):runQ (c::l) .beg r=runQ l .beg r:=by simp[runQ,jce,h,jfb]
theorem q_beg2(h:c=43∨c=45):runQ (c::l) .beg r=runQ l (.bod false false) {r with neg:=decide (c=45)}:=by
 have h1:¬c=32:=by omega
 simp[runQ,jce,h,h1,jfb]
theorem q_beg3(h1:¬c=32)(h:¬(c=43∨c=45)):runQ (c::l) .beg r=runQ (c::l) (.bod false false) r:=by
 simp only[runQ,jce,Kc h,Kc h1];rfl
variable {s p : Bool}
theorem q_bod1(h:dig c=true):runQ (c::l) (.bod s p) r=runQ l (.bod true p) {r with ds:=r.ds++ [c],sc:=if p=true then r.sc+1 else r.sc}:=by
 simp[runQ,jce,bodN,h,jfb]
theorem q_bod2(h:c=46):runQ (c::l) (.bod s false) r=runQ l (.bod s true) r:=by
 subst h;simp[runQ,jce,bodN,dig,jfb]
theorem q_bod3(h:dig c=false)(h2:¬(c=46∧p=false)):runQ (c::l) (.bod false p) r=none:=by
 simp only[runQ,jce,bodN,h,h2];simp[jfb]
theorem q_bod4(h:c=69):runQ (c::l) (.bod true p) r=runQ l (.exq false 0) r:=by
 subst h;simp[runQ,jce,bodN,dig,jfb]
theorem q_bod5(h:c=66):runQ (c::l) (.bod true false) r=runQ l .beh {r with bin:=true}:=by
 subst h;simp[runQ,jce,bodN,dig,jfb]
theorem q_bod6(h:c=32):runQ (c::l) (.bod true p) r=runQ l .beh r:=by
 subst h;simp[runQ,jce,bodN,dig,jfb]
theorem q_bod7(h:dig c=false)(h2:¬(c=46∧p=false))(h3:¬c=69)(h4:¬(c=66∧p=false))(h5:¬c=32):runQ (c::l) (.bod true p) r=none:=by
 simp only[runQ,jce,bodN,h,h2,h3,h4,h5];simp[jfb]
variable {g : Bool} {m : Nat}
theorem q_ex1(h:dig c=true)(hm:m<2):runQ (c::l) (.exq g m) r=runQ l (.exq true (m+1)) {r with pw:=10*r.pw+(c-48)}:=by
 simp[runQ,jce,h,hm,jfb]
theorem q_ex2(h:c=43∨c=45):runQ (c::l) (.exq false m) r=runQ l (.exq true 0) {r with down:=decide (c=45)}:=by
 have h1:dig c=false:=by rcases h with h | h<;>subst h<;>rfl
 simp[runQ,jce,h1,h,jfb]
theorem q_ex3(h:c=32)(hm:0<m):runQ (c::l) (.exq g m) r=runQ l .beh r:=by
 subst h;simp[runQ,jce,dig,hm,jfb]
theorem q_ex4(h:¬(dig c=true∧m<2))(h2:¬((c=43∨c=45)∧g=false))(h3:¬(c=32∧0<m)):runQ (c::l) (.exq g m) r=none:=by
 simp only[runQ,jce,h,h2,h3];simp[jfb]
theorem q_beh1(h:c=32):runQ (c::l) .beh r=runQ l .beh r:=by simp[runQ,jce,h,jfb]
theorem q_beh2(h:¬c=32):runQ (c::l) .beh r=none:=by simp[runQ,jce,h,jfb]
end
end Go.Cv
end
noncomputable section
set_option maxHeartbeats 3200000
namespace Go.Cx
open Go Go.Ab Go.Proofs Go.Shelf Go.Px Go.Cv
open Go.Fx (Ty Vl check jbi most base pw bnd Fit fits tv vv tup V0 T0 jbw jbx jbp jcf str0)
def H2:Env:=Env.nil
theorem ok_H2:ja3 Tryz.prog H2:=jav
theorem fn153:Fn1 Tryz.prog 288 Tryz.f288:= .m Tryz.func288
theorem fn76:Fn1 Tryz.prog 238 Tryz.f238:= .m Tryz.func238
theorem fn212:Fn1 Tryz.prog 307 Tryz.f307:= .m Tryz.func307
theorem fn263:Fn1 Tryz.prog 315 Tryz.f315:= .m Tryz.func315
theorem fn264:Fn1 Tryz.prog 316 Tryz.f316:= .m Tryz.func316
noncomputable def G7 : Env := ((((Env.nil.add 287 (sp1 s152)).add 308 (sp1 s213)).addG 288 (inlQ Tryz.prog H2 noL Tryz.f288)).addG 309 (inlQ Tryz.prog H2 noL Tryz.f309)).addG 310 (inlQ Tryz.prog H2 noL Tryz.f310)
theorem ok_G7:ja3 Tryz.prog G7:=jau (jau (jau (jaj (jaj jav ok152) ok213) (jbh ok_H2 hmix fn153 jal)) (jbh ok_H2 hmix (.m Tryz.func309) jal)) (jbh ok_H2 hmix (.m Tryz.func310) jal)
noncomputable def G8 : Env := (((((Env.nil.add 287 (sp1 s152)).addG 288 (inlQ Tryz.prog H2 noL Tryz.f288)).addG 238 (inlQ Tryz.prog H2 noL Tryz.f238)).addG 307 (inlQ Tryz.prog G7 noL Tryz.f307)).addG 315 (inlQ Tryz.prog G7 noL Tryz.f315)).addG 316 (inlQ Tryz.prog G7 noL Tryz.f316)
theorem ok_G8:ja3 Tryz.prog G8:=jau (jau (jau (jau (jau (jaj jav ok152) (jbh ok_H2 hmix fn153 jal)) (jbh ok_H2 hmix fn76 jal)) (jbh ok_G7 hmix fn212 jal)) (jbh ok_G7 hmix fn263 jal)) (jbh ok_G7 hmix fn264 jal)
noncomputable def G9 : Env := (((((((Env.nil.add 124 (sp2 s55)).add 239 (sp3 s77)).add 240 (sp1 s78)).addG 238 (inlQ Tryz.prog H2 noL Tryz.f238)).addG 307 (inlQ Tryz.prog G7 noL Tryz.f307)).addG 315 (inlQ Tryz.prog G7 noL Tryz.f315)).addG 316 (inlQ Tryz.prog G7 noL Tryz.f316)).addG 286 (inlQ Tryz.prog G8 noL Tryz.f286)
theorem ok_G9:ja3 Tryz.prog G9:=jau (jau (jau (jau (jau (jaj (jaj (jaj jav ok55) ok77) ok78) (jbh ok_H2 hmix fn76 jal)) (jbh ok_G7 hmix fn212 jal)) (jbh ok_G7 hmix fn263 jal)) (jbh ok_G7 hmix fn264 jal)) (jbh ok_G8 hmix (.m Tryz.func286) jal)
inductive Ms where
 | beg | bod (s p:Bool) | exq (g:Bool) (m:Int) | beh
def Ms.v:Ms→Value
 | .beg=> .func (.func 286) ⟨[]⟩ ⟨[]⟩
 | .bod _ _=> .func (.func 307) ⟨[]⟩ ⟨[.pointer (some ⟨200,0,some 0⟩),.pointer (some ⟨201,0,some 0⟩)]⟩
 | .exq _ _=> .func (.func 315) ⟨[]⟩ ⟨[.pointer (some ⟨200,0,some 0⟩),.pointer (some ⟨201,0,some 0⟩)]⟩
 | .beh=> .func (.func 316) ⟨[]⟩ ⟨[]⟩
def Ms.b0:Ms→Option Blk
 | .bod _ p=>some ⟨[.bool p],4,true⟩
 | .exq _ m=>some ⟨[.int .i64 m],3,true⟩
 | _=>none
def Ms.b1:Ms→Option Blk
 | .bod s _=>some ⟨[.bool s],4,true⟩
 | .exq g _=>some ⟨[.bool g],4,true⟩
 | _=>none
def Ms.st:Ms→St
 | .beg=> .beg
 | .bod s p=> .bod s p
 | .exq g m=> .exq g m.toNat
 | .beh=> .beh
def Ms.ok(M:Ms)(e:Bool)(pw sc:Int):Bool:=match M with
 | .beg=>e&&decide (pw=0)
 | .bod s _=>e==s&&decide (pw=0)
 | .exq g m=>e==decide (0<m) &&decide (0≤m∧m≤2∧(g=false→m=0)∧0≤pw∧(m=0→pw=0)∧(m=1→pw<10)∧pw<100)
 | .beh=>e&&decide (0≤pw∧pw<100)
structure RunIs (l:O)(st:St)(r:Rd)(x:Option (St×Rd)):Prop where
 h:runQ l st r=x
structure MsIs (M:Ms)(mv:Value)(b0 b1:Option Blk):Prop where
 v:mv=M.v
 b0:b0=M.b0
 b1:b1=M.b1
def FinN(l:O)(st:St)(r:Rd)(A:Prop)(B:Bool→Bool→Bool→Y→Int→Int→Bool→Value→Option Blk→Option Blk→Prop):Prop:=
 (RunIs l st r none→A)∧(∀(ng bn dn:Bool)(ds:Y)(sc pw:Int)(M:Ms)(e:Bool)(mv:Value),(M.ok e pw sc&&decide (ds.size≤255∧0≤sc∧sc≤255))=true→MsIs M mv none none→RunIs l st r (some (M.st,⟨ng,bn,dn,bz ds,sc,pw⟩))→B ng bn dn ds sc pw e mv none none)∧
   (∀(ng bn dn:Bool)(ds:Y)(sc pw:Int)(M:Ms)(e:Bool)(mv x y:Value)(tx ty:TypeId),(M.ok e pw sc&&decide (ds.size≤255∧0≤sc∧sc≤255))=true→MsIs M mv (some ⟨[x],tx,true⟩) (some ⟨[y],ty,true⟩)→RunIs l st r (some (M.st,⟨ng,bn,dn,bz ds,sc,pw⟩))→B ng bn dn ds sc pw e mv (some ⟨[x],tx,true⟩) (some ⟨[y],ty,true⟩))
theorem jdb{l:O}{st:St}{r:Rd}{A:Prop}{B:Bool→Bool→Bool→Y→Int→Int→Bool→Value→Option Blk→Option Blk→Prop}:FinN l st r A B↔
  ((runQ l st r=none→A)∧(∀(ng bn dn:Bool)(ds:Y)(sc pw:Int)(M:Ms)(e:Bool),(M.ok e pw sc&&decide (ds.size≤255∧0≤sc∧sc≤255))=true→runQ l st r=some (M.st,⟨ng,bn,dn,bz ds,sc,pw⟩)→B ng bn dn ds sc pw e M.v M.b0 M.b1)):=by
 unfold FinN;refine⟨fun⟨h1,h2,h3⟩=>⟨fun h=>h1 ⟨h⟩,fun ng bn dn ds sc pw M e ho h=> ?_⟩,fun⟨h1,h2⟩=>⟨fun h=>h1 h.h,fun ng bn dn ds sc pw M e mv ho hm h=> ?_,fun ng bn dn ds sc pw M e mv x y tx ty ho hm h=> ?_⟩⟩
 ·cases M with
  | beg=>exact h2 ng bn dn ds sc pw _ e _ ho ⟨rfl,rfl,rfl⟩ ⟨h⟩
  | bod q p=>exact h3 ng bn dn ds sc pw _ e _ _ _ _ _ ho ⟨rfl,rfl,rfl⟩ ⟨h⟩
  | exq q m=>exact h3 ng bn dn ds sc pw _ e _ _ _ _ _ ho ⟨rfl,rfl,rfl⟩ ⟨h⟩
  | beh=>exact h2 ng bn dn ds sc pw _ e _ ho ⟨rfl,rfl,rfl⟩ ⟨h⟩
 all_goals
  have:=h2 ng bn dn ds sc pw M e ho h.h;rw[←hm.v,←hm.b0,←hm.b1]at this;exact this
theorem enc_dig{c:Int}(h:dig c=true):bz (Utf8.encode (IntKind.wrap .i32 c))=[c]∧(Utf8.encode (IntKind.wrap .i32 c)).size=1:=by
 unfold dig at h;have h:=jab h;have:c=48∨c=49∨c=50∨c=51∨c=52∨c=53∨c=54∨c=55∨c=56∨c=57:=by omega
 rcases this with h | h | h | h | h | h | h | h | h | h<;>subst h<;>exact⟨by kernel_rfl,by kernel_rfl⟩
theorem enc_app{c:Int}{ds:Y}(h:dig c=true)(hs:ds.size≤255):bz (ds++Utf8.encode (IntKind.wrap .i32 c))=bz ds++ [c]∧(ds++Utf8.encode (IntKind.wrap .i32 c)).size=ds.size+1∧jbf (ds.size+(Utf8.encode (IntKind.wrap .i32 c)).size)=true:=by
 obtain⟨h1,h2⟩:=enc_dig h;refine⟨by rw[jb0,h1],by rw[ByteArray.size_append,h2],?_⟩;rw[h2];simp only[jbf,Nat.ble_eq];omega
def V24_0:Y×Bool×Y×Int×Bool×Bool×Bool×Bool×Y×Int×Int×Ms×Bool×Int×Int→J:=fun(s,zb,zs,zi,f,ng,bn,dn,ds,sc,pw,M,e,L,i)=> [S s,.pointer (some ⟨0,0,some 0⟩),B f,.pointer (some ⟨6,0,some 0⟩),.pointer (some ⟨11,0,some 0⟩),I L,I i]
def B24_0:Y×Bool×Y×Int×Bool×Bool×Bool×Bool×Y×Int×Int×Ms×Bool×Int×Int→Ya:=fun(s,zb,zs,zi,f,ng,bn,dn,ds,sc,pw,M,e,L,i)=> [some ⟨[B zb,S zs,I zi],59,true⟩,some ⟨[B ng,B bn,B dn,S ds,I sc,I pw],272,true⟩,some ⟨[M.v,B e],275,true⟩,M.b0,M.b1]
def S24_0:LSpecA (Y×Bool×Y×Int×Bool×Bool×Bool×Bool×Y×Int×Int×Ms×Bool×Int×Int) where
 live:=[0,2,3,4,5,15,16]
 mid:=[0,6,11,200,201]
 n:=210
 ap:=[(.cap 11 0 0 9000000,200),(.cap 11 0 1 9000001,201)]
 dec vs bs:=match vs,bs with
  | [.string s,.pointer (some ⟨0,0,some 0⟩),.bool f,.pointer (some ⟨6,0,some 0⟩),.pointer (some ⟨11,0,some 0⟩),.int .i64 L,.int .i64 i],[some ⟨[.bool zb,.string zs,.int .i64 zi],59,true⟩,some ⟨[.bool ng,.bool bn,.bool dn,.string ds,.int .i64 sc,.int .i64 pw],272,true⟩,some ⟨[.func (.func 286) ⟨[]⟩ ⟨[]⟩,.bool e],275,true⟩,none,none]=>some (s,zb,zs,zi,f,ng,bn,dn,ds,sc,pw,.beg,e,L,i)
  | [.string s,.pointer (some ⟨0,0,some 0⟩),.bool f,.pointer (some ⟨6,0,some 0⟩),.pointer (some ⟨11,0,some 0⟩),.int .i64 L,.int .i64 i],[some ⟨[.bool zb,.string zs,.int .i64 zi],59,true⟩,some ⟨[.bool ng,.bool bn,.bool dn,.string ds,.int .i64 sc,.int .i64 pw],272,true⟩,some ⟨[.func (.func 316) ⟨[]⟩ ⟨[]⟩,.bool e],275,true⟩,none,none]=>some (s,zb,zs,zi,f,ng,bn,dn,ds,sc,pw,.beh,e,L,i)
  | [.string s,.pointer (some ⟨0,0,some 0⟩),.bool f,.pointer (some ⟨6,0,some 0⟩),.pointer (some ⟨11,0,some 0⟩),.int .i64 L,.int .i64 i],[some ⟨[.bool zb,.string zs,.int .i64 zi],59,true⟩,some ⟨[.bool ng,.bool bn,.bool dn,.string ds,.int .i64 sc,.int .i64 pw],272,true⟩,some ⟨[.func (.func 307) ⟨[]⟩ ⟨[.pointer (some ⟨200,0,some 0⟩),.pointer (some ⟨201,0,some 0⟩)]⟩,.bool e],275,true⟩,some ⟨[.bool p],4,true⟩,some ⟨[.bool q],4,true⟩]=>some (s,zb,zs,zi,f,ng,bn,dn,ds,sc,pw,.bod q p,e,L,i)
  | [.string s,.pointer (some ⟨0,0,some 0⟩),.bool f,.pointer (some ⟨6,0,some 0⟩),.pointer (some ⟨11,0,some 0⟩),.int .i64 L,.int .i64 i],[some ⟨[.bool zb,.string zs,.int .i64 zi],59,true⟩,some ⟨[.bool ng,.bool bn,.bool dn,.string ds,.int .i64 sc,.int .i64 pw],272,true⟩,some ⟨[.func (.func 315) ⟨[]⟩ ⟨[.pointer (some ⟨200,0,some 0⟩),.pointer (some ⟨201,0,some 0⟩)]⟩,.bool e],275,true⟩,some ⟨[.int .i64 m],3,true⟩,some ⟨[.bool q],4,true⟩]=>some (s,zb,zs,zi,f,ng,bn,dn,ds,sc,pw,.exq q m,e,L,i)
  | _,_=>none
 pre:=fun(s,zb,zs,zi,f,ng,bn,dn,ds,sc,pw,M,e,L,i)=>M.ok e pw sc&&decide (0≤i∧i≤L∧L=s.size∧L≤255∧(ds.size:Int)≤i∧0≤sc∧sc≤i)
 fin:=fun(s,zb,zs,zi,f,ng,bn,dn,ds,sc,pw,M,e,L,i) Z=>FinN ((bz s).drop i.toNat) M.st ⟨ng,bn,dn,bz ds,sc,pw⟩ (∀(ng' bn' dn':Bool)(ds':Y)(sc' pw' j:Int),Z .ret [S s,.pointer (some ⟨0,0,some 0⟩),B false,.pointer (some ⟨6,0,some 0⟩),.pointer (some ⟨11,0,some 0⟩),I L,I j] [some ⟨[B false,S e0,I 0],59,true⟩,some ⟨[B ng',B bn',B dn',S ds',I sc',I pw'],272,true⟩,some ⟨[.nilFunc,B false],275,true⟩,none,none]) (fun ng' bn' dn' ds' sc' pw' e' mv b0 b1=>Z (.exit 0) [S s,.pointer (some ⟨0,0,some 0⟩),B f,.pointer (some ⟨6,0,some 0⟩),.pointer (some ⟨11,0,some 0⟩),I L,I L] [some ⟨[B zb,S zs,I zi],59,true⟩,some ⟨[B ng',B bn',B dn',S ds',I sc',I pw'],272,true⟩,some ⟨[mv,B e'],275,true⟩,b0,b1])
def ou(a b c:Bool)(d:Y)(e f:Int):Option Blk:=some (.mk (.bool a:: .bool b:: .bool c:: .string d::bp e f) 272 true)
def j3(a d e f l:Bool)(b g:Y)(j:FuncId)(c h i:Int)(k:J)(m n:Option Blk):Ya:=[gu a b c,ou d e f g h i,some (.mk [jg j k,.bool l] 275 true),m,n]
def mo(b:Bool)(a:Y)(c d:Int):J:= .string a::ar 0:: .bool b::ar 6::ar 11::bp c d
def l8(e f g:Bool)(b h:Y)(a:Exit→J→Ya→Prop)(c d i j:Int):Prop:=a .ret (.string b::ar 0:: .bool false::ar 6::ar 11::bp c d) [gu false ay 0,ou e f g h i j,some (.mk (Value.nilFunc::d8) 275 true),none,none]
def ir(a:Bool):Option Blk:=some (.mk [.bool a] 4 true)
def ke:J:=[ar 200,ar 201]
def jf(b:Bool)(a:Y)(c d:Int):J:= .string a::ar 0:: .bool b::ar 6::ar 11::ct c d
def lv(a d e f k:Bool)(b g:Y)(i:FuncId)(c:Int)(h j:J)(l m:Option Blk):Ya:=[gu a b c,some (.mk (.bool d:: .bool e:: .bool f:: .string g::h) 272 true),some (.mk [jg i j,.bool k] 275 true),l,m]
theorem r24_0b(s:Y)(zb:Bool)(zs:Y)(zi:Int)(f:Bool)(ng:Bool)(bn:Bool)(dn:Bool)(ds:Y)(sc:Int)(pw:Int)(e:Bool)(L:Int)(i:Int)(jk:Tmps)(R:Exit→J→Ya→Prop):(jbn Tryz.prog G9 noL Tryz.f173.ntmps (ja2 Tryz.f173 0) (tl S24_0.live (V24_0 (s,zb,zs,zi,f,ng,bn,dn,ds,sc,pw,.beg,e,L,i)) jk) (ml S24_0.mid (B24_0 (s,zb,zs,zi,f,ng,bn,dn,ds,sc,pw,.beg,e,L,i))) S24_0.n fun e t' m' _=>S24_0.out R e t' m')=(bif bw i L then gk (aw s i 32) s i (R .normal (jf f s L i) (j3 zb ng bn dn true zs ds 286 zi sc pw [] none none)) (bq (aw s i 43) true (aw s i 43 || aw s i 45) (R .normal (jf f s L i) (lv zb (aw s i 45) bn dn false zs ds 307 zi (bp sc pw) ke (ir false) (ir false))) (bif dig (au s i)then bm (f8 ds (Utf8.encode (IntKind.i32.wrap (au s i)))) R (lv zb ng bn dn true zs (ds++Utf8.encode (IntKind.i32.wrap (au s i))) 307 zi (bp sc pw) ke (ir false) (ir true)) (jf f s L i)else ij (aw s i 46) true (aw s i 46&& !false) (R .normal (jf f s L i) (j3 zb ng bn dn false zs ds 307 zi sc pw ke (ir true) (ir false))) (l8 ng bn dn s ds R L i sc pw)))else R (.exit 0) (mo f s L i) (j3 zb ng bn dn e zs ds 286 zi sc pw [] none none)):=by kernel_rfl
theorem r24_0d(s:Y)(zb:Bool)(zs:Y)(zi:Int)(f:Bool)(ng:Bool)(bn:Bool)(dn:Bool)(ds:Y)(sc:Int)(pw:Int)(q:Bool)(p:Bool)(e:Bool)(L:Int)(i:Int)(jk:Tmps)(R:Exit→J→Ya→Prop):(jbn Tryz.prog G9 noL Tryz.f173.ntmps (ja2 Tryz.f173 0) (tl S24_0.live (V24_0 (s,zb,zs,zi,f,ng,bn,dn,ds,sc,pw,(.bod q p),e,L,i)) jk) (ml S24_0.mid (B24_0 (s,zb,zs,zi,f,ng,bn,dn,ds,sc,pw,(.bod q p),e,L,i))) S24_0.n fun e t' m' _=>S24_0.out R e t' m')=(bif bw i L then gk (dig (au s i)) s i (bif f8 ds (Utf8.encode (IntKind.i32.wrap (au s i)))then bif p then R .normal (jf f s L i) (lv zb ng bn dn true zs (ds++Utf8.encode (IntKind.i32.wrap (au s i))) 307 zi [az sc,ak pw] ke (ir p) (ir true))else R .normal (jf f s L i) (lv zb ng bn dn true zs (ds++Utf8.encode (IntKind.i32.wrap (au s i))) 307 zi (bp sc pw) ke (ir p) (ir true))else False) (bq (aw s i 46) true (aw s i 46&& !p) (R .normal (jf f s L i) (j3 zb ng bn dn q zs ds 307 zi sc pw ke (ir true) (ir q))) (bif !q then l8 ng bn dn s ds R L i sc pw else bif aw s i 69 then R .normal (jf f s L i) (j3 zb ng bn dn (decide (0>0)) zs ds 315 zi sc pw ke (some (.mk [ak 0] 3 true)) (ir false))else ij (aw s i 66) true (aw s i 66&& !p) (R .normal (jf f s L i) (lv zb ng true dn true zs ds 316 zi (bp sc pw) [] none none)) (bif aw s i 32 then R .normal (jf f s L i) (j3 zb ng bn dn true zs ds 316 zi sc pw [] none none)else l8 ng bn dn s ds R L i sc pw)))else R (.exit 0) (mo f s L i) (j3 zb ng bn dn e zs ds 307 zi sc pw ke (ir p) (ir q))):=by kernel_rfl
theorem r24_0x(s:Y)(zb:Bool)(zs:Y)(zi:Int)(f:Bool)(ng:Bool)(bn:Bool)(dn:Bool)(ds:Y)(sc:Int)(pw:Int)(q:Bool)(m:Int)(e:Bool)(L:Int)(i:Int)(jk:Tmps)(R:Exit→J→Ya→Prop):(jbn Tryz.prog G9 noL Tryz.f173.ntmps (ja2 Tryz.f173 0) (tl S24_0.live (V24_0 (s,zb,zs,zi,f,ng,bn,dn,ds,sc,pw,(.exq q m),e,L,i)) jk) (ml S24_0.mid (B24_0 (s,zb,zs,zi,f,ng,bn,dn,ds,sc,pw,(.exq q m),e,L,i))) S24_0.n fun e t' m' _=>S24_0.out R e t' m')=(bif bw i L then bif bk s i then bq (dig (au s i)) true (dig (au s i) &&bw m 2) (R .normal (jf f s L i) (lv zb ng bn dn (decide (ax m>0)) zs ds 315 zi [ak sc,k9 s 10 pw i] ke (some (.mk [az m] 3 true)) (ir true))) (ij (aw s i 43) (aw s i 45 || true) (bv (aw s i 43) (!q) (aw s i 45&& !q)) (R .normal (jf f s L i) (lv zb ng bn (aw s i 45) (decide (0>0)) zs ds 315 zi (bp sc pw) ke (some (.mk [ak 0] 3 true)) (ir true))) (bif aw s i 32 || true then bif aw s i 32&&gp m then R .normal (jf f s L i) (j3 zb ng bn dn true zs ds 316 zi sc pw [] none none)else l8 ng bn dn s ds R L i sc pw else False))else False else R (.exit 0) (mo f s L i) (j3 zb ng bn dn e zs ds 315 zi sc pw ke (some (.mk [ak m] 3 true)) (ir q))):=by kernel_rfl
theorem r24_0h(s:Y)(zb:Bool)(zs:Y)(zi:Int)(f:Bool)(ng:Bool)(bn:Bool)(dn:Bool)(ds:Y)(sc:Int)(pw:Int)(e:Bool)(L:Int)(i:Int)(jk:Tmps)(R:Exit→J→Ya→Prop):(jbn Tryz.prog G9 noL Tryz.f173.ntmps (ja2 Tryz.f173 0) (tl S24_0.live (V24_0 (s,zb,zs,zi,f,ng,bn,dn,ds,sc,pw,.beh,e,L,i)) jk) (ml S24_0.mid (B24_0 (s,zb,zs,zi,f,ng,bn,dn,ds,sc,pw,.beh,e,L,i))) S24_0.n fun e t' m' _=>S24_0.out R e t' m')=(bif bw i L then gk (aw s i 32) s i (R .normal (jf f s L i) (j3 zb ng bn dn true zs ds 316 zi sc pw [] none none)) (l8 ng bn dn s ds R L i sc pw)else R (.exit 0) (mo f s L i) (j3 zb ng bn dn e zs ds 316 zi sc pw [] none none)):=by kernel_rfl
theorem l24_0:LOKf Tryz.prog (oneL 0 S24_0.hA) Tryz.f173:=by
 refine jbb (h:=S24_0.hA) (by kernel_rfl) (jbo ok_G9 hmix (by kernel_rfl) (ja0 _) S24_0 V24_0 B24_0 (fun(s,zb,zs,zi,f,ng,bn,dn,ds,sc,pw,M,e,L,i)=>(L-i).toNat) ?_ ?_ ?_)
 ·intro vs bs s h;simp only[S24_0]at h;split at h
  all_goals first | (cases h;exact⟨rfl,rfl⟩) | cases h | (split at h<;>first | (rename_i hq;cases h;have hq:=jah hq;subst hq;exact⟨rfl,rfl⟩) | cases h)
 ·exact fun⟨s,zb,zs,zi,f,ng,bn,dn,ds,sc,pw,M,e,L,i⟩ hp=>by cases M<;>rfl
 ·intro⟨s,zb,zs,zi,f,ng,bn,dn,ds,sc,pw,M,e,L,i⟩ jk Z hp hf;simp only[S24_0]at hp hf;rw[jdb]at hf;simp only[jaf,jae]at hp;obtain⟨hM,hi0,hiL,hLs,hL,hds,hsc0,hsci⟩:=hp;have hw:i<L→IntKind.i64.wrap (i+1)=i+1:=fun h=>w64 (by omega)
  have hin:i<L→decide (0≤i∧i<(s.size:Int))=true:=fun h=>jaa (by omega)
  have hex:¬i<L→i=L:=fun h=>by omega
  have hxr:¬i<L→runQ ((bz s).drop i.toNat) M.st ⟨ng,bn,dn,bz ds,sc,pw⟩=some (M.st,⟨ng,bn,dn,bz ds,sc,pw⟩):=fun h=>by rw[jck (by omega)];rfl
  have hxe:(M.ok e pw sc&&decide (ds.size≤255∧0≤sc∧sc≤255))=true:=by rw[hM,jaa (show ds.size≤255∧0≤sc∧sc≤255 by omega)];rfl
  by_cases hlt:i<L
  case neg=>
   have hz:=hf.2 ng bn dn ds sc pw M e hxe (hxr hlt);obtain rfl:=hex hlt;cases M with
   | beg=>
    rw[r24_0b];delta jg ak bp ou gu j3 ar mo av al bk gk bq ij d8 ay l8 ir ke ax az ct jf au aw bm lv f8 bw;exact c_f (jad hlt) hz
   | bod q p=>
    rw[r24_0d];delta jg ak bp ou gu j3 ir ar ke mo av al bk gk bq ij d8 ay l8 ax az ct jf au aw lv f8 bw;exact c_f (jad hlt) hz
   | exq q m=>
    rw[r24_0x];delta jg ak bp ou gu j3 ir ar ke mo av bq ij d8 ay l8 ax az ct jf gp au aw lv bv kg jl j7 k9 bw al bk;exact c_f (jad hlt) hz
   | beh=>
    rw[r24_0h];delta jg ak bp ou gu j3 ar mo av al bk gk d8 ay l8 ax az ct jf au aw bw;exact c_f (jad hlt) hz
  rw[jca hi0 (by omega)]at hf;cases M with
  | beg=>
   rw[r24_0b];delta jg ak bp ou gu j3 ar mo av al bk gk bq ij d8 ay l8 ir ke ax az ct jf au aw bm lv f8 bw;rw[hw hlt];simp only[Ms.ok,jaf,jae]at hM;have hpw:=hM.2;refine c_t (jaa hlt) (c_t (hin hlt) (Ka (fun hg=> ?_) (fun hg=> ?_)))
   ·have hg:jai s i.toNat=32:=eq_of_beq hg;rw[show Ms.beg.st=St.beg from rfl,q_beg1 hg]at hf;refine⟨(s,zb,zs,zi,f,ng,bn,dn,ds,sc,pw,.beg,true,L,i+1),rfl,rfl,?_,by simp only;omega,(by simp only[S24_0];exact jdb.2 hf)⟩;simp only[S24_0,jaf,jae];exact⟨by simp[Ms.ok,hpw],by omega,by omega,by omega,by omega,by omega,by omega,by omega⟩
   have h32:¬jai s i.toNat=32:=by simpa using hg
   refine c_t (by simp) (Ka (fun hg=> ?_) (fun hg=> ?_))
   ·have hg:jai s i.toNat=43∨jai s i.toNat=45:=by simpa using hg
    have e45:decide (jai s i.toNat=45)=(jai s i.toNat==45):=rfl;rw[show Ms.beg.st=St.beg from rfl,q_beg2 hg]at hf;refine⟨(s,zb,zs,zi,f,(jai s i.toNat==45),bn,dn,ds,sc,pw,(.bod false false),false,L,i+1),rfl,rfl,?_,by simp only;omega,(by simp only[S24_0];exact jdb.2 hf)⟩;simp only[S24_0,jaf,jae];exact⟨by simp[Ms.ok,hpw],by omega,by omega,by omega,by omega,by omega,by omega,by omega⟩
   have hsg:¬(jai s i.toNat=43∨jai s i.toNat=45):=by
    intro q;have:(jai s i.toNat==43 || jai s i.toNat==45)=true:=by simpa using q
    rw[this]at hg;cases hg
   rw[show Ms.beg.st=St.beg from rfl,q_beg3 h32 hsg]at hf;apply Ka<;>intro hg
   ·obtain⟨e1,e2,e3⟩:=enc_app (ds:=ds) hg (by omega);refine c_t e3 ?_;rw[q_bod1 hg]at hf;refine⟨(s,zb,zs,zi,f,ng,bn,dn,ds++Utf8.encode (IntKind.wrap .i32 (jai s i.toNat)),sc,pw,(.bod true false),true,L,i+1),rfl,rfl,?_,by simp only;omega,?_⟩
    ·simp only[S24_0,jaf,jae];exact⟨by simp[Ms.ok,hpw],by omega,by omega,by omega,by omega,by rw[e2];omega,by omega,by omega⟩
    ·simp only[S24_0];rw[e1];exact jdb.2 hf
   refine c_t (by simp) (Ka (fun h46=> ?_) (fun h46=> ?_))
   ·have h46:jai s i.toNat=46:=by simpa using h46
    rw[q_bod2 h46]at hf;refine⟨(s,zb,zs,zi,f,ng,bn,dn,ds,sc,pw,(.bod false true),false,L,i+1),rfl,rfl,?_,by simp only;omega,(by simp only[S24_0];exact jdb.2 hf)⟩;simp only[S24_0,jaf,jae];exact⟨by simp[Ms.ok,hpw],by omega,by omega,by omega,by omega,by omega,by omega,by omega⟩
   ·have h46:¬jai s i.toNat=46:=by simpa using h46
    exact hf.1 (by rw[q_bod3 hg (fun q=>h46 q.1)]) ng bn dn ds sc pw i
  | bod q p=>
   rw[r24_0d];delta jg ak bp ou gu j3 ir ar ke mo av al bk gk bq ij d8 ay l8 ax az ct jf au aw lv f8 bw;rw[hw hlt];simp only[Ms.ok,jaf,jae]at hM;obtain⟨heq,hpw⟩:=hM;rw[show(Ms.bod q p).st=St.bod q p from rfl]at hf;refine c_t (jaa hlt) (c_t (hin hlt) (Ka (fun hg=> ?_) (fun hg=> ?_)))
   ·obtain⟨e1,e2,e3⟩:=enc_app (ds:=ds) hg (by omega);refine c_t e3 ?_;rw[q_bod1 hg]at hf;cases p with
    | true=>
     rw[w64 (n:=sc+1) (by omega)];refine⟨(s,zb,zs,zi,f,ng,bn,dn,ds++Utf8.encode (IntKind.wrap .i32 (jai s i.toNat)),sc+1,pw,(.bod true true),true,L,i+1),rfl,rfl,?_,by simp only;omega,?_⟩
     ·simp only[S24_0,jaf,jae];exact⟨by simp[Ms.ok,hpw],by omega,by omega,by omega,by omega,by rw[e2];omega,by omega,by omega⟩
     ·simp only[S24_0];rw[e1];exact jdb.2 hf
    | false=>
     refine⟨(s,zb,zs,zi,f,ng,bn,dn,ds++Utf8.encode (IntKind.wrap .i32 (jai s i.toNat)),sc,pw,(.bod true false),true,L,i+1),rfl,rfl,?_,by simp only;omega,?_⟩
     ·simp only[S24_0,jaf,jae];exact⟨by simp[Ms.ok,hpw],by omega,by omega,by omega,by omega,by rw[e2];omega,by omega,by omega⟩
     ·simp only[S24_0];rw[e1];exact jdb.2 hf
   refine c_t (by simp) (Ka (fun h46=> ?_) (fun h46=> ?_))
   ·obtain⟨h46x,hp⟩:jai s i.toNat=46∧p=false:=by simpa using h46
    subst hp;rw[q_bod2 h46x]at hf;refine⟨(s,zb,zs,zi,f,ng,bn,dn,ds,sc,pw,(.bod q true),q,L,i+1),rfl,rfl,?_,by simp only;omega,(by simp only[S24_0];exact jdb.2 hf)⟩;simp only[S24_0,jaf,jae];exact⟨by simp[Ms.ok,hpw],by omega,by omega,by omega,by omega,by omega,by omega,by omega⟩
   have h46':¬(jai s i.toNat=46∧p=false):=by
    intro z;have:(jai s i.toNat==46&& !p)=true:=by simpa using z
    rw[this]at h46;cases h46
   cases q with
   | false=>
    refine c_t rfl ?_;exact hf.1 (by rw[q_bod3 hg h46']) ng bn dn ds sc pw i
   | true=>
    refine c_f rfl (Ka (fun h69=> ?_) (fun h69=> ?_))
    ·have h69:jai s i.toNat=69:=eq_of_beq h69;rw[q_bod4 h69]at hf;refine⟨(s,zb,zs,zi,f,ng,bn,dn,ds,sc,pw,(.exq false 0),false,L,i+1),rfl,rfl,?_,by simp only;omega,(by simp only[S24_0];exact jdb.2 hf)⟩;simp only[S24_0,jaf,jae];exact⟨by simp[Ms.ok,hpw],by omega,by omega,by omega,by omega,by omega,by omega,by omega⟩
    have h69:¬jai s i.toNat=69:=by simpa using h69
    refine c_t (by simp) (Ka (fun h66=> ?_) (fun h66=> ?_))
    ·obtain⟨h66x,hp⟩:jai s i.toNat=66∧p=false:=by simpa using h66
     subst hp;rw[q_bod5 h66x]at hf;refine⟨(s,zb,zs,zi,f,ng,true,dn,ds,sc,pw,.beh,true,L,i+1),rfl,rfl,?_,by simp only;omega,(by simp only[S24_0];exact jdb.2 hf)⟩;simp only[S24_0,jaf,jae];exact⟨by simp[Ms.ok,hpw],by omega,by omega,by omega,by omega,by omega,by omega,by omega⟩
    have h66':¬(jai s i.toNat=66∧p=false):=by
     intro z;have:(jai s i.toNat==66&& !p)=true:=by simpa using z
     rw[this]at h66;cases h66
    apply Ka<;>intro h32
    ·have h32:jai s i.toNat=32:=eq_of_beq h32;rw[q_bod6 h32]at hf;refine⟨(s,zb,zs,zi,f,ng,bn,dn,ds,sc,pw,.beh,true,L,i+1),rfl,rfl,?_,by simp only;omega,(by simp only[S24_0];exact jdb.2 hf)⟩;simp only[S24_0,jaf,jae];exact⟨by simp[Ms.ok,hpw],by omega,by omega,by omega,by omega,by omega,by omega,by omega⟩
    ·have h32:¬jai s i.toNat=32:=by simpa using h32
     exact hf.1 (by rw[q_bod7 hg h46' h69 h66' h32]) ng bn dn ds sc pw i
  | exq q m=>
   rw[r24_0x];delta jg ak bp ou gu j3 ir ar ke mo av bq ij d8 ay l8 ax az ct jf gp au aw lv bv kg jl j7 k9 bw al bk;rw[hw hlt];simp only[Ms.ok,jaf,jae]at hM;obtain⟨heq,hm0,hm2,hq,hp0,hp1,hp2,hp3⟩:=hM;rw[show(Ms.exq q m).st=St.exq q m.toNat from rfl]at hf;have hrng:=jf2 s i.toNat;refine c_t (jaa hlt) (c_t (hin hlt) (c_t (by simp) (Ka (fun hg=> ?_) (fun hg=> ?_))))
   ·obtain⟨hg,hm⟩:dig (jai s i.toNat)=true∧m<2:=by simpa using hg
    have hg2:48≤jai s i.toNat∧jai s i.toNat≤57:=by unfold dig at hg;exact jab hg
    have hpb:pw<10:=by
     rcases(show m=0∨m=1 by omega)with z | z
     ·rw[hp1 z];omega
     ·exact hp2 z
    rw[q_ex1 hg (by omega),show m.toNat+1=(m+1).toNat by omega]at hf;rw[w64 (n:=10*pw) (by omega),w8 (n:=jai s i.toNat-48) (by omega),w64 (n:=jai s i.toNat-48) (by omega),w64 (n:=10*pw+(jai s i.toNat-48)) (by omega),w64 (n:=m+1) (by omega)];refine⟨(s,zb,zs,zi,f,ng,bn,dn,ds,sc,10*pw+(jai s i.toNat-48),(.exq true (m+1)),decide (m+1>0),L,i+1),rfl,rfl,?_,by simp only;omega,(by simp only[S24_0];exact jdb.2 hf)⟩;simp only[S24_0,jaf,jae];refine⟨?_,by omega,by omega,by omega,by omega,by omega,by omega,by omega⟩;simp only[Ms.ok,jaf,jae,K4];refine⟨trivial,by omega,by omega,(fun h=>by cases h),by omega,by omega,?_,by omega⟩;intro h1;rw[hp1 (by omega)];omega
   have hg':¬(dig (jai s i.toNat)=true∧m.toNat<2):=by
    intro z;have:(dig (jai s i.toNat) &&decide (m<2))=true:=by rw[z.1,jaa (show m<2 by omega)];rfl
    rw[this]at hg;cases hg
   refine c_t (by simp) (Ka (fun hs=> ?_) (fun hs=> ?_))
   ·have hs2:(jai s i.toNat=43∨jai s i.toNat=45)∧q=false:=by
     by_cases z:jai s i.toNat=43
     ·simp[z]at hs;exact⟨.inl z,hs⟩
     ·simp[z]at hs;exact⟨.inr hs.1,hs.2⟩
    obtain⟨hs2,rfl⟩:=hs2;have hm:=hq rfl;subst hm;rw[q_ex2 hs2]at hf;refine⟨(s,zb,zs,zi,f,ng,bn,(jai s i.toNat==45),ds,sc,pw,(.exq true 0),(decide ((0:Int)>0)),L,i+1),rfl,rfl,?_,by simp only;omega,(by simp only[S24_0];exact jdb.2 hf)⟩;simp only[S24_0,jaf,jae];refine⟨?_,by omega,by omega,by omega,by omega,by omega,by omega,by omega⟩;simp only[Ms.ok,jaf,jae,K4];exact⟨trivial,by omega,by omega,(fun h=>by cases h),by omega,(fun _=>hp1 rfl),(fun h=>by cases h),by omega⟩
   have hs':¬((jai s i.toNat=43∨jai s i.toNat=45)∧q=false):=by
    rintro ⟨z | z,rfl⟩ <;>simp[z]at hs
   refine c_t (by simp) (Ka (fun h32=> ?_) (fun h32=> ?_))
   ·obtain⟨h32,hm⟩:jai s i.toNat=32∧m>0:=by simpa using h32
    rw[q_ex3 h32 (by omega)]at hf;refine⟨(s,zb,zs,zi,f,ng,bn,dn,ds,sc,pw,.beh,true,L,i+1),rfl,rfl,?_,by simp only;omega,(by simp only[S24_0];exact jdb.2 hf)⟩;simp only[S24_0,jaf,jae];exact⟨by simp only[Ms.ok,Bool.true_and,jae];omega,by omega,by omega,by omega,by omega,by omega,by omega,by omega⟩
   ·have h32:¬(jai s i.toNat=32∧0<m.toNat):=by
     intro z;have:(jai s i.toNat==32&&decide (m>0))=true:=by rw[z.1,jaa (show m>0 by omega)];rfl
     rw[this]at h32;cases h32
    exact hf.1 (by rw[q_ex4 hg' hs' h32]) ng bn dn ds sc pw i
  | beh=>
   rw[r24_0h];delta jg ak bp ou gu j3 ar mo av al bk gk d8 ay l8 ax az ct jf au aw bw;rw[hw hlt];simp only[Ms.ok,jaf,jae]at hM;rw[show Ms.beh.st=St.beh from rfl]at hf;refine c_t (jaa hlt) (c_t (hin hlt) (Ka (fun h32=> ?_) (fun h32=> ?_)))
   ·have h32:jai s i.toNat=32:=eq_of_beq h32;rw[q_beh1 h32]at hf;refine⟨(s,zb,zs,zi,f,ng,bn,dn,ds,sc,pw,.beh,true,L,i+1),rfl,rfl,?_,by simp only;omega,(by simp only[S24_0];exact jdb.2 hf)⟩;simp only[S24_0,jaf,jae];exact⟨by simp only[Ms.ok,Bool.true_and,jae];omega,by omega,by omega,by omega,by omega,by omega,by omega,by omega⟩
   ·have h32:¬jai s i.toNat=32:=by simpa using h32
    exact hf.1 (by rw[q_beh2 h32]) ng bn dn ds sc pw i
theorem zl_isB(l:Yc):IsB (zl l):=fun c hc=>by
 obtain⟨b,_,rfl⟩:=KB.1 hc;have:=b.toNat_lt;omega
theorem dz_isB(n:Int):IsB (dz n):=by
 unfold dz;split
 ·exact IsB.nil
 ·exact zl_isB _
theorem jmb:∀(k:Nat)(n:Int),0≤n→n<10^k→(dz n).length≤k
 | 0,n,h,h1=>by
  have:n=0:=by simp at h1;omega
  rw[dz,Kd this];simp
 | k+1,n,h,h1=>by
  by_cases h0:n=0
  ·rw[dz,Kd h0];simp
  ·rw[jlg (by omega),Kk];rw[Int.pow_succ]at h1;have:=jmb k (n/10) (by omega) (by omega);simp;omega
theorem jk6(g:Bool)(l:O):jaz g (dz (binG l 0)) 0=jaz g (binD l) 0:=by
 unfold binD;by_cases h:binG l 0=0
 ·rw[h];have e:decZ 0=[48]:=by rw[decZ,Int.toNat_zero,Lib.decDigits_one (by decide)];rfl
  rw[e];rfl
 ·rw[dz,Kc h]
theorem trim_isB{l c:O}(h:IsB l):IsB (jcm l c):=fun x hx=>by
 refine h x ?_;have:=(Kt _).subset hx;exact List.mem_reverse.1 ((Kt _).subset (List.mem_reverse.1 this))
theorem jiq{p:Int→Bool}:∀{l:O},(∀c∈l,p c=true)→l.dropWhile p=[]
 | [],_=>rfl
 | c::l,h=>by rw[List.dropWhile_cons_of_pos (h c (Kh ..))];exact jiq fun d hd=>h d (Kj _ hd)
theorem jfy{p:Int→Bool}{l:O}{c:Int}(hc:c∈l)(hp:p c=false):∃d r,l.dropWhile p=d::r∧p d=false:=by
 induction l with
 | nil=>cases hc
 | cons a l ih=>
  cases ha:p a with
  | false=>exact⟨a,l,by rw[List.dropWhile_cons_of_neg (by simp[ha])],ha⟩
  | true=>
   rw[List.dropWhile_cons_of_pos ha];rcases Kg.1 hc with rfl | hc
   ·rw[ha]at hp;cases hp
   ·exact ih hc
theorem trim_bits(l:O):decide (jcm l (bz ⟨#[48,49]⟩)=[])=jcn l:=by
 have e:bz ⟨#[48,49]⟩=[48,49]:=rfl
 have hh:∀c:Int,hasZ [48,49] c=decide (c=48∨c=49):=fun c=>by
  rw[Kl,jbj,jae];simp
 rw[e,Kl,jae];constructor
 ·intro h;unfold jcn;refine Kf.2 fun c hc=> ?_
  cases q:decide (c=48∨c=49)with
  | true=>rfl
  | false=>
   exfalso;rw[←hh]at q;obtain⟨d,r,h1,h2⟩:=jfy (List.mem_reverse.2 hc) q;have hm:d∈(l.reverse.dropWhile (hasZ [48,49])).reverse:=by rw[h1];simp
   obtain⟨d',r',h3,_⟩:=jfy hm h2;unfold jcm at h;rw[h3]at h;cases h
 ·intro h;have ha:∀c∈l,hasZ [48,49] c=true:=fun c hc=>by rw[hh];exact Kf.1 h c hc
  unfold jcm;rw[jiq (l:=l.reverse) fun c hc=>ha c (List.mem_reverse.1 hc)];rfl
abbrev onV(x:Option Num):Value:= .tuple ⟨[numV (x.getD num0),.bool x.isSome]⟩
def s24(s:Y):Bool×Value:=(decide (s.size≤9223372036854775807),onV (rdN (bz s)))
def jw(a:Bool)(b:Prod O Int):J:=[.bool a,.string (szO b.fst),.int .i64 b.snd]
def lf(a:Bool)(b:Y)(c:Int):J:=jw (Prod.fst (jaz a (bz b) c)) (Prod.snd (jaz a (bz b) c))
def l9(a:Y)(c d e:Int)(b:Nat):Bool:=decide (a.size≤b∧c≤d∧d≤e)
def nl(e:Bool)(a:Y)(b:Int)(d:J)(c:Nat)(f:Value→Prop):Prop:=br (l9 a (-100000) b 100000 c) (aq d (cu (lf e a b))) f
def oq(a b f:Bool)(c:Y)(d:Nat)(e:Value)(g:Value→Prop):Prop:=bif a&&b then nl f c 0 [e] d g else False
def mp:Value:= .tuple ⟨lu::d8⟩
def rn(b j k l m:Bool)(e i:Y)(a:Cx.Ms)(c d:Int)(g h:Option Blk)(f:Value)(n:Value→Prop):Prop:=(Ms.ok a b c d&&l9 e 0 d 255 255)=true→MsIs a f g h→RunIs (bu i 0) (Ms.st Ms.beg) (Rd.mk false false false (bz ay) 0 0) (some (Ms.st a,Rd.mk j k l (bz e) d c))→(bif jaw 210 [f,.bool b] &&m then ib (!b) (n mp) (bif k then bq (decide (al e>31)) (co e&&ky [49] 48&&true) (decide (al e>31) || !jn e [49] 48) (n mp) (oq (jcn (bz e)) (decide (e.size≤64)) j (szO (dz (binG (bz e) 0))) 100000 (.bool true) n)else bif l then nl j e (cm d (dt 0 c)) fv 100000 n else nl j e (dt d c) fv 100000 n)else False)
theorem v24(s:Y)(R:Value→Prop):jax Tryz.prog G9 (oneL 0 S24_0.hA) Tryz.f173 [Enc.enc s] (fun _=>none) 0 (fun v _ _=>R v)=(bif decide (al s>255)then R mp else bif S24_0.toLSpec.pre (s,(false,(ay,((0:Int),(false,(false,(false,(false,(ay,((0:Int),((0:Int),(Ms.beg,(true,(al s,(0:Int)))))))))))))))then(RunIs (bu s 0) (Ms.st Ms.beg) (Rd.mk false false false (bz ay) 0 0) none→Bool→Bool→Bool→Y→Int→Int→gm (aq d8 (cu [B false,S Px.e0,ak 0])) R)∧(∀a:Bool,∀b:Bool,∀c:Bool,∀d:Y,∀e:Int,∀f:Int,∀g:Cx.Ms,∀h:Bool,∀i:Value,rn h a b c true d s g f e none none i R)∧(∀a:Bool,∀b:Bool,∀c:Bool,∀d:Y,∀e:Int,∀f:Int,∀g:Cx.Ms,∀h:Bool,∀i:Value,∀j:Value,∀k:Value,∀l:TypeId,∀m:TypeId,rn h a b c (jaw 210 [j] &&dx [k] 210) d s g f e (some (.mk [j] l true)) (some (.mk [k] m true)) i R)else False):=by kernel_rfl
theorem ok24:jan Tryz.prog 173 (sp1 s24):=by
 refine jb6 ok_G9 hmix (.m Tryz.func173) l24_0 jag fun s hc=> ?_
 rw[ja4,v24];delta av ib br aq cu jw lf l9 nl fv dt cm bq oq d8 ak ay cv lu mp j2 jn al fy ky co bu rn dx gm;have hc:(s.size≤9223372036854775807):=jab hc
 try dsimp only[s24]
 have hN:∀x:Value,x=Value.tuple ⟨[.agg ⟨[.bool false,.string ⟨#[]⟩,.int .i64 0]⟩,.bool false]⟩→rdN (bz s)=none→x=onV (rdN (bz s)):=fun x hx h=>by
  rw[h,hx];show _=Value.tuple ⟨[.agg ⟨[.bool false,.string (szO []),.int .i64 0]⟩,.bool false]⟩;rw[jdi]
 apply Ka<;>intro h
 ·have h:=jab h;exact hN _ rfl (by rw[rdN,Kd (by rw[jak];omega)])
 have h:=jac h;have hn:∀neg,jaz neg [] 0=(false,[],0):=fun neg=>rfl
 have hq:=num_eq (jaz:=jaz) (binD:=binD) hn (bz s)
 have hrd:rdN (bz s)=(((runQ (bz s) .beg {}).bind fun x=>if endP x.1=true then some x.2 else none).bind (finP jaz binD)):=by
  rw[rdN,Kc (by rw[jak];omega),←hq,numP,run_Q _ _ _ rfl]
 have hbody:∀(ng bn dn:Bool)(ds:Y)(sc pw:Int)(M:Ms)(e:Bool),(M.ok e pw sc&&decide (ds.size≤255∧0≤sc∧sc≤255))=true→runQ (bz s) .beg {}=some (M.st,⟨ng,bn,dn,bz ds,sc,pw⟩)→
   rdN (bz s)=(if e=true then finP jaz binD ⟨ng,bn,dn,bz ds,sc,pw⟩else none)∧ds.size≤255∧0≤sc∧sc≤255∧0≤pw∧pw<100:=fun ng bn dn ds sc pw M e hok hr=>by
  simp only[jaf,jae]at hok;obtain⟨hM,h1,h2,h3⟩:=hok
  have he:endP M.st=e∧0≤pw∧pw<100:=by
   cases M with
   | beg=>simp only[Ms.ok,jaf,jae]at hM;rw[hM.1,hM.2];exact⟨rfl,by omega,by omega⟩
   | bod q p=>simp only[Ms.ok,jaf,jae,K4]at hM;rw[hM.1,hM.2];exact⟨rfl,by omega,by omega⟩
   | exq q m=>
    simp only[Ms.ok,jaf,jae,K4]at hM;refine⟨?_,by omega,by omega⟩;rw[hM.1];show decide (0<m.toNat)=decide (0<m);rw[decide_eq_decide];omega
   | beh=>simp only[Ms.ok,jaf,jae]at hM;rw[hM.1];exact⟨rfl,by omega,by omega⟩
  rw[hrd,hr];refine⟨?_,h1,h2,h3,he.2.1,he.2.2⟩;show(if endP M.st=true then some _ else none).bind _=_;rw[he.1];cases e<;>rfl
 refine c_t (by simp only[S24_0,jaf,jae];refine⟨by simp[Ms.ok],?_,?_,?_,?_,?_,?_,?_⟩ <;>first | omega | exact KH _ | rfl | (simp;done) | (simp;omega)) ⟨fun hr _ _ _ _ _ _ _ _=> ?_,?_,?_⟩
 ·have hr:runQ (bz s) .beg {}=none:=hr.h;exact hN _ rfl (by rw[hrd,hr];rfl)
 all_goals
  first | intro ng bn dn ds sc pw M e mv x y tx ty hok hms hr | intro ng bn dn ds sc pw M e mv hok hms hr
  have hr:runQ (bz s) .beg {}=some (M.st,⟨ng,bn,dn,bz ds,sc,pw⟩):=hr.h;obtain⟨g1,g2,g3,g4,g5,g6⟩:=hbody ng bn dn ds sc pw M e hok hr
  refine c_t (by
   obtain⟨m1,m2,m3⟩:=hms;subst m1
   cases M<;>first
    | rfl
    | (cases m2;done)
    | (cases m2;cases m3;rfl)) fun _=> ?_
  apply Ka<;>intro he
  ·have he:e=false:=by simpa using he
   exact hN _ rfl (by rw[g1,he];rfl)
  have he:e=true:=by simpa using he
  subst he;rw[Kd rfl]at g1;apply Ka<;>intro hb
  ·subst hb;rw[finP,Kd rfl]at g1
   have hT:((szO (jcm (bz ds) (bz ⟨#[48,49]⟩))).toList==(⟨#[]⟩:Y).toList)=jcn (bz ds):=by
    rw[jb8,jcs (trim_isB (jdh ds))];exact trim_bits (bz ds)
   rw[hT];refine c_t (by rw[jaa (show ds.size≤9223372036854775807 by omega)];exact(congrArg (decide ((ds.size:Int)>31) || ·) (show(true&& (decide ((⟨#[48,49]⟩:Y).size≤1000) &&asc (bz ⟨#[48,49]⟩)) &&true)=true by kernel_rfl)).trans (Bool.or_true _)) ?_;apply Ka<;>intro h
   ·refine hN _ rfl (g1.trans (Kc fun q=> ?_));simp only[Ko,jae,Ks]at h;rw[jak]at q;rcases h with h | h
    ·omega
    ·rw[q.2]at h;cases h
   ·simp only[Kr,decide_eq_false_iff_not,Bool.not_eq_false']at h;have hl:(bz ds).length≤31:=by rw[jak];omega
    rw[Kd ⟨hl,h.2⟩]at g1;have hb64:=jmf h.2 (by omega);have hd:=jmb 20 (binG (bz ds) 0) hb64.1 (Int.lt_of_lt_of_le hb64.2 (by decide));refine c_t (by rw[h.2,jaa (show ds.size≤64 by omega)];rfl) (c_t (jaa ⟨by rw[jbu];omega,by omega,by omega⟩) ?_);rw[jcs (dz_isB _),jk6,g1];rfl
  ·subst hb;rw[finP,Kc (fun h=>by cases h)]at g1;cases dn with
   | true=>
    rw[w64 (n:=0-pw) (by omega),w64 (n:=sc-(0-pw)) (by omega)];refine c_t rfl (c_t (jaa (by omega)) ?_);rw[g1,show sc-(0-pw)=sc - -pw by omega];rfl
   | false=>
    rw[w64 (n:=sc-pw) (by omega)];refine c_f rfl (c_t (jaa (by omega)) ?_);rw[g1];rfl
def chk4(t:Ty):Int:=if jbi t then 0
 else if t.k=3∧t.q=0∧bz t.s=[]∧0≤t.p∧t.p≤255 then 0
 else if t.k=4∧t.q=0∧bz t.s=[]∧t.v=false∧0≤t.p∧t.p≤64 then 0
 else if t.k=5∧t.p=0∧t.q=0∧t.v=false∧pE (bz t.s)=0 then 0
 else if t.k=6∧t.q=0∧bz t.s=[]∧t.p=0∧t.v=false then 0 else 5
def is4(v:Vl)(t:Ty):Bool:=
 if t.k=1∨t.k=2 then Fx.fits v t==0
 else if t.k=3 then decide (v.n=0∧((v.s.size:Int)=t.p∨t.v=true∧(v.s.size:Int)<t.p))
 else if t.k=4 then decide (v.n=0∧(v.s.size:Int)=t.p) &&jcn (bz v.s)
 else if t.k=5 then decide (v.n=0) &&hoZ (bz t.s) (bz v.s)
 else decide (bz v.s=[]∧0≤v.n∧v.n≤524288)
def fit4(v:Vl)(t:Ty):Int:=if chk4 t≠0 then chk4 t else if is4 v t=true then 0 else 6
def K0:Env:=Env.nil
theorem ok_K0:ja3 Tryz.prog K0:=jav
def s191:Bool×Value:=(true,.agg ⟨Fx.tensL⟩)
theorem v191(R:Value→Prop):jax Tryz.prog K0 noL Tryz.f177 [] (fun _=>none) 0 (fun v _ _=>R v)=(R (.agg ⟨Fx.tensL⟩)):=by kernel_rfl
theorem ok191:jan Tryz.prog 177 (sp0 s191):=by
 refine qure0 ok_K0 hmix (.m Tryz.func177) jal fun hc=> ?_
 rw[ja4,v191]
 try dsimp only[s191]
def K1:Env:=Env.nil.add 177 (sp0 s191)
theorem ok_K1:ja3 Tryz.prog K1:=jaj jav ok191
def s144(t:Ty):Bool×Value:=(decide (jbi t),I (bnd t))
theorem v144(t:Ty)(R:Value→Prop):jax Tryz.prog K1 noL Tryz.f123 [Enc.enc t] (fun _=>none) 0 (fun v _ _=>R v)=(bif dl t 1 then br (cl (Fx.Ty.p t) 19&&jbg .i64 Fx.tensL (Fx.Ty.p t).toNat) (I (jar Fx.tensL (Fx.Ty.p t).toNat)) R else br (decide (0≤Fx.Ty.p t)) (I (jl 1 (2^Min.min (Fx.Ty.p t).toNat 64))) R):=by kernel_rfl
theorem ok144:jan Tryz.prog 123 (sp1 s144):=by
 refine jb6 ok_K1 hmix (.m Tryz.func123) jal jag fun t hc=> ?_
 rw[ja4,v144];delta br jl cl dl;have hc:(jbi t):=jab hc
 try dsimp only[s144]
 obtain⟨h1,h2,h3,h4,h5⟩:=Fx.valid_r hc;have hm:t.k=1→t.p≤9:=fun h=>by have:=hc.2.2.1;rw[h]at this;exact this
 apply Ka<;>intro h
 ·have h:t.k=1:=eq_of_beq h;have ht:=Fx.tens_at (p:=t.p) (by omega) (by have:=hm h;omega);refine c_t (by rw[ht.1,jaa (show 0≤t.p∧t.p<19 by have:=hm h;omega)];rfl) ?_;rw[ht.2,bnd,h];rfl
 ·have h:t.k=2:=hc.1.resolve_left (by simpa using h);refine c_t (jaa (by omega)) ?_;rw[Fx.shl_pw (by omega) (by omega),bnd,h];rfl
def K2:Env:=((Env.nil.add 124 (sp2 s55)).add 121 (sp1 s66)).add 123 (sp1 s144)
theorem ok_K2:ja3 Tryz.prog K2:=jaj (jaj (jaj jav ok55) ok66) ok144
def s70(v:Vl)(t:Ty):Bool×Value:=(true,I (Fx.fits v t))
theorem v70(v:Vl)(t:Ty)(R:Value→Prop):jax Tryz.prog K2 noL Tryz.f73 [Enc.enc v,Enc.enc t] (fun _=>none) 0 (fun v _ _=>R v)=(bif check t !=0 then R (I (check t))else bif decide (jbi t)then bif !v.s.toList==(ByteArray.mk #[]).toList || (decide (v.n≤IntKind.wrap .i64 (0-bnd t)) || true)then bif !v.s.toList==(ByteArray.mk #[]).toList || (decide (v.n≤IntKind.wrap .i64 (0-bnd t)) || decide (v.n≥bnd t))then R (I 6)else R (I 0)else False else False):=by kernel_rfl
theorem ok70:jan Tryz.prog 73 (sp2 s70):=by
 refine jcz ok_K2 hmix (.m Tryz.func73) jal jag fun v t hc=> ?_
 rw[ja4,v70]
 try dsimp only[s70]
 rw[str0];by_cases hv:jbi t
 ·obtain⟨h1,h2,h3,h4⟩:=Fx.valid_r hv;have hb:=Fx.bnd_range hv;have hc:check t=0:=Kd hv;rw[hc,w64 (n:=0-bnd t) (by omega)];refine c_f rfl (c_t (jaa hv) (c_t (by simp) ?_));unfold Fx.fits;rw[Kd hv];apply Ka<;>intro h
  ·rw[Kc];intro hf;unfold Fit at hf;simp[hf.1]at h;omega
  ·rw[Kd];unfold Fit;simp at h;grind
 ·have hc:check t=5:=Kc hv;rw[hc];refine c_t rfl ?_;unfold Fx.fits;rw[Kc hv]
def s71(s:Y):Bool×Value:=(decide (s.size≤9223372036854775807),B (jcn (bz s)))
def cw(a:Y):Bool:=decide (a.size≤9223372036854775807)
theorem v71(s:Y)(R:Value→Prop):jax Tryz.prog K2 noL Tryz.f74 [Enc.enc s] (fun _=>none) 0 (fun v _ _=>R v)=(br (cw s&&ky [49] 48) (B (jn s [49] 48)) R):=by kernel_rfl
theorem ok71:jan Tryz.prog 74 (sp1 s71):=by
 refine jb6 ok_K2 hmix (.m Tryz.func74) jal jag fun s hc=> ?_
 rw[ja4,v71];delta br ay j2 jn fy ky cw;have hc:(s.size≤9223372036854775807):=jab hc
 try dsimp only[s71]
 refine c_t (by rw[jaa hc,Bool.true_and];kernel_rfl) ?_;rw[jb8,jcs (trim_isB (jdh s)),trim_bits]
theorem fn20:Fn1 Tryz.prog 72 Tryz.f72:= .m Tryz.func72
theorem fn22:Fn1 Tryz.prog 23 Tryz.f23:= .m Tryz.func23
def tkGo(b:Int):O→Int→Int→Int×Int
 | [],x,k=>(x,k)
 | d::r,x,k=>if b≤10*x+(d-48)then tkGo b r ((10*x+(d-48)).tmod b) 1 else tkGo b r (10*x+(d-48)) k
def jgf(g:Bool)(l:O)(c:Int):Bool:=if l=[]then !g&&decide (c=0)else decide (l.length≤400) && (jbc l&& (!(l.head?==some 48) && (!(l.getLast?==some 48) &&decide (-400≤c∧c≤400))))
def tkR(g:Bool)(l:O)(c:Int)(b q:Int):Int×Int:=(if g=true then -(tkGo b (plcR l c q) 0 0).1 else(tkGo b (plcR l c q) 0 0).1,(tkGo b (plcR l c q) 0 0).2)
def tkV(g:Bool)(l:O)(c:Int)(t:Ty):Int×Int×Int:=if jgf g l c=false then(0,0,1)else if¬jbi t then(0,0,5)else((tkR g l c (bnd t) t.q).1,(tkR g l c (bnd t) t.q).2,0)
abbrev vlv(n:Int):Value:= .agg ⟨[.int .i64 n,.string ⟨#[]⟩]⟩
def jn8(sp:Ab.Spec):J→Lk→Nat→(Value→Lk→Nat→Prop)→Prop:=fun args m n K=>match sp args (args.map (blkOf m))with
 | some (c,.int k e)=>match cnd c with
  | true=>∀x:Int,e=x→K (.int k x) m n
  | false=>False
 | _=>False
def hideS(sp:Ab.Spec):J→Lk→Nat→(Value→Lk→Nat→Prop)→Prop:=fun args m n K=>match sp args (args.map (blkOf m))with
 | some (c,.string e)=>match cnd c with
  | true=>∀s':Y,e=s'→K (.string s') m n
  | false=>False
 | _=>False
theorem jea{P:Program}{f:FuncId}{sp:Ab.Spec}(h:jan P f sp):jcw P f (hideS sp):=by
 obtain⟨hc,hp⟩:=h;refine⟨hc,fun args m n K hh N w0 ι w hrel hwf hargs=> ?_⟩;unfold hideS at hh;split at hh
 case h_2=>exact hh.elim
 rename_i c e hs;split at hh
 case h_2=>exact hh.elim
 rename_i hcc;have hcc:c=true:=hcc;subst hcc;refine(hp args (.string e) N w0 m ι w hrel hs rfl).mono fun e' w' ⟨h1,h2⟩=> ?_
 exact⟨.string e,m,n,ι,by rw[h1];rfl,hh e rfl,Kv _,fun _ _=>rfl,hrel.grow h2,hwf,by simp[ids]⟩
theorem gen_hideI{P:Program}{f:FuncId}{sp:Ab.Spec}(h:jan P f sp):jcw P f (jn8 sp):=by
 obtain⟨hc,hp⟩:=h;refine⟨hc,fun args m n K hh N w0 ι w hrel hwf hargs=> ?_⟩;unfold jn8 at hh;split at hh
 case h_2=>exact hh.elim
 rename_i c k e hs;split at hh
 case h_2=>exact hh.elim
 rename_i hcc;have hcc:c=true:=hcc;subst hcc;refine(hp args (.int k e) N w0 m ι w hrel hs rfl).mono fun e' w' ⟨h1,h2⟩=> ?_
 exact⟨.int k e,m,n,ι,by rw[h1];rfl,hh e rfl,Kv _,fun _ _=>rfl,hrel.grow h2,hwf,by simp[ids]⟩
def G5h:Env:=(((Env.nil.add 215 (sp1 s135)).add 83 (sp3 s80)).add 214 (sp1 s157)).addG 213 (jn8 (sp2 s156))
theorem ok_G5h:ja3 Tryz.prog G5h:=jau (jaj (jaj (jaj jav ok135) ok80) ok157) (gen_hideI ok156)
theorem jhb(c:Int):∀l:O,l.take (Cv.ahead c l).length=Cv.ahead c l
 | []=>rfl
 | a::l=>by
  by_cases h:a=c
  ·have:Cv.ahead c (a::l)=[]:=by simp[Cv.ahead,h]
   rw[this];rfl
  ·rw[jdm l h,List.length_cons,List.take_succ_cons,jhb c l]
theorem jdr(c:Int):∀l:O,past c l=if(Cv.ahead c l).length<l.length then some (l.drop ((Cv.ahead c l).length+1))else none
 | []=>rfl
 | a::l=>by
  by_cases h:a=c
  ·have e:Cv.ahead c (a::l)=[]:=by simp[Cv.ahead,h]
   rw[e];simp[past,h]
  ·have e:past c (a::l)=past c l:=by simp[past,h]
   rw[e,jdr c l,jdm l h];simp
theorem jej(c:Int)(l:O):(Cv.ahead c l).length≤l.length:=(List.takeWhile_sublist _).length_le
def decB(g:Bool)(x:O)(e:Int):Option Num:=if Cv.ahead 46 x++(past 46 x).getD []≠ []∧jbc (Cv.ahead 46 x)=true∧jbc ((past 46 x).getD [])=true then some (jaz g (Cv.ahead 46 x++(past 46 x).getD []) (((past 46 x).getD []).length-e))else none
def decE(l:O):Option Int:=match past 69 l with
 | none=>some 0
 | some x=>expZ x
theorem jj7(g:Bool)(l:O):decR jaz g l=(decE l).bind (decB g (Cv.ahead 69 l)):=by
 unfold decR decE;cases past 69 l with
 | none=>rfl
 | some x=>cases hx:expZ x<;>(simp only[hx];rfl)
def s83(g:Bool)(s:Y):Bool×Value:=(decide (s.size≤1000),onV (decR jaz g (bz s)))
theorem onV_none:onV none=Value.tuple ⟨[.agg ⟨[.bool false,.string ⟨#[]⟩,.int .i64 0]⟩,.bool false]⟩:=by
 show Value.tuple ⟨[.agg ⟨[.bool false,.string (szO []),.int .i64 0]⟩,.bool false]⟩=_;rw[jdi]
def se(d g:Bool)(a c:Y)(b f:Int)(e:Value→Prop):Prop:=bif f8 (iy a b) c&& (ez (iy a b++c) ay || cw (iy a b) && (!jbc (bz (iy a b)) || d))then bif ez (iy a b++c) ay || (!jbc (bz (iy a b)) || !jbc (bz c))then e mp else bif f8 (iy a b) c then nl g (iy a b++c) f fv 1000 e else False else False
def k83(g:Bool)(s1:Y)(e:Int)(R:Value→Prop):Prop:=bif cw s1 then∀a:Int,((Cv.ahead 46 (bz s1)).length:Int)=a→(bif c7 0 0 a a (al s1)then bif ep s1 a then bif c7 0 (ax a) (al s1) (al s1) (al s1)then se (cw (g0 s1 (ax a)) &&true) g s1 (g0 s1 (ax a)) a (cm (fk (g0 s1 (ax a))) e) R else False else se true g s1 ay a (dt 0 e) R else False)else False
theorem expZ_rng{s:Y}{e:Int}(h:expZ (bz s)=some e): -99≤e∧e≤99:=by
 rcases Nat.eq_zero_or_pos s.size with q | q
 ·rw[jgx q]at h;cases h
 ·rw[jek q,jgu,←jek q]at h;split at h
  ·cases hd:expD (bz (s.extract 1 s.size))with
   | none=>rw[hd]at h;cases h
   | some x=>
    rw[hd]at h;have:=jgt hd;have h: -x=e:=Option.some.inj h;omega
  ·split at h
   all_goals
    have:=jgt h;omega
theorem jkb{s:Y}(n:Nat):bz (s.extract n s.size)=(bz s).drop n:=by
 rw[jb5];rw[Kw (by rw[jak];omega)]
theorem q83(g:Bool)(w p:Y)(e:Int)(hs:w.size+p.size≤1000)(he: -99≤e∧e≤99)(X:Option Num)(hX:X=if bz w++bz p≠ []∧jbc (bz w)=true∧jbc (bz p)=true then some (jaz g (bz w++bz p) ((bz p).length-e))else none):
  bif ByteArray.toList (w++p)==ByteArray.toList (ByteArray.mk #[]) || (!jbc (bz w) || !jbc (bz p))then(Value.tuple ⟨[.agg ⟨[.bool false,.string ⟨#[]⟩,.int .i64 0]⟩,.bool false]⟩=onV X)
  else bif jbf (w.size+p.size)then
   bif decide ((w++p).size≤1000∧ -100000≤IntKind.wrap .i64 ((p.size:Int)-e)∧IntKind.wrap .i64 ((p.size:Int)-e)≤100000)then(Value.tuple ⟨[numV (jaz g (bz (w++p)) (IntKind.wrap .i64 ((p.size:Int)-e))),.bool true]⟩=onV X)
   else False
  else False:=by
 rw[w64 (n:=(p.size:Int)-e) (by omega),jb8,jb0];apply Ka<;>intro h
 ·rw[hX,Kc,onV_none];rintro ⟨h1,h2,h3⟩;rw[h2,h3,jad h1]at h;cases h
 ·simp only[Kr,decide_eq_false_iff_not,Bool.not_eq_false']at h;refine c_t (by simp only[jbf,Nat.ble_eq];omega) (c_t (jaa ⟨by rw[ByteArray.size_append];omega,by omega,by omega⟩) ?_);rw[hX,Kd ⟨h.1,h.2.1,h.2.2⟩,jak];rfl
theorem k83_ok(g:Bool)(s1:Y)(e:Int)(hs:s1.size≤1000)(he: -99≤e∧e≤99):k83 g s1 e (fun v=>v=onV (decB g (bz s1) e)):=by
 unfold k83;delta br aq cu jw lf l9 nl fv iy f8 d8 ak ay cv lu mp ez cw se dt cm fk g0 ax c7 al ep;refine c_t (jaa (by omega)) fun j hj=> ?_
 have hl:=jej 46 (bz s1);rw[jak]at hl;have e3:bz (s1.extract 0 j.toNat)=Cv.ahead 46 (bz s1):=by rw[jfn,show j.toNat=(Cv.ahead 46 (bz s1)).length by omega,jhb]
 have z3:(s1.extract 0 j.toNat).size=j.toNat:=by rw[jcd];omega
 refine c_t (jaa (by omega)) (Ka (fun h=> ?_) (fun h=> ?_))
 ·have h:=jab h;rw[w64 (n:=j+1) (by omega)]
  have e4:bz (s1.extract (j+1).toNat s1.size)=(past 46 (bz s1)).getD []:=by
   rw[jkb,jdr,Kd (by rw[jak];omega),show(j+1).toNat=(Cv.ahead 46 (bz s1)).length+1 by omega];rfl
  have z4:(s1.extract (j+1).toNat s1.size).size=s1.size-(j+1).toNat:=by rw[jcd];omega
  generalize s1.extract 0 j.toNat=w at*;generalize s1.extract (j+1).toNat s1.size=p at*
  refine c_t (jaa (by omega)) (c_t (by
   rw[jaa (show w.size≤9223372036854775807 by omega),jaa (show p.size≤9223372036854775807 by omega),show jbf (w.size+p.size)=true by simp only[jbf,Nat.ble_eq];omega];simp) (q83 g w p e (by omega) he _ ?_))
  rw[decB,e3,e4]
 ·have h:=jac h
  have e4:(past 46 (bz s1)).getD []=bz ⟨#[]⟩:=by
   rw[jdr,Kc (by rw[jak];omega)];rfl
  generalize s1.extract 0 j.toNat=w at*
  refine c_t (by
   rw[jaa (show w.size≤9223372036854775807 by omega),show jbf (w.size+(⟨#[]⟩:Y).size)=true by simp only[jbf,Nat.ble_eq];show w.size+0≤_;omega];simp) (q83 g w ⟨#[]⟩ e (by show w.size+0≤_;omega) he _ ?_)
  rw[decB,e3,e4]
def gv(b:Bool)(a:Y)(c d:Prop):Prop:=bif cw a then av b c d else False
theorem v83(g:Bool)(s:Y)(R:Value→Prop):jax Tryz.prog G5h noL Tryz.f137 [Enc.enc g,Enc.enc s] (fun _=>none) 0 (fun v _ _=>R v)=(bif cw s then∀a:Int,((Cv.ahead 69 (bz s)).length:Int)=a→(bif ep s a then bif c7 0 (ax a) (al s) (al s) (al s)then gv (!(expZ (bz (g0 s (ax a)))).isSome) (g0 s (ax a)) (R mp) (bif c7 0 0 a a (al s)then k83 g (iy s a) ((expZ (bz (g0 s (ax a)))).getD (0:Int)) R else False)else False else bif c7 0 0 a a (al s)then k83 g (iy s a) 0 R else False)else False):=by kernel_rfl
theorem ok83:jan Tryz.prog 137 (sp2 s83):=by
 refine jcz ok_G5h hmix (.m Tryz.func137) jal jag fun g s hc=> ?_
 rw[ja4,v83];delta iy c7 al av cw gv g0 ax d8 cu ak ay cv lu mp ep;have hc:(s.size≤1000):=jab hc
 try dsimp only[s83]
 refine c_t (jaa (by omega)) fun k hk=> ?_
 have hkl:=jej 69 (bz s);rw[jak]at hkl;have e1:bz (s.extract 0 k.toNat)=Cv.ahead 69 (bz s):=by rw[jfn,show k.toNat=(Cv.ahead 69 (bz s)).length by omega,jhb]
 have z1:(s.extract 0 k.toNat).size=k.toNat:=by rw[jcd];omega
 rw[jj7,←e1];generalize s.extract 0 k.toNat=s1 at*;apply Ka<;>intro h
 ·have h:=jab h;rw[w64 (n:=k+1) (by omega)]
  have hd:decE (bz s)=expZ (bz (s.extract (k+1).toNat s.size)):=by
   rw[decE,jdr,Kd (by rw[jak];omega),jkb,show(k+1).toNat=(Cv.ahead 69 (bz s)).length+1 by omega]
  have z2:(s.extract (k+1).toNat s.size).size=s.size-(k+1).toNat:=by rw[jcd];omega
  generalize s.extract (k+1).toNat s.size=s2 at*;refine c_t (jaa (by omega)) (c_t (jaa (by omega)) ?_);rw[hd];cases hE:expZ (bz s2)with
  | none=>exact c_t rfl onV_none.symm
  | some e=>exact c_f rfl (c_t (jaa (by omega)) (k83_ok g s1 e (by omega) (expZ_rng hE)))
 ·have h:=jac h;have hd:decE (bz s)=some 0:=by rw[decE,jdr,Kc (by rw[jak];omega)]
  rw[hd];exact c_t (jaa (by omega)) (k83_ok g s1 0 (by omega) (by omega))
structure DecIs (g:Bool)(s:Y)(x:Option Num):Prop where
 h:decR jaz g (bz s)=x
def jn9:J→Lk→Nat→(Value→Lk→Nat→Prop)→Prop:=fun args m n K=>match args with
 | [.bool g,.string s]=>match cnd (decide (s.size≤1000))with
  | true=>∀x:Option Num,DecIs g s x→K (onV x) m n
  | false=>False
 | _=>False
theorem gen_hid83:jcw Tryz.prog 137 jn9:=by
 obtain⟨hc,hp⟩:=ok83;refine⟨hc,fun args m n K hh N w0 ι w hrel hwf hargs=> ?_⟩;unfold jn9 at hh;split at hh
 case h_2=>exact hh.elim
 rename_i g s;split at hh
 case h_2=>exact hh.elim
 rename_i hcc;have hs:(sp2 s83) [.bool g,.string s] ([Value.bool g,Value.string s].map (blkOf m))=some (true,onV (decR jaz g (bz s))):=congrArg some (Prod.ext (show(s83 g s).1=true from hcc) rfl);refine(hp [.bool g,.string s] _ N w0 m ι w hrel hs rfl).mono fun e' w' ⟨h1,h2⟩=> ?_
 exact⟨_,m,n,ι,by rw[h1];rfl,hh _ ⟨rfl⟩,Kv _,fun _ _=>rfl,hrel.grow h2,hwf,by simp[ids,idsL]⟩
def G6:Env:=(((((Env.nil.add 136 (sp1 s74)).add 83 (sp3 s80)).addG 80 (hideS (sp1 s79))).addG 84 (hideS (sp2 s87))).add 85 (sp1 s82)).addG 137 jn9
theorem ok_G6:ja3 Tryz.prog G6:=jau (jaj (jau (jau (jaj (jaj jav ok74) ok80) (jea ok79)) (jea ok87)) ok82) gen_hid83
def s25(s:Y):Bool×Value:=(decide (s.size≤9223372036854775807),onV (rdN (bz s)))
def k25(g:Bool)(t:Y)(R:Value→Prop):Prop:=go (decide (d9 t 1≥1)) (cl (d9 t 1) (al t) &&true) true (decide (d9 t 1≥1) &&jai t (d9 t 1).toNat==66) (bq (decide (d9 t 1>31)) (kh t 1&& (cw (j1 t 1) &&true)) (decide (d9 t 1>31) || !jcn (bz (j1 t 1))) (R mp) (bif kh t 1 then i6 (jcn (bz (j1 t 1))) (decide ((j1 t 1).size≤64)) (cl (binG (bz (j1 t 1)) 0) 18446744073709551616&&true) (∀a:Y,sz (decZ (binG (bz (j1 t 1)) 0))=a→br (l9 a (-100000) 0 100000 1000) (aq fv (cu (lf g a 0))) R) False else False)) (bif fy t then∀a:Option Cv.Num,DecIs g t a→R (aq [B a.isSome] (cu (jw (a.getD num0).fst (a.getD num0).snd)))else False)
theorem u8_isB(l:Yc):IsB (zl l):=fun c hc=>by
 obtain⟨b,_,rfl⟩:=KB.1 hc;have:=b.toNat_lt;omega
theorem jmg{l:O}(hb:jcn l=true)(h:l.length≤31):0≤binG l 0∧binG l 0<2147483648:=by
 obtain⟨h1,h2⟩:=jiy l 0 hb (by omega);refine⟨h1,Int.lt_of_lt_of_le h2 ?_⟩;have:(2:Nat) ^l.length≤2^31:=Nat.pow_le_pow_right (by omega) h;have h':((2^l.length:Nat):Int)≤((2^31:Nat):Int):=Int.ofNat_le.2 this;simp at h';omega
theorem jf0:∀(k n:Nat),n<10^ (k+1)→(Lib.decDigits n).length≤k+1
 | 0,n,h=>by rw[Lib.decDigits,dif_pos (by omega)];simp
 | k+1,n,h=>by
  rw[Lib.decDigits];split
  ·simp
  ·rw[Kk];have:=jf0 k (n/10) (by rw[Nat.pow_succ]at h;omega);simp;omega
theorem k25_ok(g:Bool)(t:Y)(ht:t.size≤255):k25 g t (fun v=>v=onV (bodR jaz binD g (bz t))):=by
 unfold k25;delta av go aq cu jw fy bq i6 br lf fv l9 al d9 j1 cl c7 kh d8 ak ay cv lu mp cw;rw[w64 (n:=(t.size:Int)-1) (by omega)]
 have hdec:bodR jaz binD g (bz t)=decR jaz g (bz t)→bif decide (t.size≤1000)then∀(x:Option Num),DecIs g t x→(fun v=>v=onV (bodR jaz binD g (bz t))) (onV x)else False:=fun hB=>by
  refine c_t (jaa (by omega)) fun x hx=> ?_
  rw[hB,hx.h]
 by_cases h2:2≤t.size
 ·have hb:=jfo (s:=t) (n:=(t.size:Int)-1) (by omega) (by omega);generalize hn:((t.size:Int)-1).toNat=n at*;have hl:(bz t).getLast?=some (jai t n):=by rw[hb];simp
  have hd:(bz t).dropLast=bz (t.extract 0 n):=by
   have:=congrArg List.dropLast hb;simpa using this
  have hz:(t.extract 0 n).size=n:=by rw[jcd];omega
  refine c_t (by rw[jaa (show(t.size:Int)-1≥1 by omega)];simp;omega) (Ka (fun h=> ?_) (fun h=> ?_))
  ·have h66:jai t n=66:=by simp at h;exact h.2
   have hB:bodR jaz binD g (bz t)=if t.size-1≤31∧jcn (bz (t.extract 0 n))=true then some (jaz g (binD (bz (t.extract 0 n))) 0)else none:=by
    rw[bodR,Kd ⟨by rw[jak];exact h2,by rw[hl,h66]⟩,hd,jak]
   generalize t.extract 0 n=u at*
   refine c_t (by
    rw[jaa (show(0:Int)≤0∧0≤(t.size:Int)-1∧(t.size:Int)-1≤(t.size:Int)by omega),jaa (show u.size≤9223372036854775807 by omega)];simp) (Ka (fun q=> ?_) (fun q=> ?_))
   ·rw[hB,Kc,onV_none];rintro ⟨q1,q2⟩;rw[q2]at q;simp at q;omega
   ·simp only[Kr,decide_eq_false_iff_not,Bool.not_eq_false']at q;obtain⟨q1,q2⟩:=q;have hr:=jmg q2 (by rw[jak];omega)
    have hsz:(sz (decZ (binG (bz u) 0))).size≤10:=by
     rw[jco,decZ,zl,K9];exact jf0 9 _ (by omega)
    refine c_t (jaa (by omega)) (c_t (by rw[q2,jaa (show u.size≤64 by omega)];rfl) (c_t (by rw[jaa (show 0≤binG (bz u) 0∧binG (bz u) 0<18446744073709551616 by omega)];rfl) fun v hv=> ?_));subst hv;refine c_t (jaa ⟨by omega,by omega,by omega⟩) ?_;rw[jc7 (l:=decZ (binG (bz u) 0)) (u8_isB _),hB,Kd ⟨by omega,q2⟩];rfl
  ·refine hdec ?_;rw[bodR,Kc];rintro ⟨_,q⟩;rw[hl]at q;have q:=Option.some.inj q;rw[q,jaa (show(t.size:Int)-1≥1 by omega)]at h;cases h
 ·have hf:decide ((t.size:Int)-1≥1)=false:=jad (by omega);rw[hf];refine c_t rfl (c_f rfl (hdec ?_));rw[bodR,Kc];rintro ⟨q,_⟩;rw[jak]at q;omega
theorem v25(s:Y)(R:Value→Prop):jax Tryz.prog G6 noL Tryz.f89 [Enc.enc s] (fun _=>none) 0 (fun v _ _=>R v)=(bif decide ((s.size:Int)>255)then R (.tuple (.mk [.agg (.mk [B false,S (ByteArray.mk #[]),I 0]),B false]))else bif decide (s.size≤9223372036854775807)then∀(s':Y),szO (trZ (tlZ (bz s) 32) 32)=s'→bif s'.toList==(ByteArray.mk #[]).toList then R (.tuple (.mk [.agg (.mk [B false,S (ByteArray.mk #[]),I 0]),B true]))else bif decide ((0:Int)≤0∧0<(s'.size:Int))then bif jai s' (Int.toNat 0)==45 || decide ((0:Int)≤0∧0<(s'.size:Int)) &&true then bif jai s' (Int.toNat 0)==45 || jai s' (Int.toNat 0)==43 then bif decide ((0:Int)≤1∧1≤(s'.size:Int)∧(s'.size:Int)≤(s'.size:Int))then k25 (jai s' (Int.toNat 0)==45) (ByteArray.extract s' (Int.toNat 1) s'.size) R else False else k25 (jai s' (Int.toNat 0)==45) s' R else False else False else False):=by kernel_rfl
theorem ok25:jan Tryz.prog 89 (sp1 s25):=by
 refine jb6 ok_G6 hmix (.m Tryz.func89) jal jag fun s hc=> ?_
 rw[ja4,v25];have hc:(s.size≤9223372036854775807):=jab hc
 try dsimp only[s25]
 apply Ka<;>intro h
 ·have h:=jab h;rw[rdN,Kd (by rw[jak];omega),onV_none]
 have h:=jac h;refine c_t (jaa hc) fun t et=> ?_
 have hr:rdN (bz s)=sgnR jaz binD (bz t):=by
  rw[rdN,Kc (by rw[jak];omega),numR,←et,jlv,jlu,jcs (jm3 (jkp (jdh s) 32) 32)]
 have ht:t.size≤255:=by
  rw[←et,jbu];have:=jhf (tlZ (bz s) 32) 32;have:=jd4 (bz s) 32;rw[jak]at this;omega
 rw[hr,jb8];apply Ka<;>intro h0
 ·have h0:=jab h0;rw[h0];show _=Value.tuple ⟨[.agg ⟨[.bool false,.string (szO []),.int .i64 0]⟩,.bool true]⟩;rw[jdi]
 have h0:0<t.size:=by
  have:=jac h0;rcases Nat.eq_zero_or_pos t.size with q | q
  ·exact absurd (jgx q) this
  ·exact q
 have hh:=jek h0;have hz:Int.toNat 0=0:=rfl;have hz1:Int.toNat 1=1:=rfl;rw[hz,hz1];refine c_t (jaa (by omega)) (c_t (by rw[jaa (show(0:Int)≤0∧0<(t.size:Int)by omega)];simp) (Ka (fun q=> ?_) (fun q=> ?_)))
 ·refine c_t (jaa (by omega)) ?_
  have e:sgnR jaz binD (bz t)=bodR jaz binD (jai t 0==45) (bz (t.extract 1 t.size)):=by
   rw[hh];simp only[Ko,K4]at q;rcases q with q | q<;>rw[q] <;>rfl
  rw[e];exact k25_ok _ _ (by rw[jcd];omega)
 ·have q2:¬jai t 0=45∧ ¬jai t 0=43:=by simpa using q
  have e:sgnR jaz binD (bz t)=bodR jaz binD (jai t 0==45) (bz t):=by
   rw[show(jai t 0==45)=false by simpa using q2.1];rw[hh];unfold sgnR;split
   ·rename_i q3;cases q3
   ·rename_i q3;exact absurd (List.cons.inj q3).1 q2.1
   ·rename_i q3;exact absurd (List.cons.inj q3).1 q2.2
   ·rfl
  rw[e];exact k25_ok _ _ ht
theorem ends_of{s:Y}(h:bz s≠ []):0<s.size∧(bz s).head?=some (jai s 0)∧(bz s).getLast?=some (jai s (s.size-1)):=by
 have h0:0<s.size:=by
  rcases Nat.eq_zero_or_pos s.size with q | q
  ·exact absurd (jgx q) h
  ·exact q
 refine⟨h0,by rw[jek h0];rfl,?_⟩;have hb:=jfo (s:=s) (n:=((s.size-1:Nat):Int)) (by omega) (by omega);rw[Int.toNat_natCast]at hb;rw[hb];simp
theorem num_bools(k:Nat)(b:Bool)(x y c:Int):(decide ((k:Int)≤400) && (b&& (x !=48&& (y !=48&& (decide (c≥ -400) &&decide (c≤400))))))=(decide (k≤400) && (b&& (!(some x==some (48:Int)) && (!(some y==some (48:Int)) &&decide (-400≤c∧c≤400))))):=by
 have e1:decide ((k:Int)≤400)=decide (k≤400):=by rw[decide_eq_decide];omega
 have e2:(decide (c≥ -400) &&decide (c≤400))=decide (-400≤c∧c≤400):=by rw[Kl];simp
 rw[e1,e2];rfl
theorem trim_digs(l:O):decide (jcm l (bz ⟨#[48,49,50,51,52,53,54,55,56,57]⟩)=[])=jbc l:=by
 have e:bz ⟨#[48,49,50,51,52,53,54,55,56,57]⟩=[48,49,50,51,52,53,54,55,56,57]:=rfl
 have hh:∀c:Int,hasZ [48,49,50,51,52,53,54,55,56,57] c=dig c:=fun c=>by
  unfold dig;rw[Kl,jbj,jae];simp only[Kg,List.mem_nil_iff,or_false];omega
 rw[e,Kl,jae];constructor
 ·intro h;unfold jbc;refine Kf.2 fun c hc=> ?_
  cases q:dig c with
  | true=>rfl
  | false=>
   exfalso;rw[←hh]at q;obtain⟨d,r,h1,h2⟩:=jfy (List.mem_reverse.2 hc) q;have hm:d∈(l.reverse.dropWhile (hasZ [48,49,50,51,52,53,54,55,56,57])).reverse:=by rw[h1];simp
   obtain⟨d',r',h3,_⟩:=jfy hm h2;unfold jcm at h;rw[h3]at h;cases h
 ·intro h;have ha:∀c∈l,hasZ [48,49,50,51,52,53,54,55,56,57] c=true:=fun c hc=>by rw[hh];exact Kf.1 h c hc
  unfold jcm;rw[jiq (l:=l.reverse) fun c hc=>ha c (List.mem_reverse.1 hc)];rfl
theorem isNum_facts{g:Bool}{l:O}{c:Int}(h:jgf g l c=true):l.length≤400∧jbc l=true∧l.head?≠some 48∧(-400≤c∧c≤400)∧(l=[]→c=0):=by
 unfold jgf at h;split at h
 ·rename_i q;subst q;simp at h;simp[h.2,jbc]
 ·rename_i q;simp only[jaf,jae,Ks,beq_eq_false_iff_ne]at h;exact⟨h.1,h.2.1,h.2.2.1,h.2.2.2.2,fun z=>absurd z q⟩
theorem digs_isB{l:O}(h:jbc l=true):IsB l:=fun c hc=>by
 have:=Kf.1 h c hc;unfold dig at this;have:=jab this;omega
theorem jgn{l:O}{c q:Int}(h:jbc l=true):jbc (plcR l c q)=true:=by
 refine Kf.2 fun x hx=> ?_
 have hx:=List.mem_of_mem_take hx;unfold plcZ at hx;split at hx
 ·cases hx
 ·rcases Kq.1 hx with hx | hx
  ·exact Kf.1 h x hx
  ·rw[Ky hx];rfl
theorem plc_len{l:O}{c q:Int}(h:l.length≤400)(hc: -400≤c∧c≤400)(hq:0≤q∧q≤100):(plcR l c q).length≤1500:=by
 rw[plcR,Kp]
 have:(plcZ l c q).length≤1500:=by
  unfold plcZ;split
  ·simp
  ·rw[Kk,rep48,Km];omega
 omega
theorem tm_rng{a b:Int}(h:0≤a)(hb:0<b):0≤a.tmod b∧a.tmod b<b:=by
 rw[Int.tmod_eq_emod_of_nonneg h];exact⟨Int.emod_nonneg _ (by omega),Int.emod_lt_of_pos _ hb⟩
theorem jhn{b:Int}(hb:0<b):∀(l:O)(x k:Int),jbc l=true→(0≤x∧x<b)→0≤(tkGo b l x k).1∧(tkGo b l x k).1<b
 | [],x,k,_,h=>h
 | d::r,x,k,hd,h=>by
  simp only[jbc,List.all_cons,jaf]at hd;have h1:=hd.1;unfold dig at h1;have h1:=jab h1;rw[tkGo];split
  ·exact jhn hb r _ _ hd.2 (tm_rng (by omega) hb)
  ·exact jhn hb r _ _ hd.2 (by omega)
theorem valid_facts{t:Ty}(h:jbi t):1≤t.p∧t.p≤31∧(1≤bnd t∧bnd t≤2147483648)∧(0≤t.q∧t.q≤100)∧(t.k=1∨t.k=2):=by
 have h1:=Fx.valid_r h;have h2:=Fx.bnd_range h;exact⟨h1.1,h1.2.1,by omega,by omega,h.1⟩
def H2':Env:=((Env.nil.add 110 (sp2 s154)).add 124 (sp2 s55)).add 114 (sp2 s30)
theorem ok_H2':ja3 Tryz.prog H2':=jaj (jaj (jaj jav ok154) ok55) ok30
def s84(n:Nu):Bool×Value:=(decide (n.d.size≤9223372036854775807),B (jgf n.g (bz n.d) n.c))
def iz(a:Cx.Nu):Int:=((Nu.d a).size:Int)
def px:Yc:=[49,50,51,52,53,54,55,56,57]
theorem v84(n:Nu)(R:Value→Prop):jax Tryz.prog H2' noL Tryz.f304 [Enc.enc n] (fun _=>none) 0 (fun v _ _=>R v)=(bif ez (Nu.d n) ay then br (Nu.c n==0 || true) (B (Nu.c n==0&& !Nu.g n)) R else np (decide (iz n≤400)) (cw (Nu.d n) &&ky px 48) (bv (jn (Nu.d n) px 48) (cl 0 (iz n) && (bif jai (Nu.d n) (Int.toNat 0) !=48 then cl (cm (iz n) 1) (iz n) && (bif jai (Nu.d n) (fx (iz n-1)) !=48 then jp (Nu.c n) (-400)else true)else true)) true) (jn (Nu.d n) px 48&& (jai (Nu.d n) (Int.toNat 0) !=48&& (jai (Nu.d n) (fx (iz n-1)) !=48&&gx (Nu.c n) (-400) 400))) R):=by kernel_rfl
theorem ok84:jan Tryz.prog 304 (sp1 s84):=by
 refine jb6 ok_H2' hmix (.m Tryz.func304) jal jag fun n hc=> ?_
 rw[ja4,v84];delta bv np gx fx iz ay j2 jn px jp cl cm fy ky cw br ez;have hc:(n.d.size≤9223372036854775807):=jab hc
 try dsimp only[s84]
 have hz0:Int.toNat 0=0:=rfl;rw[jb8,hz0];apply Ka<;>intro h
 ·have h:=jab h;refine c_t (Bool.or_true _) ?_;rw[jgf,Kd h];exact congrArg Value.bool (Bool.and_comm _ _)
 ·have h:bz n.d≠ []:=jac h;obtain⟨h0,hA,hB⟩:=ends_of h
  have hT:((szO (jcm (bz n.d) (bz ⟨#[48,49,50,51,52,53,54,55,56,57]⟩))).toList==(⟨#[]⟩:Y).toList)=jbc (bz n.d):=by
   rw[jb8,jcs (trim_isB (jdh n.d))];exact trim_digs (bz n.d)
  rw[hT,w64 (n:=(n.d.size:Int)-1) (by omega),show((n.d.size:Int)-1).toNat=n.d.size-1 by omega]
  refine c_t (by
   rw[jaa (show n.d.size≤9223372036854775807 by omega),jaa (show(0:Int)≤0∧0<(n.d.size:Int)by omega),jaa (show 0≤(n.d.size:Int)-1∧(n.d.size:Int)-1<(n.d.size:Int)by omega),show(decide ((⟨#[48,49,50,51,52,53,54,55,56,57]⟩:Y).size≤1000) &&asc (bz ⟨#[48,49,50,51,52,53,54,55,56,57]⟩))=true by kernel_rfl];simp only[Bool.true_and,Bool.or_true,Bool.cond_self]) ?_
  rw[jgf,Kc h,hA,hB,jak];exact congrArg Value.bool (num_bools _ _ _ _ _)
def s86(n:Nu)(q:Int):Bool×Value:=(jgf n.g (bz n.d) n.c&&decide (0≤q∧q≤100),S (szO (plcR (bz n.d) n.c q)))
theorem v86(n:Nu)(q:Int)(R:Value→Prop):jax Tryz.prog H2' noL Tryz.f306 [Enc.enc n,Enc.enc q] (fun _=>none) 0 (fun v _ _=>R v)=(bif decide (Nu.c n≤q)then jb (ig f9 (cm q (Nu.c n)) 1000 1000) (f8 (Nu.d n) (szO (repZ (bz f9) (fx (q-Nu.c n))))) (S (kj (Nu.d n++szO (repZ (bz f9) (fx (q-Nu.c n)))))) R else br (c7 0 0 (imax (cm (iz n) (IntKind.i64.wrap (Nu.c n-q))) 0) (imax (cm (iz n) (IntKind.i64.wrap (Nu.c n-q))) 0) (iz n)) (S (kj ((Nu.d n).extract 0 (imax (cm (iz n) (IntKind.i64.wrap (Nu.c n-q))) 0).toNat))) R):=by kernel_rfl
theorem ok86:jan Tryz.prog 306 (sp2 s86):=by
 refine jcz ok_H2' hmix (.m Tryz.func306) jal jag fun n q hc=> ?_
 rw[ja4,v86];delta br jy kj cm iz c7 jb fx f9 f8 ig
 try dsimp only[s86]
 have hc:(jgf n.g (bz n.d) n.c&&decide (0≤q∧q≤100))=true:=hc;simp only[jaf,jae]at hc;obtain⟨hn,hq⟩:=hc;obtain⟨f1,f2,f3,f4,f5⟩:=isNum_facts hn;have f1':=f1;rw[jak]at f1
 have hr48:∀k,repZ [48] k=rep48 k:=fun k=>by
  induction k with
  | zero=>rfl
  | succ k ih=>rw[repZ,ih];rfl
 have e48:bz ⟨#[48]⟩=[48]:=rfl;have hpe:=place_eq (q:=q) f5 f3;rw[e48,←hpe];have hi48:∀k,IsB (rep48 k):=fun k c hc=>by rw[Ky hc];omega
 apply Ka<;>intro h
 ·have h:=jab h;rw[w64 (n:=q-n.c) (by omega),hr48,jb0,jcs (hi48 _)];refine c_t (jaa ⟨by omega,by omega,by decide⟩) (c_t (by rw[jbu,rep48,Km];simp only[jbf,Nat.ble_eq];omega) ?_);rw[intP,Kd h];rfl
 ·have h:=jac h;have hm:imax ((n.d.size:Int)-(n.c-q)) 0=max ((n.d.size:Int)-(n.c-q)) 0:=by unfold imax;split<;>omega
  rw[w64 (n:=n.c-q) (by omega),w64 (n:=(n.d.size:Int)-(n.c-q)) (by omega),hm,jfn];refine c_t (jaa (by omega)) ?_;rw[intP,Kc h,jak];rfl
def H5:Env:=((Env.nil.add 305 (sp1 s85)).add 304 (sp1 s84)).addG 306 (hideS (sp2 s86))
theorem ok_H5:ja3 Tryz.prog H5:=jau (jaj (jaj jav ok85) ok84) (jea ok86)
def bpow(b:Int):Nat→Int→Int
 | 0,x=>x
 | n+1,x=>bpow b n (x*b)
theorem bpow_eq(b:Int):∀(n:Nat)(x:Int),bpow b n x=x*b^n
 | 0,x=>by rw[bpow,Int.pow_zero,Int.mul_one]
 | n+1,x=>by rw[bpow,bpow_eq b n,Int.pow_succ,Int.mul_assoc,Int.mul_comm b]
theorem bpow_ge{b:Int}(hb:1≤b):∀(n:Nat)(x:Int),1≤x→x≤bpow b n x
 | 0,x,h=>KH _
 | n+1,x,h=>by
  rw[bpow];have h1:x*1≤x*b:=Int.mul_le_mul_of_nonneg_left hb (by omega);rw[Int.mul_one]at h1;exact Int.le_trans h1 (bpow_ge hb n (x*b) (by omega))
def V26_0:Bool×Y×Int×Int×Y×Int×Int×Y×Int×Int×Int×Int×Int×Int→J:=fun(g,d0,c,zn,zs,r5,r6,s,b,o,k,x,P,i)=> [.pointer (some ⟨0,0,some 0⟩),.pointer (some ⟨2,0,some 0⟩),I r5,I r6,S s,I b,I o,I k,I x,I P,I i]
def B26_0:Bool×Y×Int×Int×Y×Int×Int×Y×Int×Int×Int×Int×Int×Int→Ya:=fun(g,d0,c,zn,zs,r5,r6,s,b,o,k,x,P,i)=> [some ⟨[B g,S d0,I c],59,true⟩,some ⟨[I zn,S zs],32,true⟩]
def S26_0:LSpec (Bool×Y×Int×Int×Y×Int×Int×Y×Int×Int×Int×Int×Int×Int) where
 live:=[2,4,5,6,7,8,9,10,11,29,30]
 mid:=[0,2]
 n:=60
 dec vs bs:=match vs,bs with | [.pointer (some ⟨0,0,some 0⟩),.pointer (some ⟨2,0,some 0⟩),.int .i64 r5,.int .i64 r6,.string s,.int .i64 b,.int .i64 o,.int .i64 k,.int .i64 x,.int .i64 P,.int .i64 i],[some ⟨[.bool g,.string d0,.int .i64 c],59,true⟩,some ⟨[.int .i64 zn,.string zs],32,true⟩]=>some (g,d0,c,zn,zs,r5,r6,s,b,o,k,x,P,i) | _,_=>none
 pre:=fun(g,d0,c,zn,zs,r5,r6,s,b,o,k,x,P,i)=>decide (0≤i∧i≤P∧P≤100∧1≤b∧1≤x∧bpow b (P-i).toNat x≤2147483648)
 fin:=fun(g,d0,c,zn,zs,r5,r6,s,b,o,k,x,P,i) Z=>Z (.exit 0) [.pointer (some ⟨0,0,some 0⟩),.pointer (some ⟨2,0,some 0⟩),I r5,I r6,S s,I b,I o,I k,I (bpow b (P-i).toNat x),I P,I P] [some ⟨[B g,S d0,I c],59,true⟩,some ⟨[I zn,S zs],32,true⟩]
def lw(b:Y)(a:Int):Option Blk:=some (.mk [ak a,.string b] 32 true)
def nd(c:Y)(a b e f:Int)(g:J)(d:Value):J:=ar 2::ak a::ak b:: .string c::d::ak e::ak f::g
theorem r26_0(g:Bool)(d0:Y)(c:Int)(zn:Int)(zs:Y)(r5:Int)(r6:Int)(s:Y)(b:Int)(o:Int)(k:Int)(x:Int)(P:Int)(i:Int)(jk:Tmps)(R:Exit→J→Ya→Prop):(jbn Tryz.prog H5 noL Tryz.f278.ntmps (ja2 Tryz.f278 0) (tl S26_0.live (V26_0 (g,d0,c,zn,zs,r5,r6,s,b,o,k,x,P,i)) jk) (ml S26_0.mid (B26_0 (g,d0,c,zn,zs,r5,r6,s,b,o,k,x,P,i))) S26_0.n fun e t' m' _=>R e (List.map t' S26_0.live) (List.map m' S26_0.mid))=(bif bw i P then R .normal (ar 0::nd s r5 r6 o k (I (jl x b)::ct P i) (ak b)) [gu g d0 c,lw zs zn]else R (.exit 0) (ar 0::nd s r5 r6 o k (ak x::bp P i) (ak b)) [gu g d0 c,lw zs zn]):=by kernel_rfl
theorem l26_0:∀t m n K,S26_0.h t m n K→Ab.Sem Tryz.prog Tryz.f278.ntmps (.loop (ja2 Tryz.f278 0)) t m n K:=by
 refine ja6 ok_H5 hmix (by kernel_rfl) (ja0 _) S26_0 V26_0 B26_0 (fun(g,d0,c,zn,zs,r5,r6,s,b,o,k,x,P,i)=>(P-i).toNat) ?_ ?_ ?_
 ·intro vs bs s h;simp only[S26_0]at h;split at h
  all_goals first | (cases h;exact⟨rfl,rfl⟩) | cases h | (split at h<;>first | (rename_i hq;cases h;have hq:=jah hq;subst hq;exact⟨rfl,rfl⟩) | cases h)
 ·exact fun _ _ _ h=>h
 ·intro⟨g,d0,c,zn,zs,r5,r6,s,b,o,k,x,P,i⟩ jk Z hp hf;rw[r26_0];delta ak lw gu ar nd bp ax az ct jl bw;simp only[S26_0]at hp hf;obtain⟨h0,hP,h100,hb,hx,hm⟩:=jab hp;apply Ka<;>intro h
  ·have h:=jab h;have e:(P-i).toNat=(P-(i+1)).toNat+1:=by omega
   rw[e,bpow]at hm hf;have h1:x*1≤x*b:=Int.mul_le_mul_of_nonneg_left hb (by omega);rw[Int.mul_one]at h1;have h2:=bpow_ge hb (P-(i+1)).toNat (x*b) (by omega);rw[w64 (n:=x*b) (by omega),w64 (n:=i+1) (by omega)];exact⟨(g,d0,c,zn,zs,r5,r6,s,b,o,k,x*b,P,i+1),rfl,rfl,by simp only[S26_0,jae];omega,by simp only;omega,hf⟩
  ·have h:=jac h;obtain rfl:i=P:=by omega
   rw[Int.sub_self]at hf;exact hf
def V26_2:Bool×Y×Int×Int×Y×Int×Int×Y×Int×Int×Int×Int×Int→J:=fun(g,d0,c,zn,zs,r5,r6,s,x,k,b,L,i)=> [.pointer (some ⟨0,0,some 0⟩),.pointer (some ⟨2,0,some 0⟩),I r5,I r6,S s,I x,I k,I b,I L,I i]
def B26_2:Bool×Y×Int×Int×Y×Int×Int×Y×Int×Int×Int×Int×Int→Ya:=fun(g,d0,c,zn,zs,r5,r6,s,x,k,b,L,i)=> [some ⟨[B g,S d0,I c],59,true⟩,some ⟨[I zn,S zs],32,true⟩]
def S26_2:LSpec (Bool×Y×Int×Int×Y×Int×Int×Y×Int×Int×Int×Int×Int) where
 live:=[2,4,5,6,7,9,10,11,37,38]
 mid:=[0,2]
 n:=120
 dec vs bs:=match vs,bs with | [.pointer (some ⟨0,0,some 0⟩),.pointer (some ⟨2,0,some 0⟩),.int .i64 r5,.int .i64 r6,.string s,.int .i64 x,.int .i64 k,.int .i64 b,.int .i64 L,.int .i64 i],[some ⟨[.bool g,.string d0,.int .i64 c],59,true⟩,some ⟨[.int .i64 zn,.string zs],32,true⟩]=>some (g,d0,c,zn,zs,r5,r6,s,x,k,b,L,i) | _,_=>none
 pre:=fun(g,d0,c,zn,zs,r5,r6,s,x,k,b,L,i)=>decide (0≤i∧i≤L∧L=s.size∧s.size≤100000∧0≤x∧x<b∧b≤2147483648) &&jbc (bz s)
 fin:=fun(g,d0,c,zn,zs,r5,r6,s,x,k,b,L,i) Z=>Z (.exit 2) [.pointer (some ⟨0,0,some 0⟩),.pointer (some ⟨2,0,some 0⟩),I r5,I r6,S s,I (tkGo b ((bz s).drop i.toNat) x k).1,I (tkGo b ((bz s).drop i.toNat) x k).2,I b,I L,I L] [some ⟨[B g,S d0,I c],59,true⟩,some ⟨[I zn,S zs],32,true⟩]
theorem r26_2(g:Bool)(d0:Y)(c:Int)(zn:Int)(zs:Y)(r5:Int)(r6:Int)(s:Y)(x:Int)(k:Int)(b:Int)(L:Int)(i:Int)(jk:Tmps)(R:Exit→J→Ya→Prop):(jbn Tryz.prog H5 noL Tryz.f278.ntmps (ja2 Tryz.f278 2) (tl S26_2.live (V26_2 (g,d0,c,zn,zs,r5,r6,s,x,k,b,L,i)) jk) (ml S26_2.mid (B26_2 (g,d0,c,zn,zs,r5,r6,s,x,k,b,L,i))) S26_2.n fun e t' m' _=>R e (List.map t' S26_2.live) (List.map m' S26_2.mid))=(bif bw i L then gk (decide (j7 10 x (au s i) .u8≥b)) s i (bm (decide (b≠0)) R [gu g d0 c,lw zs zn] (ar 0::nd s r5 r6 1 b (ct L i) (I ((j7 10 x (au s i) .u8).tmod b)))) (R .normal (ar 0::nd s r5 r6 k b (ct L i) (k9 s 10 x i)) [gu g d0 c,lw zs zn])else R (.exit 2) (ar 0::nd s r5 r6 k b (bp L i) (ak x)) [gu g d0 c,lw zs zn]):=by kernel_rfl
theorem l26_2:∀t m n K,S26_2.h t m n K→Ab.Sem Tryz.prog Tryz.f278.ntmps (.loop (ja2 Tryz.f278 2)) t m n K:=by
 refine ja6 ok_H5 hmix (by kernel_rfl) (ja0 _) S26_2 V26_2 B26_2 (fun(g,d0,c,zn,zs,r5,r6,s,x,k,b,L,i)=>(s.size-i).toNat) ?_ ?_ ?_
 ·intro vs bs s h;simp only[S26_2]at h;split at h
  all_goals first | (cases h;exact⟨rfl,rfl⟩) | cases h | (split at h<;>first | (rename_i hq;cases h;have hq:=jah hq;subst hq;exact⟨rfl,rfl⟩) | cases h)
 ·exact fun _ _ _ h=>h
 ·intro⟨g,d0,c,zn,zs,r5,r6,s,x,k,b,L,i⟩ jk Z hp hf;rw[r26_2];delta ak lw gu ar nd bp av al bk gk kg jl j7 au k9 ax az ct bm bw;simp only[S26_2]at hp hf;simp only[jaf,jae]at hp;obtain⟨⟨h0,hi,hL,hs,hx0,hxb,hb⟩,hd⟩:=hp;apply Ka<;>intro h
  ·have h:=jab h;rw[jca h0 (by omega),tkGo]at hf;have hc:=dig_cases (s:=s) (i:=i.toNat) (by omega) hd;refine c_t (jaa (by omega)) ?_;rw[w64 (n:=i+1) (by omega),w8s (by omega),w64 (n:=jai s i.toNat-48) (by omega),w64 (n:=10*x) (by omega),w64 (n:=10*x+(jai s i.toNat-48)) (by omega)];apply Ka<;>intro q
   ·have q:b≤10*x+(jai s i.toNat-48):=jab q;rw[Kd q]at hf;have hm:=tm_rng (a:=10*x+(jai s i.toNat-48)) (b:=b) (by omega) (by omega);exact c_t (jaa (by omega)) ⟨(g,d0,c,zn,zs,r5,r6,s,(10*x+(jai s i.toNat-48)).tmod b,1,b,L,i+1),rfl,rfl,by simp only[S26_2,jaf,jae];exact⟨by omega,hd⟩,by simp only;omega,hf⟩
   ·have q:¬b≤10*x+(jai s i.toNat-48):=jac q;rw[Kc q]at hf;exact⟨(g,d0,c,zn,zs,r5,r6,s,10*x+(jai s i.toNat-48),k,b,L,i+1),rfl,rfl,by simp only[S26_2,jaf,jae];exact⟨by omega,hd⟩,by simp only;omega,hf⟩
  ·have h:=jac h;rw[jck (by omega)]at hf;obtain rfl:i=L:=by omega
   exact hf
theorem lok26:LOKf Tryz.prog (twoL 0 S26_0.h 2 S26_2.h) Tryz.f278:=je2 (by kernel_rfl) (by kernel_rfl) l26_0 l26_2
def s26(n:Nu)(t:Ty):Bool×Value:=(decide (n.d.size≤9223372036854775807),.tuple ⟨[vlv (tkV n.g (bz n.d) n.c t).1,I (tkV n.g (bz n.d) n.c t).2.1,I (tkV n.g (bz n.d) n.c t).2.2]⟩)
def o9(c:Y)(b:Fx.Ty)(a:Int):Prod Int Int:=tkGo (bpow a (Int.toNat (Fx.Ty.p b-0)) 1) (bu c 0) 0 0
def rp(b:Y)(a:Cx.Nu)(f:Fx.Ty)(e:Int)(h:Value→Prop):Prop:=bif S26_0.pre (Nu.g a,(Nu.d a,(Nu.c a,((0:Int),(ay,((0:Int),((0:Int),(b,(e,((0:Int),((0:Int),((1:Int),(Fx.Ty.p f,(0:Int))))))))))))))then ib (S26_2.pre (Nu.g a,(Nu.d a,(Nu.c a,((0:Int),(ay,((0:Int),((0:Int),(b,((0:Int),((0:Int),(bpow e (Int.toNat (Fx.Ty.p f-0)) 1,(al b,(0:Int)))))))))))))) (Tmps→(bif Nu.g a then h (aq [.int .i64 (o9 b f e).snd,ak 0] (cu [.int .i64 (cm 0 (o9 b f e).fst),cv]))else h (aq [.int .i64 (o9 b f e).snd,ak 0] (cu [.int .i64 (o9 b f e).fst,cv])))) False else False
theorem v26(n:Nu)(t:Ty)(R:Value→Prop):jax Tryz.prog H5 (twoL 0 S26_0.h 2 S26_2.h) Tryz.f278 [Enc.enc n,Enc.enc t] (fun _=>none) 0 (fun v _ _=>R v)=(gv (!jgf (Nu.g n) (bz (Nu.d n)) (Nu.c n)) (Nu.d n) (R (aq (bp 0 1) (cu [ak 0,cv]))) (bif !decide (Fx.jbi t)then R (aq (bp 0 5) (cu [ak 0,cv]))else bif jgf (Nu.g n) (bz (Nu.d n)) (Nu.c n) &&ia 0 (Fx.Ty.q t) 100 then∀a:Y,szO (plcR (bz (Nu.d n)) (Nu.c n) (Fx.Ty.q t))=a→(bif dl t 2 then rp a n t 2 R else rp a n t 10 R)else False)):=by kernel_rfl
theorem ok26:jan Tryz.prog 278 (sp2 s26):=by
 refine jcz ok_H5 hmix (.m Tryz.func278) lok26 jag fun n t hc=> ?_
 rw[ja4,v26];delta av cw gv ib aq cu ay cv bu o9 ak cm al rp dl ia bp;have hc:(n.d.size≤9223372036854775807):=jab hc
 try dsimp only[s26]
 have hz0:Int.toNat 0=0:=rfl;refine c_t (jaa hc) (Ka (fun h=> ?_) (fun h=> ?_))
 ·rw[tkV,Kd (by simpa using h)]
 have hn:jgf n.g (bz n.d) n.c=true:=by simpa using h
 rw[hn];apply Ka<;>intro q
 ·have q:¬jbi t:=by simpa using q
  rw[tkV,Kc (by rw[hn];decide),Kd q]
 have hv:jbi t:=by simpa using q
 obtain⟨f1,f2,f3,f4,f5⟩:=isNum_facts hn;obtain⟨v1,v2,v3,v4,v5⟩:=valid_facts hv;refine c_t (by rw[jaa v4];rfl) fun s' hs'=> ?_
 have hbz:bz s'=plcR (bz n.d) n.c t.q:=by rw[←hs',jcs (digs_isB (jgn f2))]
 have hsz:s'.size≤1500:=by rw[←jak,hbz];exact plc_len f1 f4 v4
 have hr:=jhn (b:=bnd t) (by omega) (plcR (bz n.d) n.c t.q) 0 0 (jgn f2) (by omega);rw[tkV,Kc (by rw[hn];decide),Kc (fun z=>z hv)];have hp2:2≤bnd t:=(Fx.bnd_range hv).1
 have key:∀b:Int,base t.k=b→bpow b (t.p-0).toNat 1=bnd t:=fun b hb=>by
  rw[bpow_eq,Int.one_mul,Int.sub_zero,bnd,pw,hb]
 apply Ka<;>intro hk
 ·have hk2:base t.k=2:=by
   have:t.k=2:=by simpa using hk
   rw[this];rfl
  have hb:=key _ hk2;refine c_t (by simp only[S26_0,jae];rw[hb];refine⟨?_,?_,?_,?_,?_,?_⟩ <;>first | omega | trivial) fun x=> ?_
  rw[hb];refine c_t (by simp only[S26_2,jaf,jae];exact⟨by refine⟨?_,?_,?_,?_,?_,?_,?_⟩ <;>first | omega | trivial,by rw[hbz];exact jgn f2⟩) fun y=> ?_
  rw[hz0,List.drop_zero,hbz,w64 (n:=0-(tkGo (bnd t) (plcR (bz n.d) n.c t.q) 0 0).1) (by omega),tkR];apply Ka<;>intro h
  ·rw[Kd h,Int.zero_sub]
  ·rw[Kc (by rw[h];decide)]
 ·have hk2:base t.k=10:=by
   have:¬t.k=2:=by simpa using hk
   rw[v5.resolve_right this];rfl
  have hb:=key _ hk2;refine c_t (by simp only[S26_0,jae];rw[hb];refine⟨?_,?_,?_,?_,?_,?_⟩ <;>first | omega | trivial) fun x=> ?_
  rw[hb];refine c_t (by simp only[S26_2,jaf,jae];exact⟨by refine⟨?_,?_,?_,?_,?_,?_,?_⟩ <;>first | omega | trivial,by rw[hbz];exact jgn f2⟩) fun y=> ?_
  rw[hz0,List.drop_zero,hbz,w64 (n:=0-(tkGo (bnd t) (plcR (bz n.d) n.c t.q) 0 0).1) (by omega),tkR];apply Ka<;>intro h
  ·rw[Kd h,Int.zero_sub]
  ·rw[Kc (by rw[h];decide)]
structure Wh where
 n:Int
 t:Ty
instance:Enc Wh where
 enc x:= .agg ⟨[.int .i64 x.n,.int .i64 x.t.k,.int .i64 x.t.p,.int .i64 x.t.q,.bool x.t.v,.string x.t.s]⟩
 dec | .agg ⟨[.int .i64 n,.int .i64 k,.int .i64 p,.int .i64 q,.bool v,.string s]⟩=>some ⟨n,⟨k,p,q,v,s⟩⟩ | _=>none
 dec_some:=by
  intro v a h;split at h
  ·cases h;rfl
  ·cases h
 plain_enc _:=rfl
def wid(t:Ty):Int:=if t.k=2 then 1+(100*t.p+331)/332+3 else t.p+3
def fixU(n q:Int):O:=rep48 (q+1-(itoZ n).length).toNat++itoZ n
def fixD(n q:Int):O:=if q>0 then(fixU n q).take ((fixU n q).length-q.toNat)++46::(fixU n q).drop ((fixU n q).length-q.toNat)else itoZ n
def fixS(n q:Int):O:=if n<0 then 45::fixD (-n) q else fixD n q
def txtZ(n:Int)(t:Ty):O:=List.replicate (wid t-(fixS n t.q).length).toNat 32++fixS n t.q
def K5:Env:=Env.nil
theorem ok_K5:ja3 Tryz.prog K5:=jav
def s112(t:Ty):Bool×Value:=(decide (0≤t.p∧t.p≤1000),I (wid t))
theorem v112(t:Ty)(R:Value→Prop):jax Tryz.prog K5 noL Tryz.f339 [Enc.enc t] (fun _=>none) 0 (fun v _ _=>R v)=(bif dl t 2 then R (I (fp (IntKind.i64.wrap (1+IntKind.i64.wrap ((IntKind.i64.wrap (jl 100 (Fx.Ty.p t)+331)).tdiv 332))) 3))else R (I (fp (Fx.Ty.p t) 3))):=by kernel_rfl
theorem ok112:jan Tryz.prog 339 (sp1 s112):=by
 refine jb6 ok_K5 hmix (.m Tryz.func339) jal jag fun t hc=> ?_
 rw[ja4,v112];delta fp jl dl;have hc:(0≤t.p∧t.p≤1000):=jab hc
 try dsimp only[s112]
 unfold wid;apply Ka<;>intro h
 ·have h:t.k=2:=eq_of_beq h;have hd:(100*t.p+331).tdiv 332=(100*t.p+331)/332:=Int.tdiv_eq_ediv_of_nonneg (by omega);rw[Kd h,w64 (n:=100*t.p) (by omega),w64 (n:=100*t.p+331) (by omega),hd,w64 (n:=(100*t.p+331)/332) (by omega),w64 (n:=1+(100*t.p+331)/332) (by omega),w64 (by omega)]
 ·have h:¬t.k=2:=by simpa using h
  rw[Kc h,w64 (by omega)]
def K6:Env:=((Env.nil.addG 130 (hideS (sp1 s29))).addG 114 (hideS (sp2 s30))).add 339 (sp1 s112)
theorem ok_K6:ja3 Tryz.prog K6:=jaj (jau (jau jav (jea ok29)) (jea ok30)) ok112
def s321(x:Wh):Bool×Value:=(decide (jbi x.t∧ -2147483648≤x.n∧x.n≤2147483648),S (szO (txtZ x.n x.t)))
def j4(b:Int)(a:UInt8):Y:=szO (repZ (bz ⟨#[a]⟩) b.toNat)
def sf(b c:Y)(d:Cx.Wh)(e:Value→Prop):Prop:=bif f8 b c then lj (ig ⟨#[32]⟩ (imax (cm (wid (Wh.t d)) (jx b c)) 0) 1000 1000) 0 (Fx.Ty.p (Wh.t d)) 1000 (∀a:Y,j4 (imax (cm (wid (Wh.t d)) (jx b c)) 0) 32=a→br (f8 a (b++c)) (.string (a++(b++c))) e)else False
def py(a:Bool)(b c f:Y)(d e:Int)(g:Prop):Prop:=bif a then bif f8 b c then e7 (c7 0 d e e (al f)) g else False else False
def lg(a:Cx.Wh):Int:=Fx.Ty.q (Wh.t a)
def k321(sg s':Y)(x:Wh)(R:Value→Prop):Prop:=bif decide (lg x>0)then bif ig f9 (imax (cm (fp (lg x) 1) (al s')) 0) 1000 1000 then∀a:Y,j4 (imax (cm (fp (lg x) 1) (al s')) 0) 48=a→(bif f8 a s' then py (c7 0 0 (cm (jx a s') (lg x)) (cm (jx a s') (lg x)) (jx a s')) ((a++s').extract 0 (fx (jx a s'-lg x))) ⟨#[46]⟩ (a++s') (cm (jx a s') (lg x)) (jx a s') (bif f8 ((a++s').extract 0 (fx (jx a s'-lg x))++⟨#[46]⟩) (mq a s' (lg x))then sf sg ((a++s').extract 0 (fx (jx a s'-lg x))++⟨#[46]⟩++mq a s' (lg x)) x R else False)else False)else False else sf sg s' x R
theorem jd9{m:Int}(h:0≤m∧m≤2147483648):(itoZ m).length≤10:=by
 obtain⟨k,rfl⟩:∃k:Nat,m=(k:Int):=⟨m.toNat,by omega⟩
 rw[itoZ,Lib.itoa_nonneg,zl,K9];exact jf0 9 k (by omega)
theorem jge(n:Int):IsB (itoZ n):=zl_isB _
theorem rep32_isB(k:Nat):IsB (List.replicate k 32):=fun c hc=>by rw[Ky hc];omega
theorem jgl(k:Nat):IsB (rep48 k):=fun c hc=>by rw[Ky hc];omega
theorem jda(c:Int):∀n,repZ [c] n=List.replicate n c
 | 0=>rfl
 | n+1=>by rw[repZ,jda c n];rfl
theorem fitN{n:Nat}(h:n≤100000):jbf n=true:=by simp only[jbf,Nat.ble_eq];omega
theorem imax_eq(a b:Int):imax a b=max a b:=by unfold imax;split<;>omega
theorem k321f(sg D X:Y)(t:Ty)(hp:0≤t.p∧t.p≤31)(hw:0≤wid t∧wid t≤100)(hs:sg.size≤1)(hD:D.size≤100)(hX:bz X=List.replicate (wid t-(bz sg++bz D).length).toNat 32++(bz sg++bz D)):
  bif jbf (ByteArray.size sg+ByteArray.size D)then bif decide (0≤Ty.p t∧Ty.p t≤1000)then
   bif decide (0≤imax (IntKind.wrap IntKind.i64 (wid t-(↑(ByteArray.size (sg++D)):Int))) 0∧imax (IntKind.wrap IntKind.i64 (wid t-(↑(ByteArray.size (sg++D)):Int))) (0:Int)≤1000∧ByteArray.size (ByteArray.mk #[32])≤1000)then
    ∀s2:Y,szO (repZ (bz (ByteArray.mk #[32])) (Int.toNat (imax (IntKind.wrap IntKind.i64 (wid t-(↑(ByteArray.size (sg++D)):Int))) 0)))=s2→
     bif jbf (ByteArray.size s2+ByteArray.size (sg++D))then Value.string (s2++(sg++D))=Value.string X else False
   else False else False else False:=by
 have hz:(sg++D).size=sg.size+D.size:=ByteArray.size_append;rw[w64 (n:=wid t-((sg++D).size:Int)) (by omega),imax_eq];refine c_t (fitN (by omega)) (c_t (jaa (by omega)) (c_t (jaa ⟨by omega,by omega,by decide⟩) fun s2 e2=> ?_))
 have b2:bz s2=List.replicate (wid t-(bz sg++bz D).length).toNat 32:=by
  rw[←e2,show bz (ByteArray.mk #[32])=[32]from rfl,jda,jcs (rep32_isB _),Kk,jak,jak];congr 1;omega
 have z2:s2.size≤100:=by rw[←jak,b2,Km];omega
 refine c_t (fitN (by omega)) ?_;congr 1;rw[←jh2 (s2++(sg++D)),←jh2 X,jb0,jb0,b2,hX]
theorem k321_ok(sg s':Y)(x:Wh)(m:Int)(h:szO (itoZ m)=s')(hm:0≤m∧m≤2147483648)(hv:jbi x.t)(hs:sg.size≤1)(hg:IsB (bz sg)):
  k321 sg s' x (fun v=>v= .string (szO (List.replicate (wid x.t-(bz sg++fixD m x.t.q).length).toNat 32++(bz sg++fixD m x.t.q)))):=by
 unfold k321;delta e7 ia lj br f8 j4 cm jx ig sf c7 al py fx mq lg fp f9;obtain⟨n,t⟩:=x;simp only at hv ⊢;obtain⟨v1,v2,v3,v4,v5⟩:=Fx.valid_r hv;have hw:0≤wid t∧wid t≤100:=by unfold wid;split<;>omega
 have b1:bz s'=itoZ m:=by rw[←h,jcs (jge _)]
 have z1:s'.size≤10:=by rw[←jak,b1];exact jd9 hm
 have hX:∀l,IsB l→bz (szO (List.replicate (wid t-(bz sg++l).length).toNat 32++(bz sg++l)))=List.replicate (wid t-(bz sg++l).length).toNat 32++(bz sg++l):=fun l hl=>jcs ((rep32_isB _).append (hg.append hl))
 apply Ka<;>intro hq
 ·have hq:t.q>0:=jab hq;rw[w64 (n:=t.q+1) (by omega),w64 (n:=t.q+1-(s'.size:Int)) (by omega),imax_eq];refine c_t (jaa ⟨by omega,by omega,by decide⟩) fun s1 e1=> ?_
  have c1:bz s1=rep48 (t.q+1-(itoZ m).length).toNat:=by
   rw[←e1,show bz (ByteArray.mk #[48])=[48]from rfl,jda,jcs (l:=List.replicate _ 48) (jgl _),←b1,jak];rw[rep48];congr 1;omega
  have y1:(s1.size:Int)=max (t.q+1-(s'.size:Int)) 0:=by rw[←jak,c1,rep48,Km,←b1,jak];omega
  have hu:bz (s1++s')=fixU m t.q:=by rw[jb0,c1,b1];rfl
  have zu:(s1++s').size=s1.size+s'.size:=ByteArray.size_append;generalize s1++s'=u at*;rw[w64 (n:=(u.size:Int)-t.q) (by omega)]
  have e3:bz (u.extract 0 ((u.size:Int)-t.q).toNat)=(fixU m t.q).take ((fixU m t.q).length-t.q.toNat):=by
   rw[jfn,hu,←hu,jak];congr 1;omega
  have e4:bz (u.extract ((u.size:Int)-t.q).toNat u.size)=(fixU m t.q).drop ((fixU m t.q).length-t.q.toNat):=by
   rw[jkb,hu,←hu,jak];congr 1;omega
  have z3:(u.extract 0 ((u.size:Int)-t.q).toNat).size=u.size-t.q.toNat:=by rw[jcd];omega
  have z4:(u.extract ((u.size:Int)-t.q).toNat u.size).size=t.q.toNat:=by rw[jcd];omega
  generalize u.extract 0 ((u.size:Int)-t.q).toNat=a at*;generalize u.extract ((u.size:Int)-t.q).toNat u.size=b at*;have n46:(ByteArray.mk #[46]).size=1:=rfl
  have hD:bz (a++ByteArray.mk #[46]++b)=fixD m t.q:=by
   rw[jb0,jb0,e3,e4,fixD,Kd hq,show bz (ByteArray.mk #[46])=[46]from rfl,Kz];rfl
  have zD:(a++ByteArray.mk #[46]++b).size=a.size+1+b.size:=by rw[ByteArray.size_append,ByteArray.size_append,n46]
  refine c_t (fitN (by omega)) (c_t (jaa (by omega)) (c_t (fitN (by rw[n46];omega)) (c_t (jaa (by omega)) (c_t (fitN (by rw[ByteArray.size_append,n46];omega)) ?_))));rw[←hD];exact k321f sg _ _ t (by omega) hw hs (by omega) (hX _ (jdh _))
 ·have hq:¬t.q>0:=jac hq;have hD:bz s'=fixD m t.q:=by rw[b1,fixD,Kc hq]
  rw[←hD];exact k321f sg _ _ t (by omega) hw hs (by omega) (hX _ (jdh _))
theorem v321(x:Wh)(R:Value→Prop):jax Tryz.prog K6 noL Tryz.f338 [Enc.enc x] (fun _=>none) 0 (fun v _ _=>R v)=(dy (decide (Wh.n x<0)) (ia (-9223372036854775808) (cm 0 (Wh.n x)) 9223372036854775807) (ia (-9223372036854775808) (Wh.n x) 9223372036854775807) (∀a:Y,szO (itoZ (cm 0 (Wh.n x)))=a→k321 ⟨#[45]⟩ a x R) (∀a:Y,szO (itoZ (Wh.n x))=a→k321 ay a x R)):=by kernel_rfl
theorem ok321:jan Tryz.prog 338 (sp1 s321):=by
 refine jb6 ok_K6 hmix (.m Tryz.func338) jal jag fun x hc=> ?_
 rw[ja4,v321];delta e7 dy ay cm ia;have hc:(jbi x.t∧ -2147483648≤x.n∧x.n≤2147483648):=jab hc
 try dsimp only[s321]
 obtain⟨hv,h1,h2⟩:=hc;apply Ka<;>intro h
 ·have h:x.n<0:=jab h;rw[w64 (n:=0-x.n) (by omega)];refine c_t (jaa (by omega)) fun s' e=> ?_
  have:=k321_ok ⟨#[45]⟩ s' x (0-x.n) e (by omega) hv (by decide) (jdh _);rw[txtZ,fixS,Kd h,show -x.n=0-x.n by omega];exact this
 ·have h:¬x.n<0:=jac h;refine c_t (jaa (by omega)) fun s' e=> ?_
  have:=k321_ok ⟨#[]⟩ s' x x.n e (by omega) hv (by decide) (jdh _);rw[txtZ,fixS,Kc h];exact this
end Go.Cx
end
section
namespace Go.Cx
open Go Go.Proofs Go.RowKit Go.Extern.Stop Go.Stop Go.Extern
theorem as_nil(t:Value)(w:World):
  Calls Tryz.prog 168 #[.nilIface,t] w fun e w'=>e= .returned (.bool false)∧w'=w:=by
 go_enter Tryz.func168,Tryz.ntmps168
 go_wp2
 go_ret
 exact⟨rfl,rfl⟩
theorem a_valueOf121(t:Addr)(w:World):(ReflectliteValue.unpack (.iface 212 (.pointer (some t)))).run Tryz.prog w
  = .ok (.agg #[.pointer (some ⟨10,212,none⟩),.pointer (some ⟨w.heap.size,0,none⟩),.int .u64 150]) (w.alloc (.cells #[.pointer (some t)] 212)):=by kernel_rfl
theorem a_type121 (a : Addr) (w : World) : (ReflectliteValue.methodAny (ReflectliteValue.valueError "reflectlite.Value.Type" 0) (fun t _ _ _ => ReflectliteType.toType t) #[.agg #[.pointer (some ⟨10, 212, none⟩), .pointer (some a), .int .u64 150]]).run Tryz.prog w
  = .ok (.iface 304 (.agg #[.pointer (some ⟨10,212,none⟩)])) w:=by kernel_rfl
theorem a_kind121(w:World):((ReflectliteType.abiMethod fun t=>(fun a:Nat=>Value.int IntKind.u8 (a:Int)) <$> Rtype.kind t) #[.pointer (some ⟨10,212,none⟩)]).run Tryz.prog w= .ok (.int .u8 22) w:=by kernel_rfl
theorem a_kind119(w:World):((ReflectliteType.abiMethod fun t=>(fun a:Nat=>Value.int IntKind.u8 (a:Int)) <$> Rtype.kind t) #[.pointer (some ⟨10,210,none⟩)]).run Tryz.prog w= .ok (.int .u8 25) w:=by kernel_rfl
theorem a_rlm(z:Sem Value)(f:TypeId→Addr→Nat→Nat→Sem Value)(v:Value):
  ReflectliteValue.method z f #[v]=(do match←ReflectliteValue.parts v with | none=>z | some (t,a,fl)=>f t a fl (fl%32)):=rfl
theorem a_parts121(a:Addr)(w:World):(ReflectliteValue.parts (.agg #[.pointer (some ⟨10,212,none⟩),.pointer (some a),.int .u64 150])).run Tryz.prog w= .ok (some (212,a,150)) w:=by kernel_rfl
theorem a_isNil121(a p:Addr)(W:World)(ha:W.cell? a=some (.pointer (some p))):
  (ReflectliteValue.method (ReflectliteValue.valueError "reflectlite.Value.IsNil" 0) ReflectliteValue.isNil #[.agg #[.pointer (some ⟨10, 212, none⟩), .pointer (some a), .int .u64 150]]).run Tryz.prog W = .ok (.bool false) W := by
 rw[a_rlm];simp only[Sem.run_bind,a_parts121,Result.andThen];simp[ReflectliteValue.isNil,loadVar,isAgg,underlying,Tryz.underlying212,ha,Result.andThen]
theorem a_methodKind (h : Value) (w : World) : (Go.method 471 304 (.agg #[h]) "Kind").run Tryz.prog w = .ok (333, h) w := by kernel_rfl
theorem a_methodElem (h : Value) (w : World) : (Go.method 471 304 (.agg #[h]) "Elem").run Tryz.prog w = .ok (349, .agg #[h]) w := by kernel_rfl
theorem a_methodImplements (h : Value) (w : World) : (Go.method 471 304 (.agg #[h]) "Implements").run Tryz.prog w = .ok (350, .agg #[h]) w := by kernel_rfl
theorem a_methodAssignableTo (h : Value) (w : World) : (Go.method 471 304 (.agg #[h]) "AssignableTo").run Tryz.prog w = .ok (347, .agg #[h]) w := by kernel_rfl
theorem a_elem121(w:World):(ReflectliteType.method ReflectliteType.elem #[.agg #[.pointer (some ⟨10,212,none⟩)]]).run Tryz.prog w= .ok (.iface 304 (.agg #[.pointer (some ⟨10,210,none⟩)])) w:=by kernel_rfl
theorem a_implements119 (w : World) : (ReflectliteType.relation "Implements" ReflectliteType.implements_ #[.agg #[.pointer (some ⟨10, 210, none⟩)], .iface 304 (.agg #[.pointer (some ⟨10, 157, none⟩)])]).run Tryz.prog w = .ok (.bool true) w := by kernel_rfl
theorem a_typeOf119(v:Value)(w:World):(ReflectliteType.typeOf #[.iface 210 v]).run Tryz.prog w= .ok (.iface 304 (.agg #[.pointer (some ⟨10,210,none⟩)])) w:=by kernel_rfl
theorem a_assignable119 (w : World) : (ReflectliteType.relation "AssignableTo" ReflectliteType.assignableTo #[.agg #[.pointer (some ⟨10, 210, none⟩)], .iface 304 (.agg #[.pointer (some ⟨10, 210, none⟩)])]).run Tryz.prog w = .ok (.bool true) w := by kernel_rfl
theorem a_valueOf119(s:ByteArray)(w:World):(ReflectliteValue.unpack (.iface 210 (.agg #[.string s]))).run Tryz.prog w
  = .ok (.agg #[.pointer (some ⟨10,210,none⟩),.pointer (some ⟨w.heap.size,0,none⟩),.int .u64 153]) (w.alloc (.cells #[.string s] 210)):=by kernel_rfl
theorem a_elemOf121(w:World):(Rtype.elem? 212).run Tryz.prog w= .ok (some 210) w:=by kernel_rfl
theorem a_mk119(p:Addr)(w:World):(ReflectliteValue.mk 210 p ReflectliteValue.flagAddr).run Tryz.prog w= .ok (.agg #[.pointer (some ⟨10,210,none⟩),.pointer (some p),.int .u64 409]) w:=by kernel_rfl
theorem a_elemV121(a p:Addr)(W:World)(ha:W.cell? a=some (.pointer (some p))):
  (ReflectliteValue.method (ReflectliteValue.valueError "reflectlite.Value.Elem" 0) ReflectliteValue.elem #[.agg #[.pointer (some ⟨10, 212, none⟩), .pointer (some a), .int .u64 150]]).run Tryz.prog W
   = .ok (.agg #[.pointer (some ⟨10,210,none⟩),.pointer (some p),.int .u64 409]) W:=by
 rw[a_rlm];simp only[Sem.run_bind,a_parts121,Result.andThen];simp[ReflectliteValue.elem,loadVar,isAgg,underlying,Tryz.underlying212,ha,Result.andThen,a_elemOf121,a_mk119]
theorem a_rls(v x:Value):ReflectliteValue.set #[v,x]=(do
  let (some (dst,a,fl),some (src,b,_)):=(←ReflectliteValue.parts v,←ReflectliteValue.parts x)
   | unsupported (.noEntry "extern/(internal/reflectlite.Value).Set.zeroValue")
  if fl / ReflectliteValue.flagAddr % 2 == 0 then unsupported (.noEntry "extern/(internal/reflectlite.Value).Set.unaddressable")
  let val←loadVar src b
  if←Rtype.directlyAssignable dst src then storeVar dst a val
  else if←Rtype.implements dst src then
   if(←Rtype.kind src)==20 then
    match val with
    | .nilIface => unsupported (.noEntry "extern/reflectlite: a nil value of one interface type handed on as a value of another")
    | _=>storeVar dst a val
   else storeVar dst a (.iface src val)
  else panicString ("reflectlite.Set: value of type " ++ (← Rtype.spelt src) ++ " is not assignable to type " ++ (← Rtype.spelt dst))
  pure (.tuple #[])):=rfl
theorem a_parts119a(a:Addr)(w:World):(ReflectliteValue.parts (.agg #[.pointer (some ⟨10,210,none⟩),.pointer (some a),.int .u64 409])).run Tryz.prog w= .ok (some (210,a,409)) w:=by kernel_rfl
theorem a_parts119(a:Addr)(w:World):(ReflectliteValue.parts (.agg #[.pointer (some ⟨10,210,none⟩),.pointer (some a),.int .u64 153])).run Tryz.prog w= .ok (some (210,a,153)) w:=by kernel_rfl
theorem a_direct119(w:World):(Rtype.directlyAssignable 210 210).run Tryz.prog w= .ok true w:=by kernel_rfl
theorem a_size119(w:World):(sizeOf 210).run Tryz.prog w= .ok 1 w:=by kernel_rfl
theorem a_load119(b:Addr)(s:ByteArray)(W:World)(hb:W.cell? b=some (.string s))(hs:b.spot=none):(loadVar 210 b).run Tryz.prog W= .ok (.agg #[.string s]) W:=by
 obtain⟨bb,bo,bs⟩:=b;subst hs;simp[loadVar,isAgg,underlying,Tryz.underlying210,a_size119,loadCells,loadCellsFrom,Addr.add,hb,Result.andThen]
theorem a_set119(ta b:Addr)(s:ByteArray)(old:Value)(W:World)(hb:W.cell? b=some (.string s))(hs:b.spot=none)(ht:W.cell? ta=some old)(hts:ta.spot=none)(hf:W.frozen? ta=false):
  (ReflectliteValue.set #[.agg #[.pointer (some ⟨10, 210, none⟩), .pointer (some ta), .int .u64 409], .agg #[.pointer (some ⟨10, 210, none⟩), .pointer (some b), .int .u64 153]]).run Tryz.prog W
   = .ok (.tuple #[]) (W.setCell ta (.string s)):=by
 obtain⟨tb,tq,ts⟩:=ta;subst hts;rw[a_rls];simp only[Sem.run_bind,a_parts119a,a_parts119,Result.andThen];have hl:=a_load119 b s W hb hs;have hd:=a_direct119 W;simp[ReflectliteValue.flagAddr,hl,hd,storeVar,Value.cells,storeCells,Addr.add,a_size119,Result.andThen];rw[run_store Tryz.prog W ⟨tb,tq,none⟩ _ _ (by rfl)];simp[ht,hf]
end Go.Cx
end
section
namespace Go.Cx
open Go Go.Proofs Go.RowKit Go.Extern.Stop Go.Stop Go.Extern Go.Shelf
set_option maxRecDepth 100000 in
set_option maxHeartbeats 4000000 in
theorem as_hit(s:ByteArray)(t:Addr)(old:Value)(w:World)(hg:w.cell? ⟨0,0,none⟩=some (.iface 304 (.agg #[.pointer (some ⟨10,157,none⟩)])))(hts:t.spot=none)(ht0:w.cell? t=some old)(hf0:w.frozen? t=false):
  Calls Tryz.prog 168 #[.iface 210 (.agg #[.string s]),.iface 212 (.pointer (some t))] w fun ev w'=>ev= .returned (.bool true)∧w'=((((w.alloc (.cells #[.pointer (some t)] 212)).alloc (.cells #[.pointer (some ⟨10,212,none⟩),.pointer (some ⟨w.heap.size,0,none⟩),.int .u64 150] 261)).alloc (.cells #[.pointer (some ⟨10,212,none⟩),.pointer (some ⟨w.heap.size,0,none⟩),.int .u64 150] 261)).alloc (.cells #[.string s] 210)).setCell t (.string s):=by
 have h6:= @run_callFunc_extern Tryz.prog 234 _ (fun args=>ReflectliteValue.unpack (args.getD 0 (.tuple #[]))) Tryz.func234 (by kernel_rfl) (by kernel_rfl) (by kernel_rfl) (by kernel_rfl)
 have h7 := @run_callFunc_extern Tryz.prog 235 _ (ReflectliteValue.methodAny (ReflectliteValue.valueError "reflectlite.Value.Type" 0) (fun t _ _ _ => ReflectliteType.toType t)) Tryz.func235 (by kernel_rfl) (by kernel_rfl) (by kernel_rfl) (by kernel_rfl)
 have h8 := @run_callFunc_extern Tryz.prog 236 _ (ReflectliteValue.method (ReflectliteValue.valueError "reflectlite.Value.IsNil" 0) ReflectliteValue.isNil) Tryz.func236 (by kernel_rfl) (by kernel_rfl) (by kernel_rfl) (by kernel_rfl)
 have h27:= @run_callFunc_extern Tryz.prog 333 _ (ReflectliteType.abiMethod fun t=>do pure (.int .u8 (←Rtype.kind t))) Tryz.func333 (by kernel_rfl) (by kernel_rfl) (by kernel_rfl) (by kernel_rfl);have h37:= @run_callFunc_extern Tryz.prog 349 _ (ReflectliteType.method ReflectliteType.elem) Tryz.func349 (by kernel_rfl) (by kernel_rfl) (by kernel_rfl) (by kernel_rfl)
 have h38 := @run_callFunc_extern Tryz.prog 350 _ (ReflectliteType.relation "Implements" ReflectliteType.implements_) Tryz.func350 (by kernel_rfl) (by kernel_rfl) (by kernel_rfl) (by kernel_rfl)
 have h10:= @run_callFunc_extern Tryz.prog 283 _ ReflectliteType.typeOf Tryz.func283 (by kernel_rfl) (by kernel_rfl) (by kernel_rfl) (by kernel_rfl)
 have h35 := @run_callFunc_extern Tryz.prog 347 _ (ReflectliteType.relation "AssignableTo" ReflectliteType.assignableTo) Tryz.func347 (by kernel_rfl) (by kernel_rfl) (by kernel_rfl) (by kernel_rfl)
 have h11 := @run_callFunc_extern Tryz.prog 284 _ (ReflectliteValue.method (ReflectliteValue.valueError "reflectlite.Value.Elem" 0) ReflectliteValue.elem) Tryz.func284 (by kernel_rfl) (by kernel_rfl) (by kernel_rfl) (by kernel_rfl)
 have h12:= @run_callFunc_extern Tryz.prog 285 _ ReflectliteValue.set Tryz.func285 (by kernel_rfl) (by kernel_rfl) (by kernel_rfl) (by kernel_rfl);have tO:=a_typeOf119;have mA:=a_methodAssignableTo;have a25:=a_assignable119;have v25:=a_valueOf119;have f6:=a_valueOf121;have f7:=a_type121;have mK:=a_methodKind;have mE:=a_methodElem;have mI:=a_methodImplements;have k27:=a_kind121;have k25:=a_kind119;have e27:=a_elem121;have i25:=a_implements119;have n8:=a_isNil121 ⟨w.heap.size,0,none⟩ t ((w.alloc (.cells #[.pointer (some t)] 212)).alloc (.cells #[.pointer (some ⟨10,212,none⟩),.pointer (some ⟨w.heap.size,0,none⟩),.int .u64 150] 261)) (by simp)
 have hlt:0<w.heap.size:=by
  rcases Nat.eq_zero_or_pos w.heap.size with h0 | h
  ·simp[World.cell?,h0]at hg
  ·exact h
 have hg2:((w.alloc (.cells #[.pointer (some t)] 212)).alloc (.cells #[.pointer (some ⟨10,212,none⟩),.pointer (some ⟨w.heap.size,0,none⟩),.int .u64 150] 261)).cell? ⟨0,0,none⟩=some (.iface 304 (.agg #[.pointer (some ⟨10,157,none⟩)])):=by
  rw[World.cell?_alloc_lt _ _ ⟨0,0,none⟩ (by simp),World.cell?_alloc_lt _ _ ⟨0,0,none⟩ hlt];exact hg
 have htl:t.block<w.heap.size:=by
  rcases Nat.lt_or_ge t.block w.heap.size with h | h
  ·exact h
  ·simp[World.cell?,Array.getElem?_eq_none h]at ht0
 have el:=a_elemV121 ⟨w.heap.size,0,none⟩ t (((w.alloc (.cells #[.pointer (some t)] 212)).alloc (.cells #[.pointer (some ⟨10,212,none⟩),.pointer (some ⟨w.heap.size,0,none⟩),.int .u64 150] 261)).alloc (.cells #[.pointer (some ⟨10,212,none⟩),.pointer (some ⟨w.heap.size,0,none⟩),.int .u64 150] 261)) (by rw[World.cell?_alloc_lt _ _ ⟨w.heap.size,0,none⟩ (by simp;omega)];simp)
 have st:=a_set119 t ⟨w.heap.size+1+1+1,0,none⟩ s old ((((w.alloc (.cells #[.pointer (some t)] 212)).alloc (.cells #[.pointer (some ⟨10,212,none⟩),.pointer (some ⟨w.heap.size,0,none⟩),.int .u64 150] 261)).alloc (.cells #[.pointer (some ⟨10,212,none⟩),.pointer (some ⟨w.heap.size,0,none⟩),.int .u64 150] 261)).alloc (.cells #[.string s] 210))
  (by rw[World.cell?_alloc_at _ _ _ _ (by simp)];rfl) rfl
  (by rw[World.cell?_alloc_lt _ _ t (by simp;omega),World.cell?_alloc_lt _ _ t (by simp;omega),World.cell?_alloc_lt _ _ t (by simp;omega),World.cell?_alloc_lt _ _ t htl];exact ht0) hts
  (by rw[World.frozen?_alloc_old _ _ t (by simp;omega),World.frozen?_alloc_old _ _ t (by simp;omega),World.frozen?_alloc_old _ _ t (by simp;omega),World.frozen?_alloc_old _ _ t (Nat.ne_of_lt htl)];exact hf0)
 have e175:∀args w,(callFunc 237 args).run Tryz.prog w= .ok (.enter 237 args) w:=enters_of Tryz.func237 (by kernel_rfl) rfl
 go_enter Tryz.func168,Tryz.ntmps168
 go_wp2
 refine wp_loop_rounds 1 ?_;rw[rounds_succ]
 go_wp2
 go_ret
 exact⟨rfl,rfl⟩
end Go.Cx
end
