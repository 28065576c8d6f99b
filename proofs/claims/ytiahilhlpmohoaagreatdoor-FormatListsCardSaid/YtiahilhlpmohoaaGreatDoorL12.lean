/-
  Part 2: the run and laws.
-/
import Derived.Test.YtiahilhlpmohoaaGreatDoorL11
set_option linter.unusedVariables false
set_option linter.unusedSimpArgs false
set_option linter.unusedSectionVars false
noncomputable section
namespace Go.Px
open Go Go.Ab Go.Proofs Go.Shelf
theorem fn134:Fn1 Tryz.prog 191 Tryz.f191:= .m Tryz.func191
theorem fn135:Fn1 Tryz.prog 192 Tryz.f192:= .m Tryz.func192
theorem lok134:LOKf Tryz.prog (twoL 0 S134_0.hA 2 S134_2.hA) Tryz.f191:=lokf_two (by kernel_rfl) (by kernel_rfl) l134_0 l134_2
def G24:Env:=Env.nil.add 221 (sp2 s141)
theorem ok_G24:jao Tryz.prog G24:=jak ja7 ok141
def G25:Env:=((((((Env.nil.add 189 (sp2 s132)).add 187 (sp2 s130)).add 128 (sp2 s102)).addG 188 (inlQ Tryz.prog G20 (oneL 0 S131_0.hA) Tryz.f188)).addG 190 (inlQ Tryz.prog G22 (oneL 0 S133_0.hA) Tryz.f190)).addG 191 (inlQ Tryz.prog G23 (twoL 0 S134_0.hA 2 S134_2.hA) Tryz.f191)).addG 192 (inlQ Tryz.prog G24 (oneL 0 S135_0.hA) Tryz.f192)
theorem ok_G25:jao Tryz.prog G25:=jaq (jaq (jaq (jaq (jak (jak (jak ja7 ok132) ok130) ok102) (jau ok_G20 hmix fn131 lok131)) (jau ok_G22 hmix fn133 l133_0)) (jau ok_G23 hmix fn134 lok134)) (jau ok_G24 hmix fn135 l135_0)
def look(m:Lk):Value→F
 | Value.tuple ⟨[Value.pointer (some a),_]⟩=>match m a.block with
  | some b=>match b.c[6]? with
   | some (Value.slice (some a') _ _)=> [some b,m a'.block]
   | _=> [some b]
  | none=> []
 | _=> []
def nD(b:E):Bool×Int×Int:=jef [36,83,43,45] b 0 (-1)
def nR(b:E):E:=jbd (nD b).2.1 (nD b).2.2 b 0
def nP(b:E):Bool×PlS:=plGo (nR b) ⟨0,false,0,0,0,0⟩
def nPok(b:E):Bool:=(nP b).1&& (decide ((nP b).2.pts≤1) && (decide ((nP b).2.dg≥1) && (decide ((nP b).2.dg≤9) && !((nP b).2.bh&&decide ((nP b).2.fm>0)))))
def nS(b:E):Bool:=stP (nD b).2.2 (loGo (nD b).2.2 (nR b) 0 b.length) (hiGo (nD b).2.2 (nR b) 0 (-1)) (nR b) 0
def nG(b:E)(cr:Bool):Int:=siGo b (nR b)+(bif cr then 1 else 0)
def nSt(b:E):Bool:=hasZ b 42&&hasZ b 90 || (hasZ b 42 || hasZ b 90) && (nD b).2.1 !=0
def numQ(b:E)(cr:Bool):Bool:= !anyZ b [65,88,67,68] && ((nD b).1&& (!nSt b&& (nPok b&& (nS b&&decide (nG b cr≤1)))))
def jie(s:Y)(cr:Bool)(x m cap:Nat):U:=
 [.string s,.bool true,.int .i64 ((nP (jan (bz s))).2.w+(bif cr then 2 else 0)),.int .i64 (nP (jan (bz s))).2.dg,.int .i64 (nP (jan (bz s))).2.q,.bool (nG (jan (bz s)) cr==1),
  .slice (some ⟨x,0,some 1⟩) m cap,.int .u8 (nD (jan (bz s))).2.1,.int .i64 (nD (jan (bz s))).2.2,.bool cr,.int .u8 (bif hasZ (jan (bz s)) 42 then 42 else 32),.int .i64 (nP (jan (bz s))).2.fm]
def ji9(s:Y)(cr:Bool):E:=nR (jan (bz s))++(bif cr then [4,4]else [])
theorem jgj(dr f:Int):∀(l:E)(i:Int),(jbd dr f l i).length=l.length
 | [],_=>rfl
 | c::r,i=>by simp[jbd,jgj dr f r]
theorem jjs:∀(a b:E),0≤siGo a b∧siGo a b≤a.length
 | [],_=>by simp[siGo]
 | _::_,[]=>by simp[siGo];omega
 | c::cs,r::rs=>by
  have:=jjs cs rs;rw[siGo,List.length_cons];cases(r==4 || hasZ [84,73,82] c) <;>simp only[cond_true,cond_false] <;>omega
theorem jg8:∀(l:E)(a:PlS),(a.w≤(plGo l a).2.w∧(plGo l a).2.w≤a.w+l.length)∧(a.dg≤(plGo l a).2.dg∧(plGo l a).2.dg≤a.dg+l.length)∧(a.fm≤(plGo l a).2.fm∧(plGo l a).2.fm≤a.fm+l.length)
 | [],a=>by simp[plGo]
 | r::rs,a=>by
  rw[plGo,List.length_cons];cases r==2 with
  | true=>have:=jg8 rs ⟨a.pts+1,a.bh,a.w,a.dg,a.q,a.fm⟩;simp only[cond_true]at this ⊢;omega
  | false=>
   cases r==0 with
   | true=>have:=jg8 rs ⟨a.pts,a.bh,a.w+1,a.dg+1,a.q+a.pts,a.fm+1⟩;simp only[cond_true,cond_false]at this ⊢;omega
   | false=>
    cases r==1 with
    | true=>
     cases decide (a.fm>0)with
     | true=>simp only[cond_true,cond_false];omega
     | false=>have:=jg8 rs ⟨a.pts,a.bh || decide (a.pts>0),a.w+1,a.dg+1,a.q+a.pts,a.fm⟩;simp only[cond_true,cond_false]at this ⊢;omega
    | false=>have:=jg8 rs ⟨a.pts,a.bh,a.w+1,a.dg,a.q,a.fm⟩;simp only[cond_false]at this ⊢;omega
theorem jg0{s:E}{cr:Bool}(h:crZ s=cr):jan s=bif cr then s.take (s.length-2)else s:=by
 unfold jan;rw[h];cases cr<;>rfl
theorem cr_suf(l:E):(sufZ l [67,82] || sufZ l [68,66])=crZ l:=by
 unfold sufZ crZ;rw[Bool.eq_iff_iff];simp only[Bool.or_eq_true,jaf,jae,List.length_cons,List.length_nil];constructor
 ·rintro (⟨a,b⟩ | ⟨a,b⟩)
  ·exact⟨a,.inl b⟩
  ·exact⟨a,.inr b⟩
 ·rintro ⟨a,b | b⟩
  ·exact .inl ⟨a,b⟩
  ·exact .inr ⟨a,b⟩
theorem asc_take{l:E}(h:asc l=true)(n:Nat):asc (l.take n)=true:=by
 simp only[asc,List.all_eq_true]at h ⊢;exact fun x hx=>h x (List.mem_of_mem_take hx)
def gz(a:Value→F→Prop):Prop:=a (ay (.pointer none::gl)) []
def lx(d:Bool)(a c:Y)(e:Prop)(b:Value→F→Prop):Prop:=bif e8 a&& (e8 ⟨#[65,88,67,68]⟩ && (asc (bz a) &&asc (bz ⟨#[65,88,67,68]⟩)))then bif anyZ (bz a) (bz ⟨#[65,88,67,68]⟩)then gz b else er (S131_0.toLSpec.pre (a,(false,(natO 4,((0:Int),(c,((0:Int),(-(1:Int),d)))))))) (jef [36,83,43,45] (bz a) 0 (-1)).fst e (Int→Int→Int→Tmps→gz b)else False
def g0(a:Y)(b:UInt8):Bool:=hasZ (bz a) (ku b)
def ly(j:Bool)(a i:Y)(b g:Int)(k:Prop)(h:Value→F→Prop):Prop:=jef [36,83,43,45] (bz a) 0 (-1)=(true,(b,g))→Tmps→gx (g0 a 42) (g0 a 90 || (g0 a 42 || (g0 a 90 || true))) (g0 a 42 || (g0 a 90 || true)) (bif g0 a 42 then g0 a 90 || (bif g0 a 42 then b !=0 else g0 a 90&&b !=0)else bif g0 a 42 then b !=0 else g0 a 90&&b !=0) (gz h) (∀c:Nat,a.size.ble c=true→(bif ii [(344,400)] (Lib.strCells a) 410 then er (S133_0.toLSpec.pre (a,(false,((0:Int),(false,(go a 344 400,(a.size,(c,(natO a.size,((0:Int),(i,((0:Int),((0:Int),((0:Int),(Rw.nil,(b,(g,(j,(0:Int))))))))))))))))))) (plGo (jbd b g (im a 344 400) 0) (PlS.mk 0 false 0 0 0 0)).fst ((Rw.is Rw.nil=false→im a 344 400=([]:E)→dw true (go a 344 400) 410 (gz h))∧k) (jf (Int→Int→Int→Int→(∀d:U,∀e:Nat,∀f:Nat,jc5 d e f=true→dw (bu d 410) (go a 344 400) 410 (gz h))))else False))
def jb(a:U):U:=rlbL [(569,600)] (rlbL [] (rlbL [] a))
def lz(k:Bool)(b e:Y)(f g h i j l:Int)(a:U)(c d:Nat)(p:Prop)(q:Value→F→Prop):Prop:=bif ii [] a 520 then bif S134_0.toLSpec.pre (b,(false,(av b,(-(1:Int),(c,(d,(natO c,((0:Int),(e,(f,(g,(h,(rlbL [] a,(c,(d,(i,(j,(k,l))))))))))))))))))then∀m:Int,∀n:Int,loGo j ((zc (rlbL [] a) c).drop (Int.toNat 0)) 0 (av b)=m→hiGo j ((zc (rlbL [] a) c).drop (Int.toNat 0)) 0 (-1)=n→dw true (rlbL [] a) 520 (bif ii [] (rlbL [] a) 560 then er (S134_2.toLSpec.pre (b,(false,(m,(n,(c,(d,(natO c,((0:Int),(e,(f,(g,(h,(rlbL [] (rlbL [] a),(c,(d,(i,(j,(k,l))))))))))))))))))) (stP j m n ((zc (rlbL [] (rlbL [] a)) c).drop (Int.toNat 0)) 0) (bif bu (rlbL [] (rlbL [] a)) 560 then Tmps→(∀o:Nat,b.size.ble o=true→b8 (dm true [(569,600)] (Lib.strCells b) (rlbL [] (rlbL [] a))) (jaz 610 (go b 569 600) &&bu (jb a) 610) (S135_0.toLSpec.pre (b,((0:Int),((0:Int),(go b 569 600,(b.size,(o,(natO b.size,((0:Int),(e,(f,(g,(h,(jb a,(c,(d,(i,(j,(k,l))))))))))))))))))) p False)else False) (Int→(bif bu (rlbL [] (rlbL [] a)) 560 then Tmps→gz q else False))else False)else False else False
def l0(a:Y)(d e:Int)(b:U)(c:Nat)(g h:Prop)(f:Value→F→Prop):Prop:=0+siGo (im a 569 600) ((zc (jb b) c).drop (Int.toNat 0))=d→(bif jaz 610 (go a 569 600) &&bu (jb b) 610 then Tmps→(bif aq e 1 then gz f else bif hasZ (bz a) (ku 42)then g else h)else False)
def ju(a:Nat):Value:= .tuple ⟨[dq a,.bool true]⟩
def l1(f:Y)(e g h i j k l m:Int)(a:U)(b c n:Nat)(d:Value→F→Prop):Prop:=bif gq (jb a) b 1 c&&true&&jb3 (c+2) 8 then∀q:Nat,∀r:U,ja1 r q (c+2) 1=true→d (ju 3) (b5 true (bq e 1==1) true f (bq g 2) h i j k l m (c+2) q (some (.mk n 0 (some 1)))::bk (dy (jb a) (ar 4 4) r c 1) 221)else False
theorem v103(s:Y)(R:Value→F→Prop):(ja4 Tryz.prog G25 noL Tryz.f129 [S s] (fun _=>none) 0 (fun v m _=>R v (look m v)))=(b8 (aw s) (sufZ (bz s) (bz ⟨#[67,82]⟩) || aw s&&true) (sufZ (bz s) (bz ⟨#[67,82]⟩) || sufZ (bz s) (bz ⟨#[68,66]⟩)) (bif bv 0 (gk s) s.size then lx true (g8 s) s (∀a:Int,∀b:Int,ly true (g8 s) s a b (∀d:Int,∀e:Bool,∀f:Int,∀g:Int,∀h:Int,∀i:Int,∀j:U,∀k:Nat,∀l:Nat,jc5 j k l=true→zc j k=Rw.z Rw.nil++jbd a b (im (g8 s) 344 400) 0→plGo (jbd a b (im (g8 s) 344 400) 0) (PlS.mk 0 false 0 0 0 0)=(true,PlS.mk d e f g h i)→dw (bu j 410) (go (g8 s) 344 400) 410 (gx (decide (d≤1)) (ko e g) true (!(decide (d≤1) &&km e (aq i 0) g)) (gz R) (lz true (g8 s) s f g h a b i j k l (∀p:Int,l0 (g8 s) p (bq p 1) j k (l1 s p f g h a b 42 i j l k 644 R) (l1 s p f g h a b 32 i j l k 640 R) R) R))) R) R else False) (lx false s s (∀a:Int,∀b:Int,ly false s s a b (∀d:Int,∀e:Bool,∀f:Int,∀g:Int,∀h:Int,∀i:Int,∀j:U,∀k:Nat,∀l:Nat,jc5 j k l=true→zc j k=Rw.z Rw.nil++jbd a b (im s 344 400) 0→plGo (jbd a b (im s 344 400) 0) (PlS.mk 0 false 0 0 0 0)=(true,PlS.mk d e f g h i)→dw (bu j 410) (go s 344 400) 410 (gx (decide (d≤1)) (ko e g) true (!(decide (d≤1) &&km e (aq i 0) g)) (gz R) (lz false s s f g h a b i j k l (∀p:Int,l0 s p p j k (R (ju 3) (b5 true (p==1) false s f g h a b 42 i k l dz::bk (jb j) 221)) (R (ju 3) (b5 true (p==1) false s f g h a b 32 i k l dz::bk (jb j) 221)) R) R))) R) R)):=by kernel_rfl
theorem w103(s:Y)(hs:s.size≤32)(ha:asc (bz s)=true)(R:Value→F→Prop)
    (hn:numQ (jan (bz s)) (crZ (bz s))=false→R (.tuple ⟨[.pointer none,.bool false]⟩) [])
    (hy:numQ (jan (bz s)) (crZ (bz s))=true→ ∀(x m cap:Nat)(d:U),RowI d m cap→zc d m=ji9 s (crZ (bz s))→
      R (.tuple ⟨[.pointer (some ⟨3,0,some 0⟩),.bool true]⟩) [some ⟨jie s (crZ (bz s)) x m cap,132,true⟩,some ⟨d,221,true⟩]):
    jer Tryz.prog G25 noL Tryz.f129 [.string s] (fun _=>none) 0 (fun v m _=>R v (look m v)):=by
  rw[jer,v103];delta b8 er ay gl gz e8 lx gx jf dw go bu im ck ii ku g0 ly jb dm av lz aq l0 bk ak au b5 dz dq ju bn km ko dy ar bq gq l1 gk g8 bv aw;have k67:bz ⟨#[67,82]⟩=[67,82]:=rfl;have k68:bz ⟨#[68,66]⟩=[68,66]:=rfl;rw[k67,k68,cr_suf];refine c_t (by rw[jaa (show s.size≤9223372036854775807 by omega)];simp) (cond_intro (fun hcr=> ?_) (fun hcr=> ?_))
  · rw [hcr] at hn hy;have hb:=jg0 hcr
    have h2:2≤s.size:=by
      have:2≤(bz s).length:=by
        simp only[crZ,jaf,jae]at hcr;exact hcr.1
      rwa [jax]at this
    rw[w64 (n:=(s.size:Int)-2) (by omega)];refine c_t (jaa (by omega)) ?_
    have hb:bz (s.extract 0 ((s.size:Int)-2).toNat)=jan (bz s):=by
      rw[hb,jck,cond_true,jax,List.drop_zero];congr 1;omega
    have hay:asc (bz (s.extract 0 ((s.size:Int)-2).toNat))=true:=by
      rw[hb,jg0 hcr];exact asc_take ha _
    have hys:(s.extract 0 ((s.size:Int)-2).toNat).size≤32:=by
      rw[←jax,hb,jg0 hcr,cond_true,List.length_take,jax];omega
    generalize s.extract 0 ((s.size:Int)-2).toNat=y at*;have k1:bz ⟨#[65,88,67,68]⟩=[65,88,67,68]:=rfl;have k2:(bz ⟨#[42]⟩).getD 0 0=42:=rfl;have k3:(bz ⟨#[90]⟩).getD 0 0=90:=rfl;rw[k1,k2,k3];have ey:=hb;refine c_t (by rw[jaa (show y.size≤1000 by omega),hay];rfl) (cond_intro (fun hA=>hn (by rw[←hb];simp only[numQ,hA,Bool.not_true,Bool.false_and])) (fun hA=>c_t ?_ (cond_intro (fun hB dr' f' hD x=> ?_) (fun hB _ _ _ _=>hn (by rw[←hb,numQ,nD,hB,hA];rfl)))))
    · simp only [S131_0, jae];exact⟨ja3 4,by omega,by omega,by omega,by omega,by omega⟩
    have hD':nD (bz y)=(true,dr',f'):=hD;have e1:(nD (bz y)).1=true:=by rw[hD']
    have e2:(nD (bz y)).2.1=dr':=by rw[hD']
    have e3:(nD (bz y)).2.2=f':=by rw[hD']
    have eS:(bif hasZ (bz y) 42 then hasZ (bz y) 90 || bif hasZ (bz y) 42 then dr' !=0 else hasZ (bz y) 90&&dr' !=0 else bif hasZ (bz y) 42 then dr' !=0 else hasZ (bz y) 90&&dr' !=0)=nSt (bz y):=by
      rw[nSt,e2];cases hasZ (bz y) 42<;>cases hasZ (bz y) 90<;>cases dr' !=0<;>rfl
    rw[eS];refine c_t (by simp) (cond_intro (fun hC=>hn (by rw[←hb,numQ,hA,e1,hC];rfl)) (fun hC cap _=> ?_));obtain⟨v1,v2⟩:=jjn y;have v3:=jc2.2 v1;have g1:=v1.good;have g2:=v1.rlb;have g3:=jbe v1.plain;have g4:∀ps,jat ps (Lib.strCells y)=true:=fun ps=>goodL_plain v1.plain
    simp only[g2];generalize Lib.strCells y=d0 at*;simp only[Int.toNat_zero,List.drop_zero,v2];have eR:jbd dr' f' (bz y) 0=nR (bz y):=by rw[nR,e2,e3]
    rw[eR];have eP:plGo (nR (bz y)) ⟨0,false,0,0,0,0⟩=nP (bz y):=rfl;rw[eP];have hl:=jgj dr' f' (bz y) 0;rw[eR,jax]at hl;refine c_t (by rw[g1,g3];rfl) (c_t ?_ (cond_intro (fun hE=>⟨fun _ hnil=>c_t (by rw[g3];rfl) fun _=> ?_,fun pts' bh' w' dg' q' fm' d' m' cap' r1 r2 r3=> ?_⟩) (fun hE _ _ _ _ _ _ _ d' m' cap' r1=>c_t (by rw[g3,jbe (ja0.1 r1).plain];rfl) fun _=>hn (by rw[←hb,numQ,hA,e1,hC,nPok,hE];rfl))))
    · simp only [S133_0, Rw.oki, Rw.z, List.length_nil, Bool.true_and, jaf, jae];exact⟨v3,jaa ⟨by omega,by omega,by omega,ja3 _,by omega,by omega,by omega,by omega,by omega,by omega,by omega,by omega,by omega,by omega,by omega⟩⟩
    · have:nP (bz y)=(true,⟨0,false,0,0,0,0⟩):=by
        rw[nP,nR,hnil];rfl
      exact hn (by rw[←hb,numQ,hA,e1,hC,nPok,this];rfl)
    have r1:=ja0.1 r1;have hz:=jbi r1;have r2:zc d' m'=nR (bz y):=r2;have pr:=jg8 (nR (bz y)) ⟨0,false,0,0,0,0⟩;rw[eP,r3]at pr;simp only at pr;have hm:m'=y.size:=by rw[←hz,r2,hl]
    refine c_t (by rw[g3,jbe r1.plain];rfl) fun _=>c_t (by cases decide (pts'≤1) <;>cases decide (dg'≥1) <;>cases decide (dg'≤9) <;>simp) ?_
    have ePok:(decide (pts'≤1) && (decide (dg'≥1) && (decide (dg'≤9) &&bif bh' then !decide (fm'>0)else !false)))=nPok (bz y):=by
      rw[nPok,r3];cases bh'<;>rfl
    rw[ePok];refine cond_intro (fun hF=>hn (by rw[←hb,numQ,hA,e1,hC];rw[Bool.not_eq_true']at hF;rw[hF];rfl)) (fun hF=> ?_);have hF:nPok (bz y)=true:=by simpa using hF
    have gd:∀ps,rlbL ps d'=d':=r1.rlb;have gg:∀ps,jat ps d'=true:=r1.good;have gi:=jbe r1.plain;simp only[gd,r2];refine c_t (by rw[gg,gi];rfl) (c_t ?_ (fun lo' hi' h1 h2=>c_t (by rw[gi];rfl) fun _=>c_t (by rw[gg,gi];rfl) (c_t ?_ ?_)))
    · simp only [S134_0, jaf, jae];exact⟨ja0.2 r1,by omega,by omega,by omega,ja3 _,trivial⟩
    · simp only [S134_2, jaf, jae];exact⟨ja0.2 r1,by omega,by omega,by omega,ja3 _,trivial⟩
    have eSt:stP f' lo' hi' (nR (bz y)) 0=nS (bz y):=by rw[nS,e3,jax,h1,h2]
    rw[eSt];refine cond_intro (fun hG=> ?_) (fun hG _=>c_t (by rw[gi];rfl) fun _=>hn (by rw[←hb,numQ,hA,e1,hC,hF,hG];rfl));refine c_t (by rw[gi];rfl) fun _ cap2 _=>c_t (by rw[g4,gg,gi,g3];rfl) (c_t ?_ (fun n' h3=>c_t (by rw[gi,g3];rfl) fun _=> ?_))
    · simp only [S135_0, jaf, jae];exact⟨ja0.2 r1,v3,by omega,by omega,hm,by omega,ja3 _,by omega,by omega⟩
    have sr:=jjs (bz y) (nR (bz y));rw[jax]at sr;rw[Int.zero_add]at h3;rw[w64 (n:=n'+1) (by omega),w64 (n:=w'+2) (by omega)];have eN:nG (bz y) true=n'+1:=by rw[nG,h3];rfl
    refine cond_intro (fun hH => hn (by rw [← hb, numQ, hA, e1, hC, hF, hG, eN]; have : ¬ n' + 1 ≤ 1 := by have := jab hH; omega
                                        rw[jad this];rfl)) (fun hH=> ?_)
    have hq:numQ (jan (bz s)) true=true:=by
      rw[←hb,numQ,hA,e1,hC,hF,hG,eN];have:n'+1≤1:=by have:=jac hH;omega
      rw[jaa this];rfl
    have eF:∀x k c,jie s true x k c=[Value.string s,Value.bool true,Value.int IntKind.i64 (w'+2),Value.int IntKind.i64 dg',Value.int IntKind.i64 q',Value.bool (n'+1==1),Value.slice (some ⟨x,0,some 1⟩) k c,Value.int IntKind.u8 dr',Value.int IntKind.i64 f',Value.bool true,Value.int IntKind.u8 (bif hasZ (bz y) 42 then 42 else 32),Value.int IntKind.i64 fm']:=fun x k c=>by
      rw[jie,←hb,r3,e2,e3,eN];rfl
    have hf:=hy hq;simp only[eF,ji9,←hb]at hf;apply cond_intro<;>intro hI
    · rw [hI] at hf;refine c_t (r1.ask (k:=2) (by omega)) (fun cap3 tail ht=> ?_);obtain⟨a1,a2⟩:=r1.app [4,4] ht;rw[Nat.mul_one];exact hf _ _ _ _ a1 (a2.trans (by rw[r2];rfl))
    · rw [hI] at hf;refine c_t (r1.ask (k:=2) (by omega)) (fun cap3 tail ht=> ?_);obtain⟨a1,a2⟩:=r1.app [4,4] ht;rw[Nat.mul_one];exact hf _ _ _ _ a1 (a2.trans (by rw[r2];rfl))
  · rw [hcr] at hn hy;have hb:bz s=jan (bz s):=by rw[jg0 hcr];rfl
    have hay:=ha;have k1:bz ⟨#[65,88,67,68]⟩=[65,88,67,68]:=rfl;have k2:(bz ⟨#[42]⟩).getD 0 0=42:=rfl;have k3:(bz ⟨#[90]⟩).getD 0 0=90:=rfl;rw[k1,k2,k3];have ey:=hb;refine c_t (by rw[jaa (show s.size≤1000 by omega),hay];rfl) (cond_intro (fun hA=>hn (by rw[←hb];simp only[numQ,hA,Bool.not_true,Bool.false_and])) (fun hA=>c_t ?_ (cond_intro (fun hB dr' f' hD x=> ?_) (fun hB _ _ _ _=>hn (by rw[←hb,numQ,nD,hB,hA];rfl)))))
    · simp only [S131_0, jae];exact⟨ja3 4,by omega,by omega,by omega,by omega,by omega⟩
    have hD':nD (bz s)=(true,dr',f'):=hD;have e1:(nD (bz s)).1=true:=by rw[hD']
    have e2:(nD (bz s)).2.1=dr':=by rw[hD']
    have e3:(nD (bz s)).2.2=f':=by rw[hD']
    have eS:(bif hasZ (bz s) 42 then hasZ (bz s) 90 || bif hasZ (bz s) 42 then dr' !=0 else hasZ (bz s) 90&&dr' !=0 else bif hasZ (bz s) 42 then dr' !=0 else hasZ (bz s) 90&&dr' !=0)=nSt (bz s):=by
      rw[nSt,e2];cases hasZ (bz s) 42<;>cases hasZ (bz s) 90<;>cases dr' !=0<;>rfl
    rw[eS];refine c_t (by simp) (cond_intro (fun hC=>hn (by rw[←hb,numQ,hA,e1,hC];rfl)) (fun hC cap _=> ?_));obtain⟨v1,v2⟩:=jjn s;have v3:=jc2.2 v1;have g1:=v1.good;have g2:=v1.rlb;have g3:=jbe v1.plain;have g4:∀ps,jat ps (Lib.strCells s)=true:=fun ps=>goodL_plain v1.plain
    simp only[g2];generalize Lib.strCells s=d0 at*;simp only[Int.toNat_zero,List.drop_zero,v2];have eR:jbd dr' f' (bz s) 0=nR (bz s):=by rw[nR,e2,e3]
    rw[eR];have eP:plGo (nR (bz s)) ⟨0,false,0,0,0,0⟩=nP (bz s):=rfl;rw[eP];have hl:=jgj dr' f' (bz s) 0;rw[eR,jax]at hl;refine c_t (by rw[g1,g3];rfl) (c_t ?_ (cond_intro (fun hE=>⟨fun _ hnil=>c_t (by rw[g3];rfl) fun _=> ?_,fun pts' bh' w' dg' q' fm' d' m' cap' r1 r2 r3=> ?_⟩) (fun hE _ _ _ _ _ _ _ d' m' cap' r1=>c_t (by rw[g3,jbe (ja0.1 r1).plain];rfl) fun _=>hn (by rw[←hb,numQ,hA,e1,hC,nPok,hE];rfl))))
    · simp only [S133_0, Rw.oki, Rw.z, List.length_nil, Bool.true_and, jaf, jae];exact⟨v3,jaa ⟨by omega,by omega,by omega,ja3 _,by omega,by omega,by omega,by omega,by omega,by omega,by omega,by omega,by omega,by omega,by omega⟩⟩
    · have:nP (bz s)=(true,⟨0,false,0,0,0,0⟩):=by
        rw[nP,nR,hnil];rfl
      exact hn (by rw[←hb,numQ,hA,e1,hC,nPok,this];rfl)
    have r1:=ja0.1 r1;have hz:=jbi r1;have r2:zc d' m'=nR (bz s):=r2;have pr:=jg8 (nR (bz s)) ⟨0,false,0,0,0,0⟩;rw[eP,r3]at pr;simp only at pr;have hm:m'=s.size:=by rw[←hz,r2,hl]
    refine c_t (by rw[g3,jbe r1.plain];rfl) fun _=>c_t (by cases decide (pts'≤1) <;>cases decide (dg'≥1) <;>cases decide (dg'≤9) <;>simp) ?_
    have ePok:(decide (pts'≤1) && (decide (dg'≥1) && (decide (dg'≤9) &&bif bh' then !decide (fm'>0)else !false)))=nPok (bz s):=by
      rw[nPok,r3];cases bh'<;>rfl
    rw[ePok];refine cond_intro (fun hF=>hn (by rw[←hb,numQ,hA,e1,hC];rw[Bool.not_eq_true']at hF;rw[hF];rfl)) (fun hF=> ?_);have hF:nPok (bz s)=true:=by simpa using hF
    have gd:∀ps,rlbL ps d'=d':=r1.rlb;have gg:∀ps,jat ps d'=true:=r1.good;have gi:=jbe r1.plain;simp only[gd,r2];refine c_t (by rw[gg,gi];rfl) (c_t ?_ (fun lo' hi' h1 h2=>c_t (by rw[gi];rfl) fun _=>c_t (by rw[gg,gi];rfl) (c_t ?_ ?_)))
    · simp only [S134_0, jaf, jae];exact⟨ja0.2 r1,by omega,by omega,by omega,ja3 _,trivial⟩
    · simp only [S134_2, jaf, jae];exact⟨ja0.2 r1,by omega,by omega,by omega,ja3 _,trivial⟩
    have eSt:stP f' lo' hi' (nR (bz s)) 0=nS (bz s):=by rw[nS,e3,jax,h1,h2]
    rw[eSt];refine cond_intro (fun hG=> ?_) (fun hG _=>c_t (by rw[gi];rfl) fun _=>hn (by rw[←hb,numQ,hA,e1,hC,hF,hG];rfl));refine c_t (by rw[gi];rfl) fun _ cap2 _=>c_t (by rw[g4,gg,gi,g3];rfl) (c_t ?_ (fun n' h3=>c_t (by rw[gi,g3];rfl) fun _=> ?_))
    · simp only [S135_0, jaf, jae];exact⟨ja0.2 r1,v3,by omega,by omega,hm,by omega,ja3 _,by omega,by omega⟩
    have sr:=jjs (bz s) (nR (bz s));rw[jax]at sr;rw[Int.zero_add]at h3;have eN:nG (bz s) false=n':=by rw[nG,h3];exact Int.add_zero _
    refine cond_intro (fun hH => hn (by rw [← hb, numQ, hA, e1, hC, hF, hG, eN]; have : ¬ n' ≤ 1 := by have := jab hH; omega
                                        rw[jad this];rfl)) (fun hH=> ?_)
    have hq:numQ (jan (bz s)) false=true:=by
      rw[←hb,numQ,hA,e1,hC,hF,hG,eN];have:n'≤1:=by have:=jac hH;omega
      rw[jaa this];rfl
    have eF:∀x k c,jie s false x k c=[Value.string s,Value.bool true,Value.int IntKind.i64 w',Value.int IntKind.i64 dg',Value.int IntKind.i64 q',Value.bool (n'==1),Value.slice (some ⟨x,0,some 1⟩) k c,Value.int IntKind.u8 dr',Value.int IntKind.i64 f',Value.bool false,Value.int IntKind.u8 (bif hasZ (bz s) 42 then 42 else 32),Value.int IntKind.i64 fm']:=fun x k c=>by
      rw[jie,←hb,r3,e2,e3,eN,cond_false,Int.add_zero]
    have hf:=hy hq;simp only[eF,ji9,←hb]at hf;apply cond_intro<;>intro hI
    · rw [hI] at hf;exact hf _ _ _ _ r1 (by rw[r2];simp)
    · rw [hI] at hf;exact hf _ _ _ _ r1 (by rw[r2];simp)
end Go.Px
end
section
namespace Go.Px
open Go Go.Ab Go.Proofs
theorem last_mem{l:E}{c:Int}:jby l c= -1↔c∉l:=by
 rcases jdz c l with⟨e,h⟩ | ⟨i,hi,e,hc,h⟩
 ·refine⟨fun _ hm=> ?_,fun _=>e⟩;obtain⟨j,hj,hv⟩:=List.mem_iff_getElem.1 hm;exact h j hj (by rw[List.getD_eq_getElem?_getD,List.getElem?_eq_getElem hj];exact hv)
 ·refine⟨fun q=>by omega,fun q=>absurd ?_ q⟩;rw[List.getD_eq_getElem?_getD,List.getElem?_eq_getElem hi]at hc;exact hc▸List.getElem_mem hi
def flg(s:E)(c:Int):Bool:=hasZ [36,83,43,45] c&&decide (2≤cntZ s c)
theorem jgy(s:E)(dr:Int):∀(r:E)(i f l:Int),(df1 s dr r i f l).1=r.all fun c=>c==dr || !flg s c
 | [],_,_,_=>rfl
 | c::r,i,f,l=>by
  rw[df1,List.all_cons];cases h:c==dr with
  | true=>rw[cond_true,jgy s dr r];rfl
  | false=>
   rw[cond_false];have e:(hasZ [36,83,43,45] c&&decide (2≤cntZ s c))=flg s c:=rfl;rw[e];cases flg s c with
   | true=>rfl
   | false=>rw[cond_false,jgy s dr r];rfl
theorem jjz(s:E)(dr:Int):∀(r:E)(i f l:Int),0≤i→(df1 s dr r i f l).1=true→
  (df1 s dr r i f l).2.1=(if f<0 then(if dr∈r then i+idxZ r dr else f)else f)∧(df1 s dr r i f l).2.2=(if dr∈r then i+jby r dr else l)
 | [],i,f,l,_,_=>by simp[df1]
 | c::r,i,f,l,hi,h=>by
  rw[df1]at h ⊢;have hlr:=last_mem (l:=r) (c:=dr);cases hc:c==dr with
  | true=>
   have hc':c=dr:=eq_of_beq hc;rw[hc,cond_true]at h;rw[cond_true];obtain⟨q1,q2⟩:=jjz s dr r _ _ _ (by omega) h;rw[q1,q2,hc'];have h1:¬(if f<0 then i else f)<0:=by split<;>omega
   rw[if_neg h1,if_pos (List.mem_cons_self ..),if_pos (List.mem_cons_self ..),idxZ,if_pos rfl,jby];refine⟨by split<;>omega,?_⟩;by_cases hm:dr∈r
   ·rw[if_pos hm,if_neg (fun q=>hlr.1 q hm)];omega
   ·rw[if_neg hm,if_pos (hlr.2 hm),if_pos rfl];omega
  | false=>
   have hc':¬c=dr:=by simpa using hc
   rw[hc,cond_false]at h;rw[cond_false];cases hf:(hasZ [36,83,43,45] c&&decide (2≤cntZ s c))with
   | true=>rw[hf]at h;cases h
   | false=>
    rw[hf,cond_false]at h;rw[cond_false];obtain⟨q1,q2⟩:=jjz s dr r _ _ _ (by omega) h
    have hmm:dr∈c::r↔dr∈r:=by
     rw[List.mem_cons];exact⟨fun q=>q.resolve_left fun e=>hc' e.symm,.inr⟩
    rw[q1,q2];simp only[hmm,idxZ,jby,if_neg hc'];by_cases hm:dr∈r
    ·have i1:=jfl dr hm;rw[if_pos hm,if_pos hm,if_pos hm,if_pos hm,if_neg (show¬idxZ r dr= -1 by omega),if_neg (fun q=>hlr.1 q hm)];exact⟨by split<;>omega,by omega⟩
    ·rw[if_neg hm,if_neg hm,if_neg hm,if_neg hm];exact⟨rfl,rfl⟩
theorem d2_app(dr f:Int):∀(x y:E)(i:Int),d2Go dr f (x++y) i=(d2Go dr f x i&&d2Go dr f y (i+x.length))
 | [],y,i=>by simp[d2Go]
 | c::x,y,i=>by
  rw[List.cons_append,d2Go,d2Go,d2_app dr f x y,List.length_cons,Bool.and_assoc,Bool.and_assoc];congr 4;omega
theorem d2_before(dr f:Int):∀(r:E)(i:Int),i+r.length≤f→d2Go dr f r i= !hasZ r 86
 | [],_,_=>rfl
 | c::r,i,h=>by
  rw[List.length_cons]at h;rw[d2Go,d2_before dr f r (i+1) (by omega),jaa (show i<f by omega),jad (show¬i>f by omega)];simp only[hasZ,List.any_cons,Bool.true_and,Bool.false_and,Bool.not_false,Bool.not_or]
theorem d2_after(dr f:Int):∀(r:E)(i:Int),f<i→d2Go dr f r i=drP dr r
 | [],_,_=>rfl
 | c::r,i,h=>by
  rw[d2Go,d2_after dr f r (i+1) (by omega),jad (show¬i<f by omega),jaa (show i>f by omega)];simp only[drP,List.all_cons,Bool.true_and,Bool.false_and,Bool.not_false,Bool.not_and,Bool.not_not,bne];rfl
theorem take_split(b:E){f l:Nat}(h:f≤l):b.take l=b.take f++(b.take l).drop f:=by
 have:=List.take_append_drop f (b.take l);rw[List.take_take,Nat.min_eq_left h]at this;exact this.symm
theorem drop_take_cons(b:E){f l:Nat}(h:f<l)(hb:f<b.length):(b.take l).drop f=b.getD f 0::(b.take l).drop (f+1):=by
 rw[jel (b.take l) f (by rw[List.length_take];omega)];congr 1;simp only[List.getD_eq_getElem?_getD,List.getElem?_take];rw[if_pos h]
theorem idx_get(c:Int):∀{l:E},c∈l→l.getD (idxZ l c).toNat 0=c
 | b::l,h=>by
  simp only[idxZ];by_cases hb:b=c
  ·rw[if_pos hb];simpa using hb
  ·rw[if_neg hb];have hm:c∈l:=by rcases List.mem_cons.1 h with q | q;exact absurd q.symm hb;exact q
   have:=jfl c hm;rw[if_neg (by omega),show(idxZ l c+1).toNat=(idxZ l c).toNat+1 by omega,List.getD_cons_succ];exact idx_get c hm
theorem last_get(c:Int){l:E}(h:c∈l):l.getD (jby l c).toNat 0=c:=by
 rcases jdz c l with⟨e,_⟩ | ⟨i,hi,e,hc,_⟩
 ·exact absurd h (last_mem.1 e)
 ·rw[e];exact hc
theorem take_snoc(b:E){l:Nat}(h:l<b.length):b.take (l+1)=b.take l++ [b.getD l 0]:=by
 rw[List.take_add_one,List.getD_eq_getElem?_getD,List.getElem?_eq_getElem h];rfl
theorem d2_drC{b:E}{c:Int}(h:c∈b):d2Go c (idxZ b c) (b.take (jby b c).toNat) 0=drC b c:=by
 have i1:=jfl c h;have i2:=jhs c h;have i3:=jho b c;have g1:=idx_get c h;have g2:=last_get c h;obtain⟨f,hf⟩:∃f:Nat,idxZ b c=f:=⟨(idxZ b c).toNat,by omega⟩
 obtain⟨l,hl⟩:∃l:Nat,jby b c=l:=⟨(jby b c).toNat,by omega⟩
 unfold drC;rw[hf]at i1 i2 g1;rw[hl]at i2 i3 g2;rw[hf,hl];rw[Int.toNat_natCast]at g1 g2 ⊢;rw[Int.toNat_natCast];rw[show((l:Int)+1).toNat=l+1 by omega,take_snoc b (by omega),g2,List.drop_append_of_le_length (by rw[List.length_take];omega)];rw[take_split b (show f≤l by omega),d2_app,d2_before _ _ _ _ (by rw[List.length_take];omega)];congr 1
 ·rw[←take_split b (show f≤l by omega)];rw[List.length_take,Nat.min_eq_left (by omega)]
  have hs:drP c ((b.take l).drop f++ [c])=drP c ((b.take l).drop f):=by
   simp[drP]
  rw[hs];by_cases hfl:f<l
  ·rw[drop_take_cons b hfl (by omega),g1,d2Go,d2_after _ _ _ _ (by omega)];simp[drP]
  ·rw[List.drop_eq_nil_of_le (by rw[List.length_take];omega)];rfl
theorem jhw{b:E}{d f:Int}:∀{cs:E},(∀c∈cs,(cntZ b c:Int)<2)→jef cs b d f=(true,d,f)
 | [],_=>rfl
 | c::cs,h=>by
  rw[jef,jaa (h c (List.mem_cons_self ..)),cond_true];exact jhw fun x hx=>h x (List.mem_cons_of_mem _ hx)
theorem drf_many{b:E}{d f:Int}(hd:d≠0):∀{cs:E},(∃c∈cs,¬(cntZ b c:Int)<2)→(jef cs b d f).1=false
 | c::cs,h=>by
  rw[jef];cases hc:decide ((cntZ b c:Int)<2)with
  | true=>
   rw[cond_true];refine drf_many hd ?_;obtain⟨x,hx,hxc⟩:=h;rcases List.mem_cons.1 hx with rfl | hx
   ·exact absurd (jab hc) hxc
   ·exact⟨x,hx,hxc⟩
  | false=>
   rw[cond_false];have:(d !=0)=true:=by simpa using hd
   rw[this];rfl
 | [],⟨_,h,_⟩=>by cases h
theorem drf_two{b:E}{d f:Int}:∀{cs:E}{c1 c2:Int},(∀c∈cs,c≠0)→c1∈cs→c2∈cs→c1≠c2→ ¬(cntZ b c1:Int)<2→ ¬(cntZ b c2:Int)<2→(jef cs b d f).1=false
 | c::cs,c1,c2,h0,m1,m2,hne,h1,h2=>by
  rw[jef];cases hc:decide ((cntZ b c:Int)<2)with
  | true=>
   have hc:=jab hc;rw[cond_true];refine drf_two (fun x hx=>h0 x (List.mem_cons_of_mem _ hx)) ?_ ?_ hne h1 h2
   ·rcases List.mem_cons.1 m1 with rfl | q
    ·exact absurd hc h1
    ·exact q
   ·rcases List.mem_cons.1 m2 with rfl | q
    ·exact absurd hc h2
    ·exact q
  | false=>
   rw[cond_false];cases d !=0 with
   | true=>rfl
   | false=>
    rw[cond_false];cases drC b c with
    | false=>rfl
    | true=>
     rw[cond_true];refine drf_many (h0 c (List.mem_cons_self ..)) ?_;by_cases e:c1=c
     ·rcases List.mem_cons.1 m2 with q | q
      ·exact absurd (e.trans q.symm) hne
      ·exact⟨c2,q,h2⟩
     ·rcases List.mem_cons.1 m1 with q | q
      ·exact absurd q e
      ·exact⟨c1,q,h1⟩
theorem drf_one{b:E}{f:Int}:∀{cs:E}{c:Int},cs.Nodup→c∈cs→ ¬(cntZ b c:Int)<2→(∀x∈cs,x≠c→(cntZ b x:Int)<2)→jef cs b 0 f=bif drC b c then(true,c,idxZ b c)else(false,0,0)
 | x::cs,c,hn,hm,h1,h2=>by
  have hn':=List.nodup_cons.1 hn;rw[jef];by_cases e:x=c
  ·subst e;rw[jad h1,cond_false];have:((0:Int) !=0)=false:=rfl;rw[this,cond_false];cases drC b x with
   | false=>rfl
   | true=>
    rw[cond_true,cond_true];exact jhw fun y hy=>h2 y (List.mem_cons_of_mem _ hy) fun q=>hn'.1 (q▸hy)
  ·rw[jaa (h2 x (List.mem_cons_self ..) e),cond_true];exact drf_one hn'.2 (by rcases List.mem_cons.1 hm with q | q;exact absurd q.symm e;exact q) h1 fun y hy=>h2 y (List.mem_cons_of_mem _ hy)
theorem jgx(s:E):∀r:E,drGo s r=0∨(flg s (drGo s r)=true∧drGo s r∈r)
 | []=> .inl rfl
 | c::r=>by
  rw[drGo];split
  ·rename_i h;exact .inr ⟨by simp only[flg,jaf,jae];exact h,List.mem_cons_self ..⟩
  ·rcases jgx s r with h | ⟨h1,h2⟩
   ·exact .inl h
   ·exact .inr ⟨h1,List.mem_cons_of_mem _ h2⟩
theorem jiy(s:E){c:Int}(hf:flg s c=true):∀r:E,c∈r→drGo s r≠0
 | x::r,h=>by
  rw[drGo];split
  ·rename_i h;have:hasZ [36,83,43,45] x=true:=h.1;rw[has_dr]at this;omega
  ·rename_i hx;rcases List.mem_cons.1 h with rfl | h
   ·simp only[flg,jaf,jae]at hf;exact absurd hf hx
   ·exact jiy s hf r h
theorem jiw{s:E}{c:Int}(h:c∈ [36,83,43,45]):flg s c=true↔ ¬(cntZ s c:Int)<2:=by
 simp only[flg,jaf,jae,jcl];exact⟨fun q=>by omega,fun q=>⟨h,by omega⟩⟩
theorem jgv{s:E}{c:Int}(h:flg s c=true):c∈ [36,83,43,45]∧ ¬(cntZ s c:Int)<2:=by
 simp only[flg,jaf,jae,jcl]at h;exact⟨h.1,by omega⟩
theorem nD_law(b:E):(nD b).1=jcn b∧(jcn b=true→(nD b).2.1=drZ b∧(nD b).2.2=if drZ b=0 then -1 else idxZ b (drZ b)):=by
 have h4:∀c∈ [36,83,43,(45:Int)],c≠0:=by decide
 by_cases hd:drZ b=0
 ·have hn:nD b=(true,0,-1):=jhw fun c hc=>by
   cases hq:decide ((cntZ b c:Int)<2)with
   | true=>exact jab hq
   | false=>
    have hf:=(jiw hc).2 (jac hq);exact absurd hd (jiy b hf b (jhx (jgv hf).2))
  have hz:jcn b=true:=by rw[jcn,hd];rfl
  rw[hn,hz,hd];exact⟨rfl,fun _=>⟨rfl,rfl⟩⟩
 ·obtain⟨hf,hm⟩:=(jgx b b).resolve_left hd;have hf:flg b (drZ b)=true:=hf;have hm:drZ b∈b:=hm;obtain⟨m1,m2⟩:=jgv hf
  have hz:jcn b=((df1 b (drZ b) b 0 (-1) (-1)).1&&d2Go (drZ b) (df1 b (drZ b) b 0 (-1) (-1)).2.1 (b.take (df1 b (drZ b) b 0 (-1) (-1)).2.2.toNat) 0):=by
   have:(drZ b==0)=false:=by simpa using hd
   rw[jcn,this,Bool.false_or]
  by_cases ho:∃x∈ [36,83,43,(45:Int)],x≠drZ b∧ ¬(cntZ b x:Int)<2
  ·obtain⟨x,x1,x2,x3⟩:=ho;have e1:(nD b).1=false:=drf_two h4 x1 m1 x2 x3 m2
   have e2:(df1 b (drZ b) b 0 (-1) (-1)).1=false:=by
    rw[jgy,List.all_eq_false];refine⟨x,jhx x3,?_⟩;rw[(jiw x1).2 x3];simpa using x2
   rw[hz,e1,e2];exact⟨rfl,fun q=>by cases q⟩
  ·have ho:∀x∈ [36,83,43,(45:Int)],x≠drZ b→(cntZ b x:Int)<2:=fun x x1 x2=>by
    cases hq:decide ((cntZ b x:Int)<2)with
    | true=>exact jab hq
    | false=>exact absurd ⟨x,x1,x2,jac hq⟩ ho
   have e1:nD b=bif drC b (drZ b)then(true,drZ b,idxZ b (drZ b))else(false,0,0):=drf_one (by decide) m1 m2 ho
   have e2:(df1 b (drZ b) b 0 (-1) (-1)).1=true:=by
    rw[jgy,List.all_eq_true];intro x _;by_cases q:x=drZ b
    ·rw[q];simp
    ·have:flg b x=false:=by
      cases hh:flg b x with
      | false=>rfl
      | true=>obtain⟨a1,a2⟩:=jgv hh;exact absurd (ho x a1 q) a2
     rw[this];simp
   obtain⟨q1,q2⟩:=jjz b (drZ b) b 0 (-1) (-1) (by omega) e2;rw[if_pos (by omega),if_pos hm,Int.zero_add]at q1;rw[if_pos hm,Int.zero_add]at q2;rw[hz,e1,e2,q1,q2,d2_drC hm,Bool.true_and];cases drC b (drZ b)with
   | false=>exact⟨rfl,fun q=>by cases q⟩
   | true=>exact⟨rfl,fun _=>⟨rfl,by rw[if_neg hd];rfl⟩⟩
def rmk(r:Int):Int:=[100,99,118,105,115,109].getD r.toNat 0
theorem ro_rng(d f c i:Int):0≤roP d f c i∧roP d f c i≤5:=by
 unfold roP;cases hasZ [57,89,84,73,82] c<;>cases(c==90 || (c==42 || (c==d&&i !=f))) <;>cases c==86<;>cases c==36<;>cases(c==83 || (c==43 || c==45)) <;>simp
theorem idx_app(d:Int):∀x y:E,idxZ (x++y) d=if d∈x then idxZ x d else if d∈y then x.length+idxZ y d else -1
 | [],y=>by
  simp only[List.nil_append,List.not_mem_nil,if_false,List.length_nil];split
  ·omega
  ·rename_i h;have h:¬0≤idxZ y d:=fun q=>h ((jfx d y).2.1 q)
   have:=(jfx d y).1;omega
 | c::x,y=>by
  have ih:=idx_app d x y;rw[List.cons_append,idxZ,idxZ];by_cases hc:c=d
  ·rw[if_pos hc,if_pos hc,if_pos (by rw[hc];exact List.mem_cons_self ..)]
  ·rw[if_neg hc,if_neg hc,ih]
   have hm:d∈c::x↔d∈x:=by
    rw[List.mem_cons];exact⟨fun q=>q.resolve_left fun e=>hc e.symm,.inr⟩
   simp only[hm];by_cases hx:d∈x
   ·rw[if_pos hx,if_pos hx]
   ·rw[if_neg hx,if_neg hx];by_cases hy:d∈y
    ·have:=jfl d hy;rw[if_pos hy,if_pos hy,if_neg (by omega)];simp only[List.length_cons];omega
    ·rw[if_neg hy,if_neg hy,if_pos rfl]
structure DrP (b:E)(d f:Int):Prop where
 zero:∀c∈b,c≠0
 at_:d=0∧f= -1∨d≠0∧d∈b∧f=idxZ b d∧d∈ [36,83,43,(45:Int)]
theorem DrP.eq{b pre r:E}{c d f:Int}(h:DrP b d f)(hb:b=pre++c::r):(c=d∧(pre.length:Int)≠f↔c=d∧d≠0∧d∈pre)∧((pre.length:Int)=f↔c=d∧d∉pre):=by
 have hc0:=h.zero c (by rw[hb];simp);rcases h.at_ with⟨rfl,rfl⟩ | ⟨h1,h2,h3,_⟩
 ·exact⟨⟨fun q=>absurd q.1 hc0,fun q=>absurd q.1 hc0⟩,⟨fun q=>by omega,fun q=>absurd q.1 hc0⟩⟩
 ·rw[hb,idx_app]at h3;by_cases hp:d∈pre
  ·rw[if_pos hp]at h3;have:=jfl d hp;exact⟨⟨fun q=>⟨q.1,h1,hp⟩,fun q=>⟨q.1,by omega⟩⟩,⟨fun q=>by omega,fun q=>absurd hp q.2⟩⟩
  ·rw[if_neg hp]at h3;rw[hb]at h2;have hd:d∈c::r:=by rcases List.mem_append.1 h2 with q | q;exact absurd q hp;exact q
   rw[if_pos hd,idxZ]at h3;by_cases hc:c=d
   ·rw[if_pos hc]at h3;exact⟨⟨fun q=>absurd h3 (by omega),fun q=>absurd q.2.2 hp⟩,⟨fun _=>⟨hc,hp⟩,fun _=>by omega⟩⟩
   ·rw[if_neg hc]at h3;have hr:d∈r:=by rcases List.mem_cons.1 hd with q | q;exact absurd q.symm hc;exact q
    have:=jfl d hr;rw[if_neg (by omega)]at h3;exact⟨⟨fun q=>absurd q.1 hc,fun q=>absurd q.1 hc⟩,⟨fun q=>by omega,fun q=>absurd q.1 hc⟩⟩
theorem mk_ro{b pre r:E}{c d f:Int}(h:DrP b d f)(hb:b=pre++c::r):rmk (roP d f c pre.length)=mk1 d (d !=0&&decide (d∈pre)) c:=by
 have e:(c==90 || (c==42 || (c==d&& (pre.length:Int) !=f)))=(hasZ [90,42] c || (d !=0&& (c==d&& (d !=0&&decide (d∈pre))))):=by
  have:=(h.eq hb).1;rw[Bool.eq_iff_iff];simp only[Bool.or_eq_true,jaf,beq_iff_eq,bne_iff_ne,jae,jcl,List.mem_cons,List.not_mem_nil,or_false];rw[this];constructor
  ·rintro (q | q | ⟨q1,q2,q3⟩)
   ·exact .inl (.inl q)
   ·exact .inl (.inr q)
   ·exact .inr ⟨q2,q1,q2,q3⟩
  ·rintro ((q | q) | ⟨q2,q1,_,q3⟩)
   ·exact .inl q
   ·exact .inr (.inl q)
   ·exact .inr (.inr ⟨q1,q2,q3⟩)
 have e2:(c==83 || (c==43 || c==45))=hasZ [83,43,45] c:=by
  rw[Bool.eq_iff_iff];simp only[Bool.or_eq_true,beq_iff_eq,jcl,List.mem_cons,List.not_mem_nil,or_false]
 unfold roP mk1;rw[e,e2];cases hasZ [57,89,84,73,82] c<;>cases(hasZ [90,42] c || (d !=0&& (c==d&& (d !=0&&decide (d∈pre))))) <;>cases c==86<;>cases c==36<;>cases hasZ [83,43,45] c<;>rfl
theorem roles_marks{b:E}{d f:Int}(h:DrP b d f):∀r pre:E,b=pre++r→(jbd d f r pre.length).map rmk=mkGo d (d !=0&&decide (d∈pre)) r
 | [],_,_=>rfl
 | c::r,pre,hb=>by
  rw[jbd,List.map_cons,mkGo,mk_ro h hb];congr 1;have ih:=roles_marks h r (pre++ [c]) (by rw[hb];simp);have e:((pre++ [c]).length:Int)=pre.length+1:=by simp
  have e2:(d !=0&&decide (d∈pre++ [c]))=(d !=0&&decide (d∈pre) || (d !=0&&c==d)):=by
   rw[Bool.eq_iff_iff];simp only[Bool.or_eq_true,jaf,beq_iff_eq,bne_iff_ne,jae,List.mem_append,List.mem_cons,List.not_mem_nil,or_false];constructor
   ·rintro ⟨q,q2 | q2⟩
    ·exact .inl ⟨q,q2⟩
    ·exact .inr ⟨q,q2.symm⟩
   ·rintro (⟨q,q2⟩ | ⟨q,q2⟩)
    ·exact⟨q,.inl q2⟩
    ·exact⟨q,.inr q2.symm⟩
  rw[e,e2]at ih;exact ih
def okR(rs:E):Prop:=∀r∈rs,0≤r∧r≤5
theorem roles_ok(d f:Int):∀(l:E)(i:Int),okR (jbd d f l i)
 | [],_=>fun r h=>by cases h
 | c::l,i=>fun r h=>by
  rw[jbd]at h;rcases List.mem_cons.1 h with rfl | h
  ·exact ro_rng _ _ _ _
  ·exact roles_ok d f l _ r h
theorem jgk{r:Int}(h:0≤r∧r≤5):r=0∨r=1∨r=2∨r=3∨r=4∨r=5:=by omega
def qgo:E→Int→Int
 | [],_=>0
 | m::r,p=>bif m==118 then qgo r (p+1)else(bif isP m then p else 0)+qgo r p
theorem jjt:∀(rs:E)(a:PlS),okR rs→0≤a.pts→0≤a.fm→
  (plGo rs a).1=(ldGo (rs.map rmk) (decide (a.fm>0)) a.bh (decide (a.pts>0)) a.dg).1∧
  ((plGo rs a).1 = true → (plGo rs a).2.dg = (ldGo (rs.map rmk) (decide (a.fm>0)) a.bh (decide (a.pts>0)) a.dg).2.2.2 ∧ (plGo rs a).2.bh = (ldGo (rs.map rmk) (decide (a.fm>0)) a.bh (decide (a.pts>0)) a.dg).2.2.1 ∧
   decide ((plGo rs a).2.fm>0)=(ldGo (rs.map rmk) (decide (a.fm>0)) a.bh (decide (a.pts>0)) a.dg).2.1∧(plGo rs a).2.pts=a.pts+cntZ (rs.map rmk) 118∧(plGo rs a).2.w=a.w+nv (rs.map rmk)∧
   (plGo rs a).2.q=a.q+qgo (rs.map rmk) a.pts∧(plGo rs a).2.fm=a.fm+cntZ (rs.map rmk) 100)
 | [],a,_,_,_=>by simp[plGo,ldGo,cntZ,nv,qgo]
 | r::rs,a,hok,hp,hf=>by
  have hr:=hok r (List.mem_cons_self ..);have hrs:okR rs:=fun x hx=>hok x (List.mem_cons_of_mem _ hx)
  have i1:=jjt rs ⟨a.pts+1,a.bh,a.w,a.dg,a.q,a.fm⟩ hrs (by simp only;omega) hf;have i2:=jjt rs ⟨a.pts,a.bh,a.w+1,a.dg+1,a.q+a.pts,a.fm+1⟩ hrs hp (by simp only;omega);have i3:=jjt rs ⟨a.pts,a.bh || decide (a.pts>0),a.w+1,a.dg+1,a.q+a.pts,a.fm⟩ hrs hp hf;have i4:=jjt rs ⟨a.pts,a.bh,a.w+1,a.dg,a.q,a.fm⟩ hrs hp hf
  have cc:∀(m x:Int),(cntZ (m::rs.map rmk) x:Int)=(if m=x then 1 else 0)+cntZ (rs.map rmk) x:=fun m x=>by
   unfold cntZ;rw[List.filter_cons];by_cases h:m=x
   ·rw[if_pos (by simpa using h),if_pos h,List.length_cons];omega
   ·rw[if_neg (by simpa using h),if_neg h];omega
  have cn:∀m:Int,(nv (m::rs.map rmk):Int)=(if m=118 then 0 else 1)+nv (rs.map rmk):=fun m=>by
   rw[nv_cons];split<;>omega
  rw[List.map_cons,cc,cc,cn];rcases jgk hr with rfl | rfl | rfl | rfl | rfl | rfl
  ·have e:rmk 0=100:=rfl;rw[e];simp only[jaa (show a.fm+1>0 by omega)]at i2;refine⟨i2.1,fun h=> ?_⟩;obtain⟨q1,q2,q3,q4,q5,q6,q7⟩:=i2.2 h;refine⟨q1,q2,q3,?_,?_,?_,?_⟩
   ·exact q4.trans (by simp)
   ·exact q5.trans (by simp;omega)
   ·refine q6.trans ?_;show a.q+a.pts+qgo (rs.map rmk) a.pts=a.q+(a.pts+qgo (rs.map rmk) a.pts)
    omega
   ·exact q7.trans (by simp;omega)
  ·have e:rmk 1=99:=rfl;rw[e];have e1:plGo (1::rs) a=bif decide (a.fm>0)then(false,a)else plGo rs ⟨a.pts,a.bh || decide (a.pts>0),a.w+1,a.dg+1,a.q+a.pts,a.fm⟩:=rfl;have e2:ldGo (99::rs.map rmk) (decide (a.fm>0)) a.bh (decide (a.pts>0)) a.dg=bif decide (a.fm>0)then(false,false,false,0)else ldGo (rs.map rmk) (decide (a.fm>0)) (a.bh || decide (a.pts>0)) (decide (a.pts>0)) (a.dg+1):=rfl;rw[e1,e2];cases hd:decide (a.fm>0)with
   | true=>exact⟨rfl,fun h=>by cases h⟩
   | false=>
    simp only[hd]at i3;refine⟨i3.1,fun h=> ?_⟩;obtain⟨q1,q2,q3,q4,q5,q6,q7⟩:=i3.2 h;refine⟨q1,q2,q3,?_,?_,?_,?_⟩
    ·exact q4.trans (by simp)
    ·exact q5.trans (by simp;omega)
    ·refine q6.trans ?_;show a.q+a.pts+qgo (rs.map rmk) a.pts=a.q+(a.pts+qgo (rs.map rmk) a.pts)
     omega
    ·exact q7.trans (by simp)
  ·have e:rmk 2=118:=rfl;rw[e];simp only[jaa (show a.pts+1>0 by omega)]at i1;refine⟨i1.1,fun h=> ?_⟩;obtain⟨q1,q2,q3,q4,q5,q6,q7⟩:=i1.2 h;refine⟨q1,q2,q3,?_,?_,q6,?_⟩
   ·exact q4.trans (by simp;omega)
   ·exact q5.trans (by simp)
   ·exact q7.trans (by simp)
  all_goals
   refine⟨i4.1,fun h=> ?_⟩;obtain⟨q1,q2,q3,q4,q5,q6,q7⟩:=i4.2 h;refine⟨q1,q2,q3,?_,?_,?_,?_⟩
   ·exact q4.trans (by simp[rmk])
   ·exact q5.trans (by simp[rmk];omega)
   ·refine q6.trans ?_;show a.q+qgo (rs.map rmk) a.pts=a.q+(0+qgo (rs.map rmk) a.pts)
    omega
   ·exact q7.trans (by simp[rmk])
theorem ro_isJ{b pre r:E}{c d f:Int}(h:DrP b d f)(hb:b=pre++c::r):(rmk (roP d f c pre.length)==100 || (rmk (roP d f c pre.length)==99 || c==d))=(roP d f c pre.length==0 || (roP d f c pre.length==1 || (pre.length:Int)==f)):=by
 obtain⟨h1,h2⟩:=h.eq hb;have hr:=ro_rng d f c pre.length
 have e100:(rmk (roP d f c pre.length)==100)=(roP d f c pre.length==0):=by
  rcases jgk hr with q | q | q | q | q | q<;>rw[q] <;>rfl
 have e99:(rmk (roP d f c pre.length)==99)=(roP d f c pre.length==1):=by
  rcases jgk hr with q | q | q | q | q | q<;>rw[q] <;>rfl
 rw[e100,e99];by_cases hf:(pre.length:Int)=f
 ·obtain⟨q1,_⟩:=h2.1 hf;have a1:((pre.length:Int)==f)=true:=by simpa using hf
  have a2:(c==d)=true:=by simpa using q1
  rw[a1,a2]
 ·have a1:((pre.length:Int)==f)=false:=by simpa using hf
  rw[a1];by_cases hc:c=d
  ·-- then a leader
   by_cases h0:(roP d f c pre.length==0)=true
   ·rw[h0];rfl
   ·have hl:roP d f c pre.length=1:=by
     have e:(c==90 || (c==42 || (c==d&& (pre.length:Int) !=f)))=true:=by
      have a3:((pre.length:Int) !=f)=true:=by simpa using hf
      have a2:(c==d)=true:=by simpa using hc
      rw[a2,a3];simp
     unfold roP at h0 ⊢;rw[e]at h0 ⊢;cases hq:hasZ [57,89,84,73,82] c with
     | true=>rw[hq]at h0;exact absurd rfl h0
     | false=>rfl
    rw[hl];simp
  ·have a2:(c==d)=false:=by simpa using hc
   rw[a2]
theorem st_in{b:E}{d f x:Int}(h:DrP b d f):∀(r pre:E)(lo hi:Int),b=pre++r→
  stIn d x r ((jbd d f r pre.length).map rmk) pre.length (decide (lo<x)) (decide (hi>x))=(decide (loGo f (jbd d f r pre.length) pre.length lo<x),decide (hiGo f (jbd d f r pre.length) pre.length hi>x))
 | [],pre,lo,hi,_=>by simp[stIn,jbd,loGo,hiGo]
 | c::r,pre,lo,hi,hb=>by
  have ih:=fun lo hi=>st_in (x:=x) h r (pre++ [c]) lo hi (by rw[hb];simp)
  have e:((pre++ [c]).length:Int)=pre.length+1:=by simp
  rw[e]at ih;rw[jbd,List.map_cons,stIn,loGo,hiGo,ro_isJ h hb];cases(roP d f c pre.length==0 || (roP d f c pre.length==1 || (pre.length:Int)==f))with
  | false=>rw[cond_false,cond_false,cond_false,ih]
  | true=>
   rw[cond_true,cond_true,cond_true,←ih]
   have e1:(decide (lo<x) || decide ((pre.length:Int)<x))=decide (imin lo pre.length<x):=by
    rw[Bool.eq_iff_iff];simp only[Bool.or_eq_true,jae];unfold imin;split<;>omega
   have e2:(decide (hi>x) || decide ((pre.length:Int)>x))=decide (imax hi pre.length>x):=by
    rw[Bool.eq_iff_iff];simp only[Bool.or_eq_true,jae];unfold imax;split<;>omega
   rw[e1,e2]
theorem ro_still{b pre r:E}{c d f:Int}(h:DrP b d f)(hb:b=pre++c::r):((roP d f c pre.length==4 || roP d f c pre.length==5) && (pre.length:Int) !=f)=(hasZ [36,83,43,45] c&& !(c==d)):=by
 obtain⟨h1,h2⟩:=h.eq hb;by_cases hc:c=d
 ·have a2:(c==d)=true:=by simpa using hc
  rw[a2,Bool.not_true,Bool.and_false];by_cases hf:(pre.length:Int)=f
  ·have a1:((pre.length:Int) !=f)=false:=by simpa using hf
   rw[a1,Bool.and_false]
  ·have a3:((pre.length:Int) !=f)=true:=by simpa using hf
   have e:(c==90 || (c==42 || (c==d&& (pre.length:Int) !=f)))=true:=by rw[a2,a3];simp
   unfold roP;rw[e];cases hasZ [57,89,84,73,82] c<;>rfl
 ·have a2:(c==d)=false:=by simpa using hc
  have hf:¬(pre.length:Int)=f:=fun q=>hc (h2.1 q).1
  have a3:((pre.length:Int) !=f)=true:=by simpa using hf
  rw[a2,a3,Bool.and_true,Bool.not_false,Bool.and_true];have e:(c==90 || (c==42 || (c==d&& (pre.length:Int) !=f)))=(c==90 || c==42):=by rw[a2];simp
  unfold roP;rw[e];by_cases m:c∈ [36,83,43,(45:Int)]
  ·have:c=36∨c=83∨c=43∨c=45:=by simpa using m
   rcases this with rfl | rfl | rfl | rfl<;>rfl
  ·have hm:hasZ [36,83,43,45] c=false:=by
    cases q:hasZ [36,83,43,45] c with
    | false=>rfl
    | true=>exact absurd (jcl.1 q) m
   rw[hm];simp only[List.mem_cons,List.not_mem_nil,or_false,not_or]at m;have b1:(c==36)=false:=by simpa using m.1
   have b2:(c==83 || (c==43 || c==45))=false:=by simp[m.2.1,m.2.2.1,m.2.2.2]
   rw[b1,b2];cases hasZ [57,89,84,73,82] c<;>cases(c==90 || c==42) <;>cases c==86<;>rfl
theorem st_law{b ms:E}{d f lo hi:Int}(h:DrP b d f)(hin:∀x:Int,0≤x→x≤b.length→stIn d x b ms 0 false false=(decide (lo<x),decide (hi>x))):∀(r pre:E),b=pre++r→
  stP f lo hi (jbd d f r pre.length) pre.length=stGo d b ms r pre.length
 | [],_,_=>rfl
 | c::r,pre,hb=>by
  have ih:=st_law h hin r (pre++ [c]) (by rw[hb];simp);have e:((pre++ [c]).length:Int)=pre.length+1:=by simp
  rw[e]at ih;have hl:(b.length:Int)=pre.length+1+r.length:=by rw[hb];simp;omega
  rw[jbd,stP,stGo,ih,hin _ (by omega) (by omega)];congr 1;have s:=ro_still h hb
  have e3:((roP d f c pre.length==4 || roP d f c pre.length==5) && ((pre.length:Int) !=f&& (decide ((pre.length:Int)>lo) &&decide ((pre.length:Int)<hi))))=(((roP d f c pre.length==4 || roP d f c pre.length==5) && (pre.length:Int) !=f) && (decide (lo<(pre.length:Int)) &&decide (hi>(pre.length:Int)))):=by
   rw[Bool.and_assoc]
  rw[e3,s];cases hasZ [36,83,43,45] c<;>cases(c==d) <;>rfl
theorem jdr(c x:Int)(l:E):(cntZ (c::l) x:Int)=(if c=x then 1 else 0)+cntZ l x:=by
 unfold cntZ;rw[List.filter_cons];by_cases h:c=x
 ·rw[if_pos (by simpa using h),if_pos h,List.length_cons];omega
 ·rw[if_neg (by simpa using h),if_neg h];omega
theorem has_cons(c x:Int)(l:E):hasZ (c::l) x=(c==x || hasZ l x):=rfl
def sgX(d x:Int)(pre r:E):Int:=if x=d then(if d∈pre then 0 else b2i (hasZ r x))else cntZ r x
theorem jhf{d x c:Int}{pre r:E}:sgX d x pre (c::r)=(if c=x∧ ¬(x=d∧d∈pre)then 1 else 0)+sgX d x (pre++ [c]) r:=by
 unfold sgX;by_cases hx:x=d
 ·rw[if_pos hx,if_pos hx];by_cases hp:d∈pre
  ·have hp2:d∈pre++ [c]:=List.mem_append.2 (.inl hp);rw[if_pos hp,if_pos hp2,if_neg (fun q=>q.2 ⟨hx,hp⟩)];rfl
  ·rw[if_neg hp,has_cons];by_cases hc:c=x
   ·have hp2:d∈pre++ [c]:=List.mem_append.2 (.inr (by rw[hc,hx];exact List.mem_singleton.2 rfl));rw[if_pos ⟨hc,fun q=>hp q.2⟩,if_pos hp2];have:(c==x)=true:=by simpa using hc
    rw[this];rfl
   ·have:(c==x)=false:=by simpa using hc
    have hp2:d∉pre++ [c]:=fun q=>by
     rcases List.mem_append.1 q with q | q
     ·exact hp q
     ·exact hc (by rw[hx];exact(List.mem_singleton.1 q).symm)
    rw[if_neg (fun q=>hc q.1),if_neg hp2,this,Bool.false_or];omega
 ·rw[if_neg hx,if_neg hx,jdr];by_cases hc:c=x
  ·rw[if_pos hc,if_pos ⟨hc,fun q=>hx q.1⟩]
  ·rw[if_neg hc,if_neg (fun q=>hc q.1)]
theorem si_law{b:E}{d f:Int}(h:DrP b d f):∀(r pre:E),b=pre++r→
  siGo r (jbd d f r pre.length)=sgX d 83 pre r+sgX d 43 pre r+sgX d 45 pre r+cntZ r 84+cntZ r 73+cntZ r 82
 | [],pre,_=>by
  have:∀x,sgX d x pre []=0:=fun x=>by unfold sgX;split<;>(try split) <;>rfl
  rw[this,this,this];rfl
 | c::r,pre,hb=>by
  have ih:=si_law h r (pre++ [c]) (by rw[hb];simp);have e:((pre++ [c]).length:Int)=pre.length+1:=by simp
  rw[e]at ih;rw[jbd,siGo,ih,jhf,jhf,jhf,jdr,jdr,jdr]
  have key:(bif roP d f c pre.length==4 || hasZ [84,73,82] c then(1:Int)else 0)=(if c=83∧ ¬((83:Int)=d∧d∈pre)then 1 else 0)+(if c=43∧ ¬((43:Int)=d∧d∈pre)then 1 else 0)+(if c=45∧ ¬((45:Int)=d∧d∈pre)then 1 else 0)+(if c=84 then 1 else 0)+(if c=73 then 1 else 0)+(if c=82 then 1 else 0):=by
   obtain⟨h1,h2⟩:=h.eq hb;by_cases m:c=83∨c=43∨c=45
   ·-- a sign
    have hc0:c≠0:=by omega
    have hl:(c=d∧(pre.length:Int)≠f)↔(c=d∧d∈pre):=by
     rw[h1];exact⟨fun q=>⟨q.1,q.2.2⟩,fun q=>⟨q.1,by rw[←q.1];exact hc0,q.2⟩⟩
    by_cases hs:c=d∧d∈pre
    ·have hq:=hl.2 hs;have e1:(c==d&& (pre.length:Int) !=f)=true:=by simpa using hq
     have hr:roP d f c pre.length=1:=by
      unfold roP;rw[e1];rcases m with rfl | rfl | rfl<;>simp<;>rfl
     rw[hr];rcases m with rfl | rfl | rfl
     ·rw[if_neg (fun q=>q.2 hs)];rfl
     ·rw[if_neg (fun q=>by omega),if_neg (fun q=>q.2 hs)];rfl
     ·rw[if_neg (fun q=>by omega),if_neg (fun q=>by omega),if_neg (fun q=>q.2 hs)];rfl
    ·have hq:¬(c=d∧(pre.length:Int)≠f):=fun q=>hs (hl.1 q)
     have e1:(c==d&& (pre.length:Int) !=f)=false:=by
      cases q:(c==d&& (pre.length:Int) !=f)with
      | false=>rfl
      | true=>exact absurd (by simpa using q) hq
     have hr:roP d f c pre.length=4:=by
      unfold roP;rw[e1];rcases m with rfl | rfl | rfl<;>rfl
     rw[hr];rcases m with rfl | rfl | rfl
     ·rw[if_pos ⟨rfl,hs⟩];rfl
     ·rw[if_neg (fun q=>by omega),if_pos ⟨rfl,hs⟩];rfl
     ·rw[if_neg (fun q=>by omega),if_neg (fun q=>by omega),if_pos ⟨rfl,hs⟩];rfl
   ·have hr:(roP d f c pre.length==4)=false:=by
     have e2:(c==83 || (c==43 || c==45))=false:=by simp;omega
     unfold roP;rw[e2];cases hasZ [57,89,84,73,82] c<;>cases(c==90 || (c==42 || (c==d&& (pre.length:Int) !=f))) <;>cases c==86<;>cases c==36<;>rfl
    rw[hr,Bool.false_or,if_neg (fun q=>by omega),if_neg (fun q=>by omega),if_neg (fun q=>by omega)];by_cases k:c=84∨c=73∨c=82
    ·rcases k with rfl | rfl | rfl<;>rfl
    ·have:hasZ [84,73,82] c=false:=by
      cases q:hasZ [84,73,82] c with
      | false=>rfl
      | true=>rw[jcl]at q;simp at q;omega
     rw[this,if_neg (by omega),if_neg (by omega),if_neg (by omega)];rfl
  rw[key];omega
theorem cnt_app'(a b:E)(c:Int):(cntZ (a++b) c:Int)=cntZ a c+cntZ b c:=by rw[cnt_app];omega
theorem mk_118{dr:Int}(hd:dr=0∨hasZ [36,83,43,45] dr=true):∀(l:E)(seen:Bool),(cntZ (mkGo dr seen l) 118:Int)=cntZ l 86
 | [],_=>rfl
 | c::r,seen=>by
  have hm:=jjv hd seen c;rw[mkGo,jdr,jdr,mk_118 hd r];by_cases h:c=86
  ·rw[if_pos h,if_pos (hm.2 h)]
  ·rw[if_neg h,if_neg fun e=>h (hm.1 e)]
theorem has_cnt{l:E}{c:Int}(h:(cntZ l c:Int)≤1):(cntZ l c:Int)=b2i (hasZ l c):=by
 induction l with
 | nil=>rfl
 | cons x l ih=>
  rw[jdr]at h ⊢;rw[has_cons];by_cases hx:x=c
  ·have:(x==c)=true:=by simpa using hx
   rw[if_pos hx]at h ⊢;rw[this,Bool.true_or];have:(cntZ l c:Int)=0:=by omega
   rw[this];rfl
  ·have:(x==c)=false:=by simpa using hx
   rw[if_neg hx]at h ⊢;rw[this,Bool.false_or,Int.zero_add];exact ih (by omega)
theorem q_law{dr:Int}(hd:dr=0∨hasZ [36,83,43,45] dr=true){l t:E}:∀(r pre:E)(seen:Bool),l=pre++r++t→(cntZ (pre++r) 86:Int)≤1→
  qgo (mkGo dr seen r) (cntZ pre 86)=pqGo l (mkGo dr seen r) pre.length
 | [],_,_,_,_=>rfl
 | c::r,pre,seen,hl,hc=>by
  have ih:=q_law hd (l:=l) (t:=t) r (pre++ [c]) (seen || (dr !=0&&c==dr)) (by rw[hl];simp) (by simpa using hc);have hm:=jjv hd seen c;have e:((pre++ [c]).length:Int)=pre.length+1:=by simp
  have hk:(cntZ pre 86:Int)≤1:=by
   rw[cnt_app']at hc;omega
  have ht:l.take (pre.length:Int).toNat=pre:=by
   rw[hl,Int.toNat_natCast,List.append_assoc];simp
  rw[cnt_app',e]at ih
  have e1:(cntZ [c] 86:Int)=if c=86 then 1 else 0:=by
   have:=jdr c 86 [];rw[this];have:(cntZ [] 86:Int)=0:=rfl;omega
  rw[e1]at ih;rw[mkGo,qgo,pqGo,ht,←ih];by_cases h:c=86
  ·have hm2:=hm.2 h;rw[hm2];have:isP 118=false:=rfl;rw[this,if_pos h];show qgo _ _=0+qgo _ _;rw[Int.zero_add]
  ·have hn:(mk1 dr seen c==118)=false:=by
    cases q:(mk1 dr seen c==118)with
    | false=>rfl
    | true=>exact absurd (hm.1 (eq_of_beq q)) h
   rw[hn,cond_false,if_neg h,Int.add_zero,has_cnt hk];cases isP (mk1 dr seen c) <;>cases hasZ pre 86<;>rfl
theorem pq_app(s:E):∀(a b:E)(i:Int),pqGo s (a++b) i=pqGo s a i+pqGo s b (i+a.length)
 | [],b,i=>by simp[pqGo]
 | m::a,b,i=>by
  rw[List.cons_append,pqGo,pqGo,pq_app s a b,List.length_cons];have:i+1+(a.length:Int)=i+((a.length+1:Nat):Int):=by omega
  rw[this];omega
theorem char_any{l:E}(h:(jan l).any (hasZ [65,88,67,68])=false):je9 l=false:=by
 cases hc:je9 l with
 | false=>rfl
 | true=>
  exfalso;simp only[je9,jaf,List.all_eq_true,Bool.or_eq_true]at hc;obtain⟨h1,h2⟩:=hc
  have hcr:crZ l=false:=by
   cases q:crZ l with
   | false=>rfl
   | true=>
    exfalso;simp only[crZ,jaf,Bool.or_eq_true,jae]at q;rcases q.2 with q | q
    ·have hm:(67:Int)∈l.drop (l.length-2):=by rw[q];simp
     exact absurd (h1 _ (List.mem_of_mem_drop hm)) (by decide)
    ·have hm:(68:Int)∈l.drop (l.length-2):=by rw[q];simp
     exact absurd (h1 _ (List.mem_of_mem_drop hm)) (by decide)
  have hb:jan l=l:=by rw[jg0 hcr];rfl
  rw[hb,List.any_eq_false]at h;rcases h2 with q | q
  ·exact h 65 (jcl.1 q) (by decide)
  ·exact h 88 (jcl.1 q) (by decide)
structure NumL (l:E):Prop where
 drP:DrP (jan l) (drZ (jan l)) (nD (jan l)).2.2
 d:(nD (jan l)).2.1=drZ (jan l)
 roles:(nR (jan l)).map rmk=mkGo (drZ (jan l)) false (jan l)
 ok:okR (nR (jan l))
 w:(nP (jan l)).2.w+(bif crZ l then 2 else 0)=l.length-cntZ l 86
 dg:(nP (jan l)).2.dg=pdGo (jbg l)
 q:(nP (jan l)).2.q=pqGo l (jbg l) 0
 g:nG (jan l) (crZ l)=jc4 l
 fm:(nP (jan l)).2.fm=cntZ (mkGo (drZ (jan l)) false (jan l)) 100
theorem num_law{l:E}(hz:∀c∈jan l,c≠0):numQ (jan l) (crZ l)=numV l∧(numV l=true→NumL l):=by
 cases hA:anyZ (jan l) [65,88,67,68]with
 | true=>
  have hA':(jan l).any (hasZ [65,88,67,68])=true:=hA;have e1:numQ (jan l) (crZ l)=false:=by rw[numQ,hA];rfl
  have e2:numV l=false:=by rw[numV,hA'];cases je9 l<;>rfl
  rw[e1,e2];exact⟨rfl,fun h=>by cases h⟩
 | false=>
  have hA':(jan l).any (hasZ [65,88,67,68])=false:=hA;have hch:=char_any hA';obtain⟨d1,d2⟩:=nD_law (jan l);cases hD:jcn (jan l)with
  | false=>
   have e1:numQ (jan l) (crZ l)=false:=by rw[numQ,d1,hD];simp
   have e2:numV l=false:=by rw[numV,hD];simp
   rw[e1,e2];exact⟨rfl,fun h=>by cases h⟩
  | true=>
   obtain⟨d2,d3⟩:=d2 hD
   have hP:DrP (jan l) (drZ (jan l)) (nD (jan l)).2.2:=by
    refine⟨hz,?_⟩;by_cases h0:drZ (jan l)=0
    ·rw[if_pos h0]at d3;exact .inl ⟨h0,d3⟩
    ·rw[if_neg h0]at d3;obtain⟨f1,f2⟩:=(jgx (jan l) (jan l)).resolve_left h0;exact .inr ⟨h0,f2,d3,(jgv f1).1⟩
   have hd:drZ (jan l)=0∨hasZ [36,83,43,45] (drZ (jan l))=true:=(jix _ _).imp id And.left;have eR:nR (jan l)=jbd (drZ (jan l)) (nD (jan l)).2.2 (jan l) 0:=by rw[nR,d2]
   have hroles:(nR (jan l)).map rmk=mkGo (drZ (jan l)) false (jan l):=by
    have:=roles_marks hP (jan l) [] rfl;rw[eR];simpa using this
   have hok:okR (nR (jan l)):=by rw[eR];exact roles_ok _ _ _ _
   obtain⟨p1,p2⟩:=jjt (nR (jan l)) ⟨0,false,0,0,0,0⟩ hok (by simp only;omega) (by simp only;omega);simp only[hroles]at p1 p2;have z0:decide ((0:Int)>0)=false:=rfl;rw[z0]at p1 p2;rw[mk_118 hd]at p2;have p1:(nP (jan l)).1=(ldGo (mkGo (drZ (jan l)) false (jan l)) false false false 0).1:=p1
   have eSt:nSt (jan l)=(hasZ (jan l) 90&&hasZ (jan l) 42 || (hasZ (jan l) 90 || hasZ (jan l) 42) &&drZ (jan l) !=0):=by
    rw[nSt,d2];cases hasZ (jan l) 42<;>cases hasZ (jan l) 90<;>rfl
   have eS:nS (jan l)=je5 (jan l) (mkGo (drZ (jan l)) false (jan l)):=by
    have hin:∀x:Int,0≤x→x≤(jan l).length→stIn (drZ (jan l)) x (jan l) (mkGo (drZ (jan l)) false (jan l)) 0 false false=
      (decide (loGo (nD (jan l)).2.2 (nR (jan l)) 0 (jan l).length<x),decide (hiGo (nD (jan l)).2.2 (nR (jan l)) 0 (-1)>x)):=fun x h0 h1=>by
     have:=st_in (x:=x) hP (jan l) [] (jan l).length (-1) rfl;rw[jad (show¬((jan l).length:Int)<x by omega),jad (show¬(-1:Int)>x by omega)]at this;rw[←hroles,eR];exact this
    rw[nS,je5];have:=st_law hP hin (jan l) [] rfl;rw[eR];rw[eR]at this;exact this
   have eG:nG (jan l) (crZ l)=jc4 l:=by
    have hs:=si_law hP (jan l) [] rfl
    have one:∀x∈ [36,83,43,(45:Int)],x≠drZ (jan l)→(cntZ (jan l) x:Int)≤1:=fun x hx hne=>by
     cases hq:decide ((cntZ (jan l) x:Int)<2)with
     | true=>have:=jab hq;omega
     | false=>
      have hf:=(jiw hx).2 (jac hq);have hm:=jhx (jgv hf).2;have h0:drZ (jan l)≠0:=jiy (jan l) hf (jan l) hm;have h0':(drZ (jan l)==0)=false:=by simpa using h0
      rw[jcn,h0',Bool.false_or,jaf,jgy,List.all_eq_true]at hD;have:=hD.1 x hm;rw[hf]at this;simp only[Bool.not_true,Bool.or_false,beq_iff_eq]at this;exact absurd this hne
    have sx:∀x∈ [36,83,43,(45:Int)],sgX (drZ (jan l)) x [] (jan l)=b2i (hasZ (jan l) x):=fun x hx=>by
     unfold sgX;split
     ·simp
     ·rename_i hne;exact has_cnt (one x hx hne)
    rw[sx 83 (by simp),sx 43 (by simp),sx 45 (by simp)]at hs;rw[nG,jc4,eR];have hs':siGo (jan l) (jbd (drZ (jan l)) (nD (jan l)).2.2 (jan l) 0)=_:=hs;rw[hs'];cases crZ l<;>simp[b2i] <;>omega
   have eQ:numQ (jan l) (crZ l)=numV l:=by
    rw[numQ,numV,hA,hA',hch,d1,hD,eG,eS,eSt,jfu hA',jed,nPok,p1];cases hl:(ldGo (mkGo (drZ (jan l)) false (jan l)) false false false 0).1 with
    | false=>cases hasZ (jan l) 90<;>cases hasZ (jan l) 42<;>cases drZ (jan l) !=0<;>simp
    | true=>
     obtain⟨g1,g2,g3,g4,g5,g6,g7⟩:=p2 (p1.trans hl);have g1:(nP (jan l)).2.dg=_:=g1;have g2:(nP (jan l)).2.bh=_:=g2;have g3:decide ((nP (jan l)).2.fm>0)=_:=g3;have g4:(nP (jan l)).2.pts=_:=g4;rw[g1,g2,g3,g4];simp only[Int.zero_add];generalize (ldGo (mkGo (drZ (jan l)) false (jan l)) false false false 0).2.2.2=dg;generalize (ldGo (mkGo (drZ (jan l)) false (jan l)) false false false 0).2.2.1=bh;generalize (ldGo (mkGo (drZ (jan l)) false (jan l)) false false false 0).2.1=fm;cases hasZ (jan l) 90<;>cases hasZ (jan l) 42<;>cases drZ (jan l) !=0<;>cases decide ((cntZ (jan l) 86:Int)≤1) <;>cases decide (dg≥1) <;>cases decide (dg≤9) <;>cases bh<;>cases fm<;>cases decide (jc4 l≤1) <;>cases je5 (jan l) (mkGo (drZ (jan l)) false (jan l)) <;>rfl
   refine⟨eQ,fun hV=> ?_⟩;have hN:=numV_iff.1 hV
   have hl:(ldGo (mkGo (drZ (jan l)) false (jan l)) false false false 0).1=true:=by
    have:=hN.ld;unfold jed at this;cases h1:(hasZ (jan l) 90&&hasZ (jan l) 42)with
    | true=>rw[h1]at this;cases this
    | false=>
     rw[h1,cond_false]at this;cases h2:((hasZ (jan l) 90 || hasZ (jan l) 42) &&drZ (jan l) !=0)with
     | true=>rw[h2]at this;cases this
     | false=>
      rw[h2,cond_false]at this;simp only[jaf]at this;exact this.1
   obtain⟨g1,g2,g3,g4,g5,g6,g7⟩:=p2 (p1.trans hl);simp only[Int.zero_add]at g5 g6 g7;have eM:jbg l=mkGo (drZ (jan l)) false (jan l)++(if crZ l=true then [115,115]else []):=rfl;refine⟨hP,d2,hroles,hok,?_,?_,?_,eG,g7⟩
   ·have:=marks_nv l;rw[eM,nv_app]at this;have h5:(nP (jan l)).2.w=_:=g5;rw[h5];cases hc:crZ l with
    | false=>rw[hc]at this;have e0:nv (if(false:Bool)=true then [115,115]else [])=0:=rfl;rw[e0]at this;simp only[cond_false];omega
    | true=>rw[hc]at this;have e0:nv (if(true:Bool)=true then [115,115]else [])=2:=rfl;rw[e0]at this;simp only[cond_true];omega
   ·have h1:(nP (jan l)).2.dg=_:=g1;rw[h1,jia _ _ _ _ _ hl,eM,pd_app];cases crZ l<;>simp[pdGo,isP]
   ·have h6:(nP (jan l)).2.q=_:=g6;rw[h6,eM,pq_app];obtain⟨t,h,ht⟩:=jhz l;have:=q_law hd (l:=l) (t:=t) (jan l) [] false (by simpa using h) (by simpa using hN.one);have e0:((cntZ [] 86:Nat):Int)=0:=rfl;rw[e0]at this;have e1:(([]:E).length:Int)=0:=rfl;rw[e1]at this;rw[this];cases crZ l with
    | false=>simp[pqGo]
    | true=>simp[pqGo,isP]
end Go.Px
end
noncomputable section
namespace Go.Px
open Go Go.Ab Go.Proofs Go.Shelf
section
variable {P : Program} {G : Env} {L : Nat → Option jbr} {f : FuncId} {fn : Func}
theorem gen_newR{h:U→Lk→Nat→(Value→Lk→Nat→Prop)→Prop}(hG:jao P G)(hm:P.follows .mixedOrders=true)(hf:Fn1 P f fn)(hL:LOKf P L fn)
  (H : ∀ args m n K, h args m n K → ∃ (args' : U) (m0 : Lk) (n0 : Nat) (ρ : Nat → Nat) (R : Value → F → Prop), SubM m ρ m0 n0 ∧ (∀ ι : Nm, args'.map (ren fun j => ι (ρ j)) = args.map (ren ι)) ∧ args'.length ≤ fn.ntmps ∧ (∀ v ∈ args', ∀ j ∈ ids v, j<n0) ∧
   jer P G L fn args' m0 n0 (fun v' m' _=>R v' (look m' v'))∧
   ∀v' m',R v' (look m' v')→ ∃v mm nn σ,((∀k b,m k=some b→k<n)→NewM m n m' mm nn σ)∧(∀i∈ids v,n≤i∧i<nn)∧(∀ι' ι'':Nm,(∀i,n≤i→ι'' i=ι' (σ i))→ren ι'' v=ren ι' v')∧K v mm nn):jda P f h:=by
 obtain⟨h1,h2,h3,h4⟩:=hf;cases hb:fn.body with
 | none=>rw[hb]at h2;cases h2
 | some c=>
  simp only[hb]at h4;simp only[LOKf,hb]at hL;refine⟨⟨fn,h1,h3,by rw[hb];rfl⟩,fun args m n K hh N w0 ι w hrel hwf hargs=> ?_⟩;obtain⟨args',m0,n0,ρ,R,hs,ha,hlen,hids,hd,hR⟩:=H _ _ _ _ hh;rw[jer]at hd;rw[←ha ι];refine(jc1 (N:=w.heap.size) (w0:=w) (ι:=fun j=>ι (ρ j)) hG hm h1 hb h4 hL hlen hd (hs.rel hrel) hs.lt hids).mono fun e w' ⟨v',m',n',ι',he,hv',_,_,hm',_,_⟩=> ?_
  obtain⟨v,mm,nn,σ,hn,hvi,hvr,hk⟩:=hR v' m' hv';have hn:=hn fun k b hk=>(hwf k b hk).1
  obtain⟨q1,q2⟩:=hn.rel hrel hwf hm';refine⟨v,mm,nn,_,?_,hk,hn.le,fun k hk=>nmJ_old hk,q1,q2,fun j hj=>(hvi j hj).2⟩;rw[he,hvr ι' _ fun i hi=>nmJ_new hi]
end
theorem jfc(m:Lk)(ρ:Nat→Nat)(n:Nat):SubM m ρ (fun _=>none) n:=⟨fun _ _ h=>(by cases h),fun _ _ h=>(by cases h)⟩
theorem jdp{m:Lk}{n:Nat}(hwf:∀k b,m k=some b→k<n)(m':Lk)(σ:Nat→Nat):NewM m n m' m n σ:=
 ⟨Nat.le_refl _,fun _ _=>rfl,fun j b h hj=>by have:=hwf j b hj;omega,fun j j' b b' h _ hj=>by have:=hwf j b hj;omega⟩
theorem jgq{m:Lk}{n:Nat}(hwf:∀k b,m k=some b→k<n){m':Lk}{a:Nat}{c:U}{ty:TypeId}(ha:m' a=some ⟨c,ty,true⟩)(hc:jav c=true)(hit:Nat.ble itTy ty=false):
  NewM m n m' (m.upd n ⟨c,ty,true⟩) (n+1) (fun _=>a):=by
 have hget:∀j b,n≤j→m.upd n ⟨c,ty,true⟩ j=some b→j=n∧b=⟨c,ty,true⟩:=fun j b hj h=>by
  by_cases e:j=n
  ·subst e;rw[Lk.upd_same]at h;cases h;exact⟨rfl,rfl⟩
  ·rw[Lk.upd_other _ _ e]at h;have:=hwf j b h;omega
 refine⟨by omega,fun j hj=>Lk.upd_other _ _ (by omega),fun j b hj h=> ?_,fun j j' b b' hj hj' h h' hne=> ?_⟩
 ·obtain⟨rfl,rfl⟩:=hget j b hj h;exact⟨by omega,fun i hi=>(by rw[jar hc]at hi;cases hi),rfl,hit,⟨c,ty,true⟩,ha,rfl,rfl,fun ι' ι'' _=>renMap_congr fun k hk=>by rw[jar hc]at hk;cases hk⟩
 ·have e1:=(hget j b hj h).1;have e2:=(hget j' b' hj' h').1;omega
theorem new_form{m:Lk}{n:Nat}(hwf:∀k b,m k=some b→k<n){m':Lk}{a x k cap:Nat}{A B d:U}{ty ty2:TypeId}(ha:m' a=some ⟨A++ .slice (some ⟨x,0,some 1⟩) k cap::B,ty,true⟩)
  (hx:m' x=some ⟨d,ty2,true⟩) (hA:jav A=true) (hB:jav B=true) (hd:jav d=true) (hit:Nat.ble itTy ty=false) (hit2:Nat.ble itTy ty2=false) (hne:a≠x):
  NewM m n m' ((m.upd n ⟨A++ .slice (some ⟨n+1,0,some 1⟩) k cap::B,ty,true⟩).upd (n+1) ⟨d,ty2,true⟩) (n+2) (fun j=>if j=n then a else x):=by
 have hget:∀j b,n≤j→((m.upd n ⟨A++ .slice (some ⟨n+1,0,some 1⟩) k cap::B,ty,true⟩).upd (n+1) ⟨d,ty2,true⟩) j=some b→
   (j=n∧b=⟨A++ .slice (some ⟨n+1,0,some 1⟩) k cap::B,ty,true⟩)∨(j=n+1∧b=⟨d,ty2,true⟩):=fun j b hj h=>by
  by_cases e:j=n+1
  ·subst e;rw[Lk.upd_same]at h;cases h;exact .inr ⟨rfl,rfl⟩
  ·rw[Lk.upd_other _ _ e]at h;by_cases e2:j=n
   ·subst e2;rw[Lk.upd_same]at h;cases h;exact .inl ⟨rfl,rfl⟩
   ·rw[Lk.upd_other _ _ e2]at h;have:=hwf j b h;omega
 have hids:∀y i,i∈idsL (A++Value.slice (some ⟨y,0,some 1⟩) k cap::B)→i=y:=fun y i hi=>by
  obtain⟨v,hv,hi⟩:=jaw.1 hi;rcases List.mem_append.1 hv with hv | hv
  ·rw[jba (jay.1 hA v hv)]at hi;cases hi
  ·rcases List.mem_cons.1 hv with rfl | hv
   ·simpa[ids]using hi
   ·rw[jba (jay.1 hB v hv)]at hi;cases hi
 refine⟨by omega,fun j hj=>by rw[Lk.upd_other _ _ (by omega),Lk.upd_other _ _ (by omega)],fun j b hj h=> ?_,fun j j' b b' hj hj' h h' hn=> ?_⟩
 ·rcases hget j b hj h with⟨rfl,rfl⟩ | ⟨rfl,rfl⟩
  ·refine⟨by omega,fun i hi=>by have:=hids _ i hi;omega,rfl,hit,⟨A++ .slice (some ⟨x,0,some 1⟩) k cap::B,ty,true⟩,by rw[if_pos rfl];exact ha,rfl,rfl,fun ι' ι'' hι=> ?_⟩;rw[List.map_append,List.map_append,List.map_cons,List.map_cons];have e1:A.map (ren ι'')=A.map (ren ι'):=renMap_congr fun k hk=>by rw[jar hA]at hk;cases hk
   have e2:B.map (ren ι'')=B.map (ren ι'):=renMap_congr fun k hk=>by rw[jar hB]at hk;cases hk
   have e3:ι'' (j+1)=ι' x:=by rw[hι (j+1) (by omega),if_neg (by omega)]
   rw[e1,e2];simp[ren,ren1,e3]
  ·refine⟨by omega,fun i hi=>(by rw[jar hd]at hi;cases hi),rfl,hit2,⟨d,ty2,true⟩,(by rw[if_neg (by omega)];exact hx),rfl,rfl,fun ι' ι'' _=>renMap_congr fun k hk=>by rw[jar hd]at hk;cases hk⟩
 ·rcases hget j b hj h with⟨rfl,rfl⟩ | ⟨rfl,rfl⟩ <;>rcases hget j' b' hj' h' with⟨rfl,rfl⟩ | ⟨rfl,rfl⟩
  ·exact absurd rfl hn
  ·rw[if_pos rfl,if_neg (by omega)];exact hne
  ·rw[if_neg (by omega),if_pos rfl];exact hne.symm
  ·exact absurd rfl hn
theorem look_form{m:Lk}{a x k cap:Nat}{c d:U}{ty ty2:TypeId}(hc:c[6]?=some (.slice (some ⟨x,0,some 1⟩) k cap))
  (h:look m (.tuple ⟨[.pointer (some ⟨a,0,some 0⟩),.bool true]⟩)=[some ⟨c,ty,true⟩,some ⟨d,ty2,true⟩]):m a=some ⟨c,ty,true⟩∧m x=some ⟨d,ty2,true⟩:=by
 simp only[look]at h;cases ha:m a with
 | none=>rw[ha]at h;cases h
 | some b=>
  rw[ha]at h;simp only at h;split at h
  ·rename_i a' l' c' hc';simp only[List.cons.injEq,and_true]at h;obtain⟨h1,h2⟩:=h;cases h1;rw[hc]at hc';cases hc';exact⟨rfl,h2⟩
  ·cases h
def frm(l:E)(x k cap:Nat):U:=[.string (sz l),.bool true,.int .i64 (l.length-cntZ l 86),.int .i64 (pdGo (jbg l)),.int .i64 (pqGo l (jbg l) 0),.bool (jc4 l==1)]++
 .slice (some ⟨x,0,some 1⟩) k cap::[.int .u8 (drZ (jan l)),.int .i64 (nD (jan l)).2.2,.bool (crZ l),.int .u8 (fdFl l),.int .i64 (cntZ (mkGo (drZ (jan l)) false (jan l)) 100)]
def rolF(l:E):E:=nR (jan l)++(bif crZ l then [4,4]else [])
def allK(l:E):Bool:=l.all (hasZ kL)
theorem allK_spec{l:E}(h:allK l=true):asc l=true∧ ∀c∈l,c≠0:=by
 simp only[allK,List.all_eq_true]at h;refine⟨?_,fun c hc=> ?_⟩
 ·simp only[asc,List.all_eq_true,jae];exact fun c hc=>(jjw (h c hc)).2
 ·rintro rfl;exact absurd (h 0 hc) (by decide)
theorem body_sub{l:E}{c:Int}(h:c∈jan l):c∈l:=by
 unfold jan at h;split at h
 ·exact List.mem_of_mem_take h
 ·exact h
theorem star_body(l:E):hasZ (jan l) 42=hasZ l 42:=by
 obtain⟨t,h,ht⟩:=jhz l
 have e:hasZ l 42=(hasZ (jan l) 42 || hasZ t 42):=by
  conv=>lhs;rw[h]
  simp[hasZ]
 rw[e];rcases ht with⟨rfl,_⟩ | ⟨rfl | rfl,_⟩
 ·simp[hasZ]
 ·have:hasZ [67,82] 42=false:=by decide
  rw[this,Bool.or_false]
 ·have:hasZ [68,66] 42=false:=by decide
  rw[this,Bool.or_false]
theorem form_frm{s:Y}(h:NumL (bz s))(x k cap:Nat):jie s (crZ (bz s)) x k cap=frm (bz s) x k cap:=by
 have e:(bif hasZ (jan (bz s)) 42 then(42:Int)else 32)=fdFl (bz s):=by
  rw[star_body,fdFl];cases hasZ (bz s) 42<;>rfl
 rw[jie,h.w,h.dg,h.q,h.g,h.d,h.fm,e,frm,jjr];rfl
def h103:U→Lk→Nat→(Value→Lk→Nat→Prop)→Prop:=fun args m n K=>match args with
 | [.string s]=>match cnd (decide (s.size≤32) &&allK (bz s))with
  | true=>bif numV (bz s)then∀(k cap:Nat)(d:U),jc5 d k cap=true→zc d k=rolF (bz s)→K (.tuple ⟨[.pointer (some ⟨n,0,some 0⟩),.bool true]⟩) ((m.upd n ⟨frm (bz s) (n+1) k cap,132,true⟩).upd (n+1) ⟨d,221,true⟩) (n+2)
   else K (.tuple ⟨[.pointer none,.bool false]⟩) m n
  | false=>False
 | _=>False
def R103(s:Y)(v:Value)(bs:F):Prop:=(numV (bz s)=false∧v= .tuple ⟨[.pointer none,.bool false]⟩)∨(numV (bz s)=true∧v= .tuple ⟨[.pointer (some ⟨3,0,some 0⟩),.bool true]⟩∧ ∃x k cap d,RowI d k cap∧zc d k=rolF (bz s)∧bs=[some ⟨frm (bz s) x k cap,132,true⟩,some ⟨d,221,true⟩])
theorem w103'(s:Y)(hs:s.size≤32)(hk:allK (bz s)=true):jer Tryz.prog G25 noL Tryz.f129 [.string s] (fun _=>none) 0 (fun v m _=>R103 s v (look m v)):=by
 obtain⟨ha,h0⟩:=allK_spec hk;obtain⟨q1,q2⟩:=num_law (l:=bz s) fun c hm=>h0 c (body_sub hm)
 have A1:numQ (jan (bz s)) (crZ (bz s))=false→R103 s (.tuple ⟨[.pointer none,.bool false]⟩) []:=fun hn=> .inl ⟨by rw[←q1];exact hn,rfl⟩
 have A2:numQ (jan (bz s)) (crZ (bz s))=true→ ∀(x m cap:Nat)(d:U),RowI d m cap→zc d m=ji9 s (crZ (bz s))→
   R103 s (.tuple ⟨[.pointer (some ⟨3,0,some 0⟩),.bool true]⟩) [some ⟨jie s (crZ (bz s)) x m cap,132,true⟩,some ⟨d,221,true⟩]:=fun hy x k cap d r1 r2=>by
  rw[q1]at hy;rw[form_frm (q2 hy)];exact .inr ⟨hy,rfl,x,k,cap,d,r1,r2,rfl⟩
 exact w103 s hs ha (R103 s) A1 A2
theorem fn103:Fn1 Tryz.prog 129 Tryz.f129:= .m Tryz.func129
theorem h103_ok:jda Tryz.prog 129 h103:=by
 refine gen_newR ok_G25 hmix fn103 jai fun args m n K h=> ?_
 unfold h103 at h;split at h
 case h_2=>exact h.elim
 rename_i s;split at h
 case h_2=>exact h.elim
 rename_i hc;simp only[cnd,jaf,jae]at hc;refine⟨[.string s],fun _=>none,0,id,R103 s,jfc _ _ _,fun ι=>by simp[ren],jag,fun v hv j hj=> ?_,w103' s hc.1 hc.2,fun v' m' hR=> ?_⟩
 ·simp at hv;subst hv;simp[ids]at hj
 ·rcases hR with⟨hv,rfl⟩ | ⟨hv,rfl,x,k,cap,d,r1,r2,hbs⟩
  ·rw[hv]at h;exact⟨_,m,n,id,fun hwf=>jdp hwf _ _,by simp[ids,idsL],fun _ _ _=>by simp[ren,renL],h⟩
  ·rw[hv]at h;obtain⟨a1,a2⟩:=look_form (x:=x) (k:=k) (cap:=cap) rfl hbs;refine⟨_,_,_,fun j=>if j=n then 3 else x,fun hwf=>new_form hwf a1 a2 rfl rfl r1.plain rfl rfl ?_,?_,fun ι' ι'' hι=> ?_,h k cap d (ja0.2 r1) r2⟩
   ·rintro rfl;rw[a1]at a2;cases a2
   ·intro i hi;have:i=n:=by simpa[ids,idsL]using hi
    omega
   ·have e:=hι n (Nat.le_refl _);simp only[if_true]at e;simp[ren,renL,ren1,e]
def G26:Env:=(((Env.nil.add 128 (sp2 s102)).add 124 (sp2 s89)).add 127 (sp1 s80)).addG 129 h103
theorem ok_G26:jao Tryz.prog G26:=jaq (jak (jak (jak ja7 ok102) ok89) ok80) h103_ok
theorem dropW_nil{p:Int→Bool}:∀{l:E},l.dropWhile p=[]↔ ∀c∈l,p c=true
 | []=>by simp
 | c::l=>by
  rw[List.dropWhile_cons];cases h:p c with
  | true=>simp only[if_true];rw[dropW_nil (l:=l)];simp[h]
  | false=>simp[h]
theorem trim_nil{l cs:E}:jfq l cs=[]↔ ∀c∈l,hasZ cs c=true:=by
 unfold jfq;rw[dropW_nil];constructor
 ·intro h c hc;cases hq:hasZ cs c with
  | true=>rfl
  | false=>
   exfalso
   -- c stays in what is left
   have:∀r:E,c∈r→c∈r.dropWhile (hasZ cs):=by
    intro r
    induction r with
    | nil=>exact fun h=>by cases h
    | cons x r ih=>
     intro hx;rw[List.dropWhile_cons];cases hh:hasZ cs x with
     | false=>simpa using hx
     | true=>
      rw[if_pos rfl];rcases List.mem_cons.1 hx with rfl | hx
      ·rw[hq]at hh;cases hh
      ·exact ih hx
   have hm:=this l.reverse (by simpa using hc);have:=h c (by simpa using hm);rw[hq]at this;cases this
 ·intro h c hc;have:c∈l.reverse.dropWhile (hasZ cs):=by simpa using hc
  exact h c (by simpa using List.dropWhile_sublist _ |>.subset this)
theorem jjl:∀(l:E)(st n:Int)(out:E),allK out=true→allK (xpGo l st n out).1=true
 | [],_,_,_,h=>h
 | c::r,st,n,out,h=>by
  rw[xpGo];generalize (if st=2 then n else 1)=k;split
  ·split
   ·split
    ·exact jjl r _ _ _ h
    ·rfl
   ·split
    ·exact jjl r _ _ _ h
    ·rfl
  ·split
   ·rfl
   ·split
    ·exact jjl r _ _ _ h
    ·split
     ·rename_i hq;refine jjl r _ _ _ ?_;simp only[allK,List.all_append,jaf];refine⟨h,?_⟩;rw[List.all_eq_true];intro x hx;rw[List.eq_of_mem_replicate hx];exact hq.1
     ·rfl
theorem ex_kL(l:E):allK (exZ l)=true:=by
 unfold exZ;split
 ·exact jjl l 0 0 [] rfl
 ·rfl
def frmP(l:E)(x k cap:Nat):U:=[.string (sz (pS l)),.bool true,.int .i64 (pW l),.int .i64 (pD l),.int .i64 (pQ l),.bool (pG l)]++
 .slice (some ⟨x,0,some 1⟩) k cap::[.int .u8 (drZ (jan (pS l))),.int .i64 (nD (jan (pS l))).2.2,.bool (crZ (pS l)),.int .u8 (fdFl (pS l)),.int .i64 (cntZ (mkGo (drZ (jan (pS l))) false (jan (pS l))) 100)]
def chrP(l:E):U:=[.string (sz (pS l)),.bool false,.int .i64 (pW l),.int .i64 0,.int .i64 0,.bool false,.slice none 0 0,.int .u8 0,.int .i64 0,.bool false,.int .u8 0,.int .i64 0]
theorem frm_P{l:E}(h:pN l=true)(x k cap:Nat):frm (exZ l) x k cap=frmP l x k cap:=by
 have hv:=ji7 h;have hc:=(pN_num h).nch;unfold frm frmP;rw[pS,if_pos hv,pW,if_pos hv,if_neg (by rw[hc];simp),pD,if_pos h,pQ,if_pos h,pG,h,Bool.true_and]
def h70:U→Lk→Nat→(Value→Lk→Nat→Prop)→Prop:=fun args m n K=>match args with
 | [.string s]=>match cnd (decide (s.size≤9223372036854775807))with
  | true => bif vOK (bz s) then (bif pN (bz s) then ∀ (k cap : Nat) (d : U), jc5 d k cap = true → zc d k = rolF (pS (bz s)) → K (.tuple ⟨[.pointer (some ⟨n, 0, some 0⟩), .bool true]⟩) ((m.upd n ⟨frmP (bz s) (n + 1) k cap, 132, true⟩).upd (n + 1) ⟨d, 221, true⟩) (n + 2)
    else K (.tuple ⟨[.pointer (some ⟨n,0,some 0⟩),.bool true]⟩) (m.upd n ⟨chrP (bz s),132,true⟩) (n+1))
   else K (.tuple ⟨[.pointer none,.bool false]⟩) m n
  | false=>False
 | _=>False
def Rfm(c:Bool)(s:Y)(v:Value)(bs:F):Prop:=
 (pN (bz s)=true∧ ∃a x k cap d,v= .tuple ⟨[.pointer (some ⟨a,0,some 0⟩),.bool true]⟩∧RowI d k cap∧zc d k=rolF (pS (bz s))∧bs=[some ⟨frmP (bz s) x k cap,132,true⟩,some ⟨d,221,true⟩])∨
 (c=true∧vOK (bz s)=true∧pN (bz s)=false∧ ∃a,v= .tuple ⟨[.pointer (some ⟨a,0,some 0⟩),.bool true]⟩∧bs=[some ⟨chrP (bz s),132,true⟩])∨
 (pN (bz s)=false∧(c=true→vOK (bz s)=false)∧v= .tuple ⟨[.pointer none,.bool false]⟩)
theorem rfm_new{c:Bool}{s:Y}{v':Value}{m m':Lk}{n:Nat}{K:Value→Lk→Nat→Prop}(hR:Rfm c s v' (look m' v'))
  (h1:pN (bz s)=true→ ∀(k cap:Nat)(d:U),jc5 d k cap=true→zc d k=rolF (pS (bz s))→K (.tuple ⟨[.pointer (some ⟨n,0,some 0⟩),.bool true]⟩) ((m.upd n ⟨frmP (bz s) (n+1) k cap,132,true⟩).upd (n+1) ⟨d,221,true⟩) (n+2))
  (h2:c=true→vOK (bz s)=true→pN (bz s)=false→K (.tuple ⟨[.pointer (some ⟨n,0,some 0⟩),.bool true]⟩) (m.upd n ⟨chrP (bz s),132,true⟩) (n+1))
  (h3:pN (bz s)=false→(c=true→vOK (bz s)=false)→K (.tuple ⟨[.pointer none,.bool false]⟩) m n):
  ∃v mm nn σ,((∀k b,m k=some b→k<n)→NewM m n m' mm nn σ)∧(∀i∈ids v,n≤i∧i<nn)∧(∀ι' ι'':Nm,(∀i,n≤i→ι'' i=ι' (σ i))→ren ι'' v=ren ι' v')∧K v mm nn:=by
 rcases hR with⟨hv,a,x,k,cap,d,rfl,r1,r2,hbs⟩ | ⟨hc,hv,hp,a,rfl,hbs⟩ | ⟨hv,hc,rfl⟩
 ·obtain⟨a1,a2⟩:=look_form (x:=x) (k:=k) (cap:=cap) rfl hbs;refine⟨_,_,_,fun j=>if j=n then a else x,fun hwf=>new_form hwf a1 a2 rfl rfl r1.plain rfl rfl ?_,?_,fun ι' ι'' hι=> ?_,h1 hv k cap d (ja0.2 r1) r2⟩
  ·rintro rfl;rw[a1]at a2;cases a2
  ·intro i hi;have:i=n:=by simpa[ids,idsL]using hi
   omega
  ·have e:=hι n (Nat.le_refl _);simp only[if_true]at e;simp[ren,renL,ren1,e]
 ·have ha:m' a=some ⟨chrP (bz s),132,true⟩:=by
   simp only[look]at hbs;cases ha:m' a with
   | none=>rw[ha]at hbs;cases hbs
   | some b=>
    rw[ha]at hbs;simp only at hbs;split at hbs
    ·cases hbs
    ·cases hbs;rfl
  refine⟨_,_,_,fun j=>a,fun hwf=>jgq hwf ha rfl rfl,?_,fun ι' ι'' hι=> ?_,h2 hc hv hp⟩
  ·intro i hi;have:i=n:=by simpa[ids,idsL]using hi
   omega
  ·have e:=hι n (Nat.le_refl _);simp[ren,renL,ren1,e]
 ·exact⟨_,m,n,id,fun hwf=>jdp hwf _ _,by simp[ids,idsL],fun _ _ _=>by simp[ren,renL],h3 hv hc⟩
def jv(a:Y):Y:=sz (xpGo (bz a) 0 0 []).fst
def d8(a:Y):E:=bz (jv a)
theorem v70(s:Y)(R:Value→F→Prop):(ja4 Tryz.prog G26 noL Tryz.f79 [S s] (fun _=>none) 0 (fun v m _=>R v (look m v)))=(dl (!exOK (bz s)) s (gz R) (b8 (e8 (jv s) && (e8 ⟨#[65,88,57]⟩ &&asc (bz ⟨#[65,88,57]⟩))) (bif fx (szO (jfq (d8 s) (bz ⟨#[65,88,57]⟩))) ⟨#[]⟩then e8 (jv s) && (e8 ⟨#[65,88]⟩ && (asc (d8 s) &&asc (bz ⟨#[65,88]⟩))) &&true else true) (fx (szO (jfq (d8 s) (bz ⟨#[65,88,57]⟩))) ⟨#[]⟩ &&anyZ (d8 s) (bz ⟨#[65,88]⟩)) (R (ju 23) [b5 false false false (jv s) (av (jv s)) 0 0 0 0 0 0 0 0 none]) (bif decide ((jv s).size≤32) &&allK (d8 s)then bif Px.numV (d8 s)then∀a:Nat,∀b:Nat,∀c:U,jc5 c a b=true→zc c a=rolF (d8 s)→R (ju 20) (b5 true (jc4 (d8 s)==1) (crZ (d8 s)) (sz (d8 s)) (((d8 s).length:Int)-(cntZ (d8 s) 86:Int)) (pdGo (jbg (d8 s))) (pqGo (d8 s) (jbg (d8 s)) 0) (drZ (jan (d8 s))) (nD (jan (d8 s))).snd.snd (fdFl (d8 s)) (cntZ (mkGo (drZ (jan (d8 s))) false (jan (d8 s))) 100:Int) a b (some (.mk 21 0 (some 1)))::bk c 221)else gz R else False))):=by kernel_rfl
theorem fn70:Fn1 Tryz.prog 79 Tryz.f79:= .m Tryz.func79
theorem w70(s:Y)(hs:s.size≤9223372036854775807):jer Tryz.prog G26 noL Tryz.f79 [.string s] (fun _=>none) 0 (fun v m _=>Rfm true s v (look m v)):=by
 rw[jer,v70];delta aw dl b8 ay gl gz bk ak au b5 jv d8 dq ju av fx e8;have hN:pN (bz s)=false→vOK (bz s)=false→Rfm true s (.tuple ⟨[.pointer none,.bool false]⟩) []:=fun h1 h2=> .inr (.inr ⟨h1,fun _=>h2,rfl⟩)
 refine c_t (jaa hs) (cond_intro (fun h=> ?_) (fun h=> ?_))
 ·have h:exOK (bz s)=false:=by simpa using h
  exact hN (by rw[pN,h];rfl) (by rw[vOK,h];rfl)
 have h:exOK (bz s)=true:=by simpa using h
 have e:(xpGo (bz s) 0 0 []).1=exZ (bz s):=by rw[exZ,if_pos h]
 obtain⟨x1,x2⟩:=ex_rng s;have k1:bz ⟨#[65,88,57]⟩=[65,88,57]:=rfl;have k2:bz ⟨#[65,88]⟩=[65,88]:=rfl;rw[e,jji x1,jd4,k1,k2,jeb,jdu,jji (l:=jfq (exZ (bz s)) [65,88,57])]
 rotate_left
 ·intro c hc;refine x1 c ?_;unfold jfq at hc;have:=List.dropWhile_sublist _ |>.subset hc
  have:c∈(exZ (bz s)).reverse.dropWhile (hasZ [65,88,57]):=by simpa using this
  simpa using List.dropWhile_sublist _ |>.subset this
 have hk:=allK_spec (ex_kL (bz s));have k3:bz ⟨#[]⟩=[]:=rfl;rw[k3]
 have eC:(decide (jfq (exZ (bz s)) [65,88,57]=[]) &&anyZ (exZ (bz s)) [65,88])=je9 (exZ (bz s)):=by
  rw[je9,Bool.eq_iff_iff];simp only[jaf,jae,trim_nil,List.all_eq_true,anyZ,List.any_eq_true,Bool.or_eq_true,jcl];refine and_congr Iff.rfl ⟨?_,?_⟩
  ·rintro ⟨c,h1,h2⟩;simp at h2;rcases h2 with rfl | rfl
   ·exact .inl h1
   ·exact .inr h1
  ·rintro (h1 | h1)
   ·exact⟨65,h1,by simp⟩
   ·exact⟨88,h1,by simp⟩
 rw[eC];refine c_t ?_ (cond_intro (fun hc=> ?_) (fun hc=>c_t ?_ (cond_intro (fun hn k cap d r1 r2=> ?_) (fun hn=> ?_))))
 ·have a1:decide ((exZ (bz s)).length≤1000)=true:=jaa (by omega);rw[a1,hk.1];cases decide (jfq (exZ (bz s)) [65,88,57]=[]) <;>rfl
 ·have hv:vOK (bz s)=true:=by rw[vOK,h,hc];rfl
  have hp:pN (bz s)=false:=by rw[pN,h,numV,hc];rfl
  refine .inr (.inl ⟨rfl,hv,hp,23,rfl,?_⟩);have e1:pS (bz s)=exZ (bz s):=by rw[pS,if_pos hv]
  have e2:pW (bz s)=(exZ (bz s)).length:=by rw[pW,if_pos hv,if_pos hc]
  rw[chrP,e1,e2]
 ·rw[jaa (show(exZ (bz s)).length≤32 by omega),ex_kL];rfl
 ·have hp:pN (bz s)=true:=by rw[pN,h,hn];rfl
  have e1:pS (bz s)=exZ (bz s):=by rw[pS,if_pos (ji7 hp)]
  refine .inl ⟨hp,20,21,k,cap,d,rfl,ja0.1 r1,by rw[e1];exact r2,?_⟩;rw[←frm_P hp];rfl
 ·exact hN (by rw[pN,h,hn];rfl) (by rw[vOK,h,hc,hn];rfl)
theorem h70_ok:jda Tryz.prog 79 h70:=by
 refine gen_newR ok_G26 hmix fn70 jai fun args m n K h=> ?_
 unfold h70 at h;split at h
 case h_2=>exact h.elim
 rename_i s;split at h
 case h_2=>exact h.elim
 rename_i hc;have hc:s.size≤9223372036854775807:=jab hc;refine⟨[.string s],fun _=>none,0,id,Rfm true s,jfc _ _ _,fun ι=>by simp[ren],jag,fun v hv j hj=> ?_,w70 s hc,fun v' m' hR=> ?_⟩
 ·simp at hv;subst hv;simp[ids]at hj
 ·refine rfm_new hR (fun hp=> ?_) (fun _ hv hp=> ?_) (fun hp hv=> ?_)
  ·rw[ji7 hp,hp]at h;exact h
  ·rw[hv,hp]at h;exact h
  ·rw[hv rfl]at h;exact h
def G28:Env:=Env.nil.addG 79 h70
theorem ok_G28:jao Tryz.prog G28:=jaq ja7 h70_ok
def s35(s:Y):Bool×Value:=(decide (s.size≤9223372036854775807),.tuple ⟨[picV (bz s),.int .i64 (pE (bz s))]⟩)
theorem fn35:Fn1 Tryz.prog 26 Tryz.f26:= .m Tryz.func26
theorem v35(s:Y)(R:Value→Prop):ja4 Tryz.prog G28 noL Tryz.f26 [Enc.enc s] (fun _=>none) 0 (fun v _ _=>R v)=(dl (vOK (bz s)) s (bif pN (bz s)then∀a:Nat,∀b:Nat,∀c:U,jc5 c a b=true→zc c a=rolF (pS (bz s))→R (.tuple (j4 true (sz (pS (bz s))) (pW (bz s)) [B (pG (bz s))] (I (pD (bz s))) (I (pQ (bz s)))))else R (.tuple (j4 false (sz (pS (bz s))) (pW (bz s)) gl (ak 0) (ak 0)))) (R (ay [kr,ak 30]))):=by kernel_rfl
theorem ok35:jal Tryz.prog 26 (sp1 s35):=by
 refine jcr ok_G28 hmix fn35 jai jag fun s hc=> ?_
 rw[jb5,v35];delta aw dl ay ak gl e7 kr j4;have hc:(s.size≤9223372036854775807):=jab hc
 try dsimp only[s35]
 refine c_t (jaa hc) (cond_intro (fun hv=>cond_intro (fun hn k cap d _ _=> ?_) (fun hn=> ?_)) (fun hv=> ?_))
 ·simp[picV,pE,hv,hn]
 ·simp[picV,pE,hv,hn,pD,pQ,pG]
 ·have hn:pN (bz s)=false:=by
   cases q:pN (bz s)with
   | false=>rfl
   | true=>rw[ji7 q]at hv;cases hv
  have a1:pS (bz s)=[]:=by rw[pS,if_neg (by rw[hv];simp)]
  have a2:pW (bz s)=0:=by rw[pW,if_neg (by rw[hv];simp)]
  have a3:pD (bz s)=0:=by rw[pD,if_neg (by rw[hn];simp)]
  have a4:pQ (bz s)=0:=by rw[pQ,if_neg (by rw[hn];simp)]
  have a5:pG (bz s)=false:=by rw[pG,hn];rfl
  have a6:pE (bz s)=30:=by rw[pE,if_neg (by rw[hv];simp)]
  rw[picV,a1,a2,a3,a4,a5,a6,hn,jjq]
def G29:Env:=Env.nil.add 26 (sp1 s35)
theorem ok_G29:jao Tryz.prog G29:=jak ja7 ok35
def s33(s:Y):Bool×Value:=(decide (s.size≤9223372036854775807),.int .i64 (pE (bz s)))
theorem fn33:Fn1 Tryz.prog 122 Tryz.f122:= .m Tryz.func122
theorem v33(s:Y)(R:Value→Prop):ja4 Tryz.prog G29 noL Tryz.f122 [Enc.enc s] (fun _=>none) 0 (fun v _ _=>R v)=(bif decide (s.size≤9223372036854775807)then R (I (pE (bz s)))else False):=by kernel_rfl
theorem ok33:jal Tryz.prog 122 (sp1 s33):=by
 refine jcr ok_G29 hmix fn33 jai jag fun s hc=> ?_
 rw[jb5,v33];have hc:(s.size≤9223372036854775807):=jab hc
 try dsimp only[s33]
 exact c_t (jaa hc) rfl
end Go.Px
end
noncomputable section
namespace Go.Px
open Go Go.Ab Go.Proofs Go.Shelf Go.RowKit Go.Sort Go.Lib
theorem laysM284:LaysM.n284 Tryz.prog Tryz.lays172_ren:={Tryz.lays172 with
 i0:=by kernel_rfl
 i3:=by kernel_rfl
 i4:=by kernel_rfl
 i5:=by kernel_rfl
 i9:=by kernel_rfl
 i46:=by kernel_rfl
 i53:=by kernel_rfl
 i212:=by kernel_rfl
 m17:=by kernel_rfl}
theorem tab_pow {w : World} (h : TabsIn w.heap.size w) : Lib.TabIs Tryz.prog w "internal/strconv.uint64pow10" .u64 Lib.pow10Tab := by
 obtain⟨_,ty,fr,h2⟩:=h 2 _ rfl;unfold Lib.TabIs World.var?
 have e : Tryz.prog.globalNamed "internal/strconv.uint64pow10" = some 2 := by kernel_rfl
 rw[e];simp only[Option.bind_some,h2];rfl
theorem fmt_small(u:Nat)(hu:u<100)(w:World):Calls Tryz.prog 131 #[.int .u64 u,.int .i64 10] w fun e w'=>e= .returned (.string ⟨(Lib.decDigits u).toArray⟩)∧w'=w:=by
 have mixed:=Tryz.lays172.mixed;have e142:∀args w,(callFunc 194 args).run Tryz.prog w= .ok (.enter 194 args) w:=enters_of Tryz.func194 (by kernel_rfl) rfl;have hw:IntKind.i64.wrap (u:Int)=(u:Int):=by rw[IntKind.wrap_i64];omega
 go_enter Tryz.func131,Tryz.ntmps131
 go_wp2_with (go_at_fn 194;refine(Any.internal_strconv_small (ρ:=Tryz.lays172_ren) {Tryz.lays172 with} u hu _).mono ?_;rintro e w' ⟨rfl,rfl⟩)
 go_ret
 exact⟨rfl,rfl⟩
set_option maxHeartbeats 6400000 in
set_option maxRecDepth 100000 in
theorem fmt_big (u : Nat) (hu : 100 ≤ u) (hu64 : u < 18446744073709551616) (w : World) (htab : Lib.TabIs Tryz.prog w "internal/strconv.uint64pow10" .u64 Lib.pow10Tab) :
  Calls Tryz.prog 131 #[.int .u64 u,.int .i64 10] w fun e w'=>e= .returned (.string ⟨(Lib.decDigits u).toArray⟩)∧ ∃k os,w'=grow (w.drewN k) os:=by
 have mixed:=Tryz.lays172.mixed;have e143:∀args w,(callFunc 195 args).run Tryz.prog w= .ok (.enter 195 args) w:=enters_of Tryz.func195 (by kernel_rfl) rfl;have e144:∀args w,(callFunc 196 args).run Tryz.prog w= .ok (.enter 196 args) w:=enters_of Tryz.func196 (by kernel_rfl) rfl;have hu1:1≤u:=by omega
 have hnd20:Lib.nDigits u≤20:=by have:=Lib.numDigits_eq u hu1 hu64;split at this<;>omega
 have iu:(100:Int)≤(u:Int):=by omega
 have t148:=Tryz.underlying222;have hal:Tryz.prog.arrayLen 222=24:=by simp[Program.arrayLen,Tryz.underlying222]
 have hsl:∀W,(Instr.sliceAt 222 (.pointer (some ⟨w.heap.size,0,none⟩)) none (some (.int .i64 (Lib.nDigits u:Int))) none).run Tryz.prog W= .ok (.slice (some ⟨w.heap.size,0,none⟩) (Lib.nDigits u) 24) W:=fun W=>by
  rw[run_sliceAt_array_h W 222 ⟨w.heap.size,0,none⟩ (by simp[Program.arrayLen,Program.elem,Tryz.underlying222]) .i64 (Lib.nDigits u:Int) (by omega) (by rw[hal];omega)]
  go_simp
 have hH0:=Lib.holds_zero0 w 222 (Lib.nDigits u) (by omega);have hfmt:=Any.internal_strconv_formatBase10 (ρ:=Tryz.lays172_ren) {Tryz.lays172 with} w.heap.size 0 24 u (Array.replicate (Lib.nDigits u) 0) (w.alloc (.cells Lib.zeros24 222)) hH0 (by rw[Array.size_replicate];exact Lib.lt_pow_nDigits u) hu64 (by rw[Array.size_replicate];omega);rw[Array.size_replicate]at hfmt;have HH0:=Lib.hid hH0;clear hH0 hal
 go_enter Tryz.func131,Tryz.ntmps131
 go_wp2_with (first
  | (go_at_fn 195;refine(Any.internal_strconv_numDigits (ρ:=Tryz.lays172_ren) laysM284 u hu1 hu64 _ (Lib.tabIs_alloc htab _)).mono ?_;rintro e w' ⟨rfl,rfl⟩))
 go_at_fn 196
 refine hfmt.mono ?_;rintro e w' ⟨rfl,k,v',dk,rfl,hF⟩
 have hcv:(convert 77 9 (.slice (some ⟨w.heap.size,0,none⟩) (Lib.nDigits u) 24)).run Tryz.prog ((putRow (fun(b:UInt8)=>Value.int .u8 (b.toNat:Int)) (w.alloc (.cells Lib.zeros24 222)) w.heap.size 0 dk).drewN k)= .ok (.string ⟨(Lib.decDigits u).toArray⟩) ((putRow (fun(b:UInt8)=>Value.int .u8 (b.toNat:Int)) (w.alloc (.cells Lib.zeros24 222)) w.heap.size 0 dk).drewN k):=by
  have h:=run_convert_bytes_back (P:=Tryz.prog) ((putRow (fun(b:UInt8)=>Value.int .u8 (b.toNat:Int)) (w.alloc (.cells Lib.zeros24 222)) w.heap.size 0 dk).drewN k) 77 9 5 ⟨w.heap.size,0,none⟩ 24 (Lib.decDigits u) Tryz.underlying77 Tryz.underlying5 Tryz.underlying9 (fun j hj=>by
   rw[Lib.row_is_numeral hF j hj,Lib.add_plain,World.cell?_drewN];exact cell?_putRow (fun(b:UInt8)=>Value.int .u8 (b.toNat:Int)) _ w.heap.size 0 _ dk HH0.out (by rw[hF.size,Array.size_replicate]) j (by rw[hF.size];rw[Lib.decDigits_length]at hj;exact hj))
  rw[Lib.decDigits_length]at h;exact h
 go_wp2
 go_ret
 obtain⟨os,eo⟩:=Lib.fin_at w (.cells Lib.zeros24 222) dk k 0;exact⟨rfl,k,os,eo⟩
def decZ(n:Int):E:=zl (Lib.decDigits n.toNat)
theorem c87:jbh Tryz.prog 84:=cal Tryz.func84 (by kernel_rfl) (by kernel_rfl)
theorem fmt_all(u:Nat)(hu64:u<18446744073709551616)(w:World)(ht:TabsIn w.heap.size w):
  Calls Tryz.prog 131 #[.int .u64 u,.int .i64 10] w fun e w'=>e= .returned (.string ⟨(Lib.decDigits u).toArray⟩)∧RowKit.Below w.heap.size w w':=by
 by_cases hu:u<100
 ·exact(fmt_small u hu w).mono fun e w' ⟨h1,h2⟩=>⟨h1,jca h2⟩
 ·exact(fmt_big u (by omega) hu64 w (tab_pow ht)).mono fun e w' ⟨h1,k,os,h2⟩=>⟨h1,by rw[h2];exact Lib.below_grow _ _ (Nat.le_refl _) _ _⟩
theorem fmt87(u:Nat)(hu64:u<18446744073709551616)(w:World)(ht:TabsIn w.heap.size w):
  Calls Tryz.prog 84 #[.int .u64 u,.int .i64 10] w fun e w'=>e= .returned (.string ⟨(Lib.decDigits u).toArray⟩)∧RowKit.Below w.heap.size w w':=by
 have mixed:=Tryz.lays172.mixed;have e115:∀args w,(callFunc 131 args).run Tryz.prog w= .ok (.enter 131 args) w:=enters_of Tryz.func131 (by kernel_rfl) rfl
 go_enter Tryz.func84,Tryz.ntmps84
 go_wp2_with (go_at_fn 131;refine(fmt_all u hu64 _ ht).mono ?_;rintro e w' ⟨rfl,hb⟩)
 go_ret
 exact⟨rfl,hb⟩
def jki(b:Int):Bool:=b==10
def s87(n:U64)(b:Int):Bool×Value:=(decide (0≤n.n∧n.n<18446744073709551616) &&jki b,.string (sz (decZ n.n)))
theorem ok87:jal Tryz.prog 84 (sp2 s87):=jdb c87 fun n b hc w ht=>by
 simp only[s87,jki,jaf,jae,beq_iff_eq]at hc;obtain⟨⟨h0,h1⟩,rfl⟩:=hc
 have e:Enc.enc n=Value.int .u64 (n.n.toNat:Int):=by
  show Value.int .u64 n.n=_;rw[Int.toNat_of_nonneg h0]
 rw[e];refine(fmt87 n.n.toNat (by omega) w ht).mono fun e w' ⟨h4,h5⟩=>⟨?_,h5⟩
 rw[h4,jg3];rfl
end Go.Px
end
section
namespace Go.Px
open Go Go.Ab Go.Proofs
def dval(l:E):Int:=numZ l 0
end Go.Px
end
noncomputable section
namespace Go.Px
open Go Go.Ab Go.Proofs Go.Shelf
def cutV(n q sc d:Int)(sg:Bool):Value:= .tuple ⟨[.string (sz (digZ ((cuN n q sc d sg).natAbs:Int) d.toNat)),.bool (decide (cuN n q sc d sg<0)),.bool (cuF n q sc d sg)]⟩
def i64B(n:Int):Bool:=decide (-9223372036854775808≤n∧n≤9223372036854775807)
def h63:U→Lk→Nat→(Value→Lk→Nat→Prop)→Prop:=fun args m n K=>match args with
 | [.pointer (some ⟨a,0,some 0⟩),.int .i64 x,.int .i64 q]=>match m a with
  | some ⟨[.string s,.bool nb,.int .i64 w,.int .i64 d,.int .i64 sc,.bool sg,.slice (some ⟨y,0,some 1⟩) k cap,.int .u8 dr,.int .i64 f,.bool cr,.int .u8 fl,.int .i64 fm],132,own⟩=>
   match cnd (i64B x&& (decide (0≤q∧q≤9) && (decide (0≤sc∧sc≤9) &&decide (0≤d∧d≤9))))with
   | true=>K (cutV x q sc d sg) m n
   | false=>False
  | _=>False
 | _=>False
end Go.Px
end
noncomputable section
set_option maxHeartbeats 3200000
namespace Go.Px
open Go Go.Ab Go.Proofs Go.Shelf
end Go.Px
end
noncomputable section
namespace Go.Px
open Go Go.Ab Go.Proofs Go.Shelf
end Go.Px
end
noncomputable section
set_option maxHeartbeats 3200000
namespace Go.Px
open Go Go.Ab Go.Proofs Go.Shelf
end Go.Px
end
noncomputable section
namespace Go.Px
open Go Go.Ab Go.Proofs Go.Shelf
theorem dec_from:∀(l:O)(a:Nat),dgL (zl l)=true→Lib.decFrom a l=some (numZ (zl l) a).toNat∧0≤numZ (zl l) a
 | [],a,_=>⟨rfl,Int.natCast_nonneg a⟩
 | b::r,a,h=>by
  have h:dgL ((b.toNat:Int)::zl r)=true:=h
  have h1:48≤b.toNat∧b.toNat≤57:=by
   simp only[dgL,List.all_cons,jaf,jae]at h;omega
  have h2:dgL (zl r)=true:=by
   simp only[dgL,List.all_cons,jaf]at h;exact h.2
  obtain⟨e1,e2⟩:=dec_from r (a*10+(b.toNat-48)) h2;have e:((a*10+(b.toNat-48):Nat):Int)=(a:Int)*10+((b.toNat:Int)-48):=by omega
  rw[e]at e1 e2;have hd:Lib.digitVal b=some (b.toNat-48):=by rw[Lib.digitVal,if_pos h1]
  refine⟨?_,e2⟩;rw[Lib.decFrom,hd];exact e1
theorem atoi_dig{s:Y}(h0:1≤s.size)(h:dgL (bz s)=true):Lib.atoi s.data.toList=some (dval (bz s)):=by
 have hb:bz s=zl s.data.toList:=rfl;have hl:s.data.toList.length=s.size:=rfl;rw[hb]at h ⊢;generalize s.data.toList=l at*;cases l with
 | nil=>simp at hl;omega
 | cons b r=>
  have h1:48≤b.toNat∧b.toNat≤57:=by
   have h:dgL ((b.toNat:Int)::zl r)=true:=h;simp only[dgL,List.all_cons,jaf,jae]at h;omega
  have n45:(b==45)=false:=by
   cases q:b==45 with
   | false=>rfl
   | true=>have:=eq_of_beq q;rw[this]at h1;revert h1;decide
  have n43:(b==43)=false:=by
   cases q:b==43 with
   | false=>rfl
   | true=>have:=eq_of_beq q;rw[this]at h1;revert h1;decide
  obtain⟨e1,e2⟩:=dec_from (b::r) 0 h;rw[Lib.atoi,n45,n43];show(Lib.decNat (b::r)).map (fun m:Nat=>(m:Int))=_;have:Lib.decNat (b::r)=Lib.decFrom 0 (b::r):=rfl;rw[this,e1,Option.map_some,dval];congr 1;exact Int.toNat_of_nonneg e2
def s68(s:Y):Bool×Value:=(decide (1≤s.size∧s.size≤18) &&dgL (bz s),.tuple ⟨[.int .i64 (dval (bz s)),.nilIface]⟩)
theorem ok68:jal Tryz.prog 183 (sp1 s68):=shelf1 c68 fun s hc w _=>by
 simp only[s68,jaf,jae]at hc;refine(Any.strconv_Atoi (ρ:=Tryz.lays172_ren) Tryz.lays172 s (dval (bz s)) hc.1.2 (atoi_dig hc.1.1 hc.2) w).mono fun e w' ⟨h1,t,h2⟩=>⟨h1,?_⟩
 subst h2;exact Lib.bytesWorld_below _ _ _
end Go.Px
end
noncomputable section
set_option maxHeartbeats 3200000
namespace Go.Px
open Go Go.Ab Go.Proofs Go.Shelf
def s42(s:Y)(t:Y):Bool×Value:=(decide (s.size≤9223372036854775807∧t.size≤9223372036854775807),.tuple ⟨[.string (sz (fiS (bz s) (bz t))),.bool (fiF (bz s) (bz t)),.int .i64 (fiE (bz s))]⟩)
end Go.Px
end
section
namespace Go.Fx
open Go Go.Ab
structure Ty where
 k:Int
 p:Int
 q:Int
 v:Bool
 s:Y
structure Vl where
 n:Int
 s:Y
instance:Enc Ty where
 enc t:= .agg ⟨[.int .i64 t.k,.int .i64 t.p,.int .i64 t.q,.bool t.v,.string t.s]⟩
 dec | .agg ⟨[.int .i64 k,.int .i64 p,.int .i64 q,.bool v,.string s]⟩=>some ⟨k,p,q,v,s⟩ | _=>none
 dec_some:=by
  intro v a h;split at h
  ·cases h;rfl
  ·cases h
 plain_enc _:=rfl
instance:Enc Vl where
 enc t:= .agg ⟨[.int .i64 t.n,.string t.s]⟩
 dec | .agg ⟨[.int .i64 n,.string s]⟩=>some ⟨n,s⟩ | _=>none
 dec_some:=by
  intro v a h;split at h
  ·cases h;rfl
  ·cases h
 plain_enc _:=rfl
abbrev I(n:Int):Value:= .int .i64 n
abbrev B(b:Bool):Value:= .bool b
def T0:Ty:=⟨0,0,0,false,⟨#[]⟩⟩
def V0:Vl:=⟨0,⟨#[]⟩⟩
abbrev tv(t:Ty):Value:= .agg ⟨[.int .i64 t.k,.int .i64 t.p,.int .i64 t.q,.bool t.v,.string t.s]⟩
abbrev vv(v:Vl):Value:= .agg ⟨[.int .i64 v.n,.string v.s]⟩
abbrev tup(l:U):Value:= .tuple ⟨l⟩
def most(k:Int):Int:=if k=1 then 9 else 31
def jcb(t:Ty):Prop:=(t.k=1∨t.k=2)∧1≤t.p∧t.p≤most t.k∧0≤t.q∧t.q≤t.p∧(t.k=2→t.q=0)∧t.v=false∧t.s.toList=[]
instance (t:Ty):Decidable (jcb t):=by unfold jcb;infer_instance
def base(k:Int):Int:=if k=1 then 10 else 2
def pw(b n:Int):Int:=b^n.toNat
def bnd(t:Ty):Int:=pw (base t.k) t.p
def jcg(t:Ty):Int:=if jcb t then 0 else 5
def Fit(v:Vl)(t:Ty):Prop:=v.s.toList=[]∧ -bnd t<v.n∧v.n<bnd t
instance (v:Vl)(t:Ty):Decidable (Fit v t):=by unfold Fit;infer_instance
def fits(v:Vl)(t:Ty):Int:=if jcb t then(if Fit v t then 0 else 6)else 5
def scl(n d:Int):Int:=if 0≤d then n*pw 10 d else n.tdiv (pw 10 (-d))
def InB(n:Int)(t:Ty):Prop:= -bnd t<n∧n<bnd t
instance (n:Int)(t:Ty):Decidable (InB n t):=by unfold InB;infer_instance
def cutN(n:Int)(t:Ty):Int:=if InB n t then n else n.tmod (bnd t)
def cutC(n:Int)(t:Ty)(c:Int):Int:=if InB n t then 0 else c
def R64(n:Int):Prop:= -9223372036854775808≤n∧n≤9223372036854775807
instance (n:Int):Decidable (R64 n):=by unfold R64;infer_instance
def zer(op b:Int):Prop:=(op=9∨op=10)∧b=0
instance (op b:Int):Decidable (zer op b):=by unfold zer;infer_instance
def Q18(n:Int):Prop:= -4000000000000000000≤n∧n≤4000000000000000000
instance (n:Int):Decidable (Q18 n):=by unfold Q18;infer_instance
def quoOK(a b up:Int):Prop:=b≠0∧ -18≤up∧up≤18∧Q18 a∧Q18 b∧(0≤up→Q18 (a*pw 10 up))∧(up<0→Q18 (b*pw 10 (-up)))
instance (a b up:Int):Decidable (quoOK a b up):=by unfold quoOK;infer_instance
def dvOK(op y:Int):Prop:=op=10→y≠0
instance (op y:Int):Decidable (dvOK op y):=by unfold dvOK;infer_instance
def rOK(n u:Int):Prop:=1≤u∧u≤1000000000∧ -4000000000000000000≤n∧n≤4000000000000000000
instance (n u:Int):Decidable (rOK n u):=by unfold rOK;infer_instance
theorem w64{n:Int}(h: -9223372036854775808≤n∧n≤9223372036854775807):IntKind.i64.wrap n=n:=by rw[IntKind.wrap_i64];omega
theorem str0(s:Y):(!s.toList==(ByteArray.mk #[]).toList)= !decide (s.toList=[]):=by
 have:(ByteArray.mk #[]).toList=[]:=by kernel_rfl
 rw[this];cases s.toList<;>rfl
end Go.Fx
namespace Go.Fx
open Go Go.Ab
theorem ja8(a b:Int):IntKind.i64.wrap (IntKind.i64.wrap a*b)=IntKind.i64.wrap (a*b):=by
 simp only[IntKind.wrap_i64]
 have h:((a+9223372036854775808)%18446744073709551616-9223372036854775808)*b=a*b+18446744073709551616*(-((a+9223372036854775808)/18446744073709551616)*b):=by
  have:=Int.emod_def (a+9223372036854775808) 18446744073709551616;rw[this];grind
 rw[h];omega
theorem jbj(b:Int){n:Int}(h:n≤0):pw b n=1:=by
 rw[pw,show n.toNat=0 by omega,Int.pow_zero]
theorem jbl(b:Int){n:Int}(h:0≤n):pw b (n+1)=pw b n*b:=by
 rw[pw,pw,show(n+1).toNat=n.toNat+1 by omega,Int.pow_succ]
theorem pw_add(b:Int){n m:Int}(h:0≤n)(h':0≤m):pw b (n+m)=pw b n*pw b m:=by
 rw[pw,pw,pw,show(n+m).toNat=n.toNat+m.toNat by omega,Int.pow_add]
theorem jh6{b:Int}(hb:1≤b)(n:Int):1≤pw b n:=by
 have:0<b^n.toNat:=Int.pow_pos (by omega);unfold pw;omega
theorem pw_le{b:Int}(hb:1≤b){n m:Int}(h:n≤m):pw b n≤pw b m:=by
 rcases Int.le_total n 0 with hn | hn
 ·rw[jbj b hn];exact jh6 hb m
 ·have e:m=n+(m-n):=by omega
  rw[e,pw_add b hn (by omega)];have h1:=jh6 hb n;have h2:=jh6 hb (m-n);have:=Int.mul_le_mul_of_nonneg_left h2 (show 0≤pw b n by omega);omega
theorem pw10_18:pw 10 18=1000000000000000000:=by decide
end Go.Fx
namespace Go.Fx
open Go Go.Ab
theorem jb2{b p:Int}(h:b=10∧p≤18∨b=2∧p≤62):IntKind.i64.wrap (pw b p)=pw b p:=by
 have h3:pw 2 62=4611686018427387904:=by decide
 have h4:=pw10_18;rcases h with⟨rfl,h⟩ | ⟨rfl,h⟩
 ·have h1:=pw_le (b:=10) (by omega) h;have h2:=jh6 (b:=10) (by omega) p;exact w64 (by omega)
 ·have h1:=pw_le (b:=2) (by omega) h;have h2:=jh6 (b:=2) (by omega) p;exact w64 (by omega)
end Go.Fx
namespace Go.Fx
open Go Go.Ab
end Go.Fx
namespace Go.Fx
end Go.Fx
namespace Go.Fx
open Go Go.Ab
end Go.Fx
namespace Go.Fx
open Go Go.Ab
end Go.Fx
end
section
namespace Go.Cv
def dig(c:Int):Bool:=decide (48≤c∧c≤57)
def jjj(l:List Int):Bool:=l.all fun c=>decide (c=48∨c=49)
def jkn(l:List Int):Bool:=l.all dig
def ahead(c:Int)(l:List Int):List Int:=l.takeWhile (· !=c)
def past(c:Int)(l:List Int):Option (List Int):=match l.dropWhile (· !=c)with
 | []=>none
 | _::r=>some r
def expD(l:List Int):Option Int:=if 1≤l.length∧l.length≤2∧jkn l=true then some (l.foldl (fun a c=>10*a+(c-48)) 0)else none
def expZ:List Int→Option Int
 | 43::l=>expD l
 | 45::l=>(expD l).map fun n=> -n
 | l=>expD l
abbrev Num:=Bool×List Int×Int
section
variable (jh7 : Bool → List Int → Int → Num) (binD : List Int → List Int)
def decR(neg:Bool)(l:List Int):Option Num:=
 match (match past 69 l with | none=>some 0 | some x=>expZ x)with
 | none=>none
 | some e=>
  let s:=ahead 69 l
  let whole:=ahead 46 s
  let part:=(past 46 s).getD []
  if whole++part≠ []∧jkn whole=true∧jkn part=true then some (jh7 neg (whole++part) (part.length-e))else none
structure Rd where
 neg:Bool:=false
 bin:Bool:=false
 down:Bool:=false
 ds:List Int:=[]
 sc:Int:=0
 pw:Int:=0
end
section
variable {jh7 : Bool → List Int → Int → Num} {binD : List Int → List Int}
end
end Go.Cv
end
noncomputable section
namespace Go.Cx
open Go Go.Ab Go.Proofs Go.Shelf Go.Px
open Go.Fx (Ty Vl)
structure Nu where
 g:Bool
 d:Y
 c:Int
instance:Enc Nu where
 enc t:= .agg ⟨[.bool t.g,.string t.d,.int .i64 t.c]⟩
 dec | .agg ⟨[.bool g,.string d,.int .i64 c]⟩=>some ⟨g,d,c⟩ | _=>none
 dec_some:=by
  intro v a h;split at h
  ·cases h;rfl
  ·cases h
 plain_enc _:=rfl
theorem c154:jbh Tryz.prog 110:=cal Tryz.func110 (by kernel_rfl) (by kernel_rfl)
theorem c131:jbh Tryz.prog 289:=cal Tryz.func289 (by kernel_rfl) (by kernel_rfl)
theorem c55:jbh Tryz.prog 124:=cal Tryz.func124 (by kernel_rfl) (by kernel_rfl)
theorem c30:jbh Tryz.prog 114:=cal Tryz.func114 (by kernel_rfl) (by kernel_rfl)
theorem c29:jbh Tryz.prog 130:=cal Tryz.func130 (by kernel_rfl) (by kernel_rfl)
def tlZ(l:E)(c:Int):E:=l.dropWhile (· ==c)
def trZ(l:E)(c:Int):E:=(l.reverse.dropWhile (· ==c)).reverse
noncomputable def s154 (s t : Y) : Bool × Value := (oneB t && asc (bz t), .string (szO (tlZ (bz s) ((bz t).getD 0 0))))
theorem ok154:jal Tryz.prog 110 (sp2 s154):=jdb c154 fun s t hc w _=>by
 simp only[s154,jaf]at hc;obtain⟨c,h1,h2⟩:=jfg hc.1;have hlt:c.toNat<128:=jdh hc.2 0 c (by rw[h1];rfl);have e:Enc.enc t=Value.string ⟨#[c]⟩:=congrArg Value.string h1;rw[e];refine(Any.strings_TrimLeft_one Tryz.lays161 s c hlt w).mono fun e w' ⟨h3,h4⟩=>⟨?_,jca h4⟩
 rw[h3,jg3];simp only[s154,Lib.trimLeftB,jeb,tlZ];rw[jey (q:=(· ==(bz t).getD 0 0)) (fun b=>by rw[←h2,Bool.eq_iff_iff,beq_iff_eq,beq_iff_eq,jjp]),jig]
noncomputable def s131 (s t : Y) : Bool × Value := (decide (s.size ≤ 9223372036854775807) && (oneB t && asc (bz t)), .string (szO (trZ (bz s) ((bz t).getD 0 0))))
theorem ok131:jal Tryz.prog 289 (sp2 s131):=jdb c131 fun s t hc w _=>by
 simp only[s131,jaf,jae]at hc;obtain⟨c,h1,h2⟩:=jfg hc.2.1;have hlt:c.toNat<128:=jdh hc.2.2 0 c (by rw[h1];rfl);have e:Enc.enc t=Value.string ⟨#[c]⟩:=congrArg Value.string h1;rw[e];refine(Any.strings_TrimRight_one Tryz.lays162 s c hlt w hc.1).mono fun e w' ⟨h3,h4⟩=>⟨?_,jca h4⟩
 rw[h3,jg3];simp only[s131,Lib.trimRightB,jeb,trZ];rw[zl,List.map_reverse];have hq:∀b:UInt8,(b==c)=((b.toNat:Int)==(bz t).getD 0 0):=fun b=>by rw[←h2,Bool.eq_iff_iff,beq_iff_eq,beq_iff_eq,jjp]
 have:=jey (p:=(· ==c)) (q:=(· ==(bz t).getD 0 0)) hq s.data.toList.reverse;rw[zl,zl,List.map_reverse]at this;rw[this];rfl
noncomputable def s55 (s t : Y) : Bool × Value := (decide (s.size ≤ 9223372036854775807) && (decide (t.size ≤ 1000) && asc (bz t)), .string (szO (jfq (bz s) (bz t))))
theorem ok55:jal Tryz.prog 124 (sp2 s55):=jdb c55 fun s t hc w _=>by
 simp only[s55,jaf,jae]at hc;obtain⟨h1,h2,h3⟩:=hc;refine(Any.strings_Trim_laid Tryz.lays160 jhr s t w (by omega) (by omega) (jdh h3)).mono fun e w' ⟨h5,h6⟩=>⟨?_,h6⟩
 rw[h5,jg3,trim_zl];simp only[s55,jeb];rfl
def s30(s:Y)(n:Int):Bool×Value:=(decide (0≤n∧n≤1000∧s.size≤1000),.string (szO (repZ (bz s) n.toNat)))
theorem ok30:jal Tryz.prog 114 (sp2 s30):=jdb c30 fun s n hc w _=>by
 obtain⟨h1,h2,h3⟩:=jab hc
 have e:Enc.enc n=Value.int .i64 (n.toNat:Int):=by
  show Value.int .i64 n=_;rw[Int.toNat_of_nonneg h1]
 rw[e];have hm:s.size*n.toNat≤1000*1000:=Nat.mul_le_mul h3 (by omega);refine(Any.strings_Repeat Tryz.lays105 Tryz.Builder_Extra_105 s n.toNat w (by omega) (by omega)).mono fun e w' ⟨h4,h5⟩=>⟨?_,h5⟩
 rw[h4,jg3,rep_zl];simp only[s30,jeb];rfl
def itoZ(n:Int):E:=zl (Lib.itoa n)
def s29(n:Int):Bool×Value:=(decide (-9223372036854775808≤n∧n≤9223372036854775807),.string (szO (itoZ n)))
theorem ok29:jal Tryz.prog 130 (sp1 s29):=shelf1 c29 fun n hc w ht=>by
 obtain⟨h0,h1⟩:=jab hc;refine(Any.strconv_Itoa (ρ:=Tryz.laysM171_ren) Tryz.laysM171 n h0 h1 w (tab_pow ht)).mono fun e w' ⟨h2,k,os,h3⟩=>⟨?_,by rw[h3];exact Lib.below_grow _ _ (Nat.le_refl _) _ _⟩
 rw[h2,jg3];simp only[s29,jeb];rfl
end Go.Cx
end
noncomputable section
namespace Go.Px
open Go Go.Proofs
open Go.Proofs.YtiahilhlpmohoaaGreatDoor
theorem q_laid:laidOutB Tryz.prog=true:=by kernel_rfl
theorem q_maps:mapsRowed Tryz.prog=true:=by kernel_rfl
theorem q_stop:(Tryz.prog.stops==[])=true:=by kernel_rfl
theorem q_knob:(Tryz.prog.stopKnobs==[])=true:=by kernel_rfl
theorem q_keys:(Rows.formatStarsRow.plainKeys==Tryz.prog.plainKeys)=true:=by kernel_rfl
theorem q_heard:Tryz.prog.stopsHeard=true:=by kernel_rfl
theorem q_enter:Tryz.prog.mayEnter=true:=by kernel_rfl
theorem q_lifts:(Rows.formatStarsRow.lifted==Tryz.prog.liftsFinal)=true:=by kernel_rfl
theorem q_make:(Tryz.prog.make==some Rows.formatStarsRow.make)=true:=by kernel_rfl
theorem main_is : Tryz.pinned.checked.prog.mainIs = some (true, ("162ec243084bfa9709d57c15b7c67653890d8251fb86ae663da2c28d9c8f9ac0" : String).toList) := by kernel_rfl
theorem looks_is:true=Tryz.pinned.checked.prog.looks []:=by kernel_rfl
end Go.Px
end
noncomputable section
namespace Go.Ff
open Go Go.Ab Go.Proofs Go.Px
theorem jhq{l:U}:jbm l=true↔ ∀v∈l,∃n,v= .int .u8 n:=by
 induction l with
 | nil=>simp[jbm]
 | cons v r ih=>
  constructor
  ·intro h;unfold jbm at h;split at h
   ·rename_i heq;cases heq
   ·rename_i n r' heq;cases heq;intro u hu;rcases List.mem_cons.1 hu with rfl | hu
    ·exact⟨_,rfl⟩
    ·exact ih.1 h u hu
   ·cases h
  ·intro h;obtain⟨n,rfl⟩:=h v (List.mem_cons_self ..);exact ih.2 fun u hu=>h u (List.mem_cons_of_mem _ hu)
theorem isB_plain{d:U}(h:jbm d=true):jav d=true:=by
 rw[←jjh h];exact jgd _
theorem atB:∀{d:U}{j:Nat},jbm d=true→j<d.length→jam .u8 d j=true∧jaj d j=(d.map iv).getD j 0
 | .int .u8 n::r,0,_,_=>⟨rfl,rfl⟩
 | .int .u8 n::r,j+1,h,hj=>by
  have:=atB (d:=r) (j:=j) (by simpa[jbm]using h) (by simpa using hj);simpa[jam,jaj]using this
end Go.Ff
end
noncomputable section
namespace Go.Ab
open Go Go.RowKit
def eqI(a b:Int):Bool:=match a,b with
 | .ofNat m,.ofNat n=>Nat.beq m n
 | .negSucc m,.negSucc n=>Nat.beq m n
 | _,_=>false
def eqU:O→O→Bool
 | [],[]=>true
 | a::l,b::r=>match Nat.beq a.toNat b.toNat with | true=>eqU l r | false=>false
 | _,_=>false
def eqK(a b:IntKind):Bool:=match decEq a b with | .isTrue _=>true | .isFalse _=>false
mutual
def eqV:Value→Value→Bool
 | .int k a,.int k' b=>match eqK k k' with | true=>eqI a b | false=>false
 | .bool a,.bool b=>match a,b with | true,true=>true | false,false=>true | _,_=>false
 | .string ⟨⟨a⟩⟩,.string ⟨⟨b⟩⟩=>eqU a b
 | .agg ⟨l⟩,.agg ⟨r⟩=>eqVL l r
 | .iface t a,.iface t' b=>match Nat.beq t t' with | true=>eqV a b | false=>false
 | .nilIface,.nilIface=>true
 | _,_=>false
def eqVL:U→U→Bool
 | [],[]=>true
 | a::l,b::r=>match eqV a b with | true=>eqVL l r | false=>false
 | _,_=>false
end
theorem eqI_spec{a b:Int}(h:eqI a b=true):a=b:=by
 unfold eqI at h;split at h
 ·rw[jah h]
 ·rw[jah h]
 ·cases h
theorem eqU_spec:∀{a b:O},eqU a b=true→a=b
 | [],[],_=>rfl
 | a::l,b::r,h=>by
  simp only[eqU]at h;split at h
  ·rename_i hb;rw[UInt8.toNat_inj.1 (jah hb),eqU_spec h]
  ·cases h
 | [],_::_,h=>by cases h
 | _::_,[],h=>by cases h
theorem eqK_spec{a b:IntKind}(h:eqK a b=true):a=b:=by
 unfold eqK at h;split at h
 ·assumption
 ·cases h
mutual
theorem eqV_spec:∀{a b:Value},eqV a b=true→a=b
 | .int k a,.int k' b,h=>by
  simp only[eqV]at h;split at h
  ·rename_i hk;rw[eqK_spec hk,eqI_spec h]
  ·cases h
 | .bool a,.bool b,h=>by cases a<;>cases b<;>first | rfl | cases h
 | .string ⟨⟨a⟩⟩,.string ⟨⟨b⟩⟩,h=>by
  simp only[eqV]at h;rw[eqU_spec h]
 | .agg ⟨l⟩,.agg ⟨r⟩,h=>by
  simp only[eqV]at h;rw[jgw h]
 | .iface t a,.iface t' b,h=>by
  simp only[eqV]at h;split at h
  ·rename_i ht;rw[jah ht,eqV_spec h]
  ·cases h
 | .nilIface,.nilIface,_=>rfl
theorem jgw:∀{a b:U},eqVL a b=true→a=b
 | [],[],_=>rfl
 | a::l,b::r,h=>by
  simp only[eqVL]at h;split at h
  ·rename_i hb;rw[eqV_spec hb,jgw h]
  ·cases h
 | [],_::_,h=>by cases h
 | _::_,[],h=>by cases h
end
def memo:List (U×Value)→Spec
 | []=>fun _ _=>none
 | (a,v)::r=>fun args bs=>match eqVL args a with | true=>some (true,v) | false=>memo r args bs
theorem jfi{args:U}{bs:F}{b:Bool}{v:Value}:∀{l:List (U×Value)},memo l args bs=some (b,v)→b=true∧(args,v)∈l
 | [],h=>by cases h
 | (a,u)::r,h=>by
  simp only[memo]at h;split at h
  ·rename_i ha;simp only[Option.some.injEq,Prod.mk.injEq]at h;exact⟨h.1.symm,by rw[jgw ha,h.2];exact List.mem_cons_self ..⟩
  ·obtain⟨h1,h2⟩:=jfi h;exact⟨h1,List.mem_cons_of_mem _ h2⟩
variable [Tabs]
def AllD(P:Program)(G:Env)(L:Nat→Option jbr)(fn:Func):List (U×Value)→Prop
 | []=>True
 | (a,v)::r=>jb5 P G L fn a v∧AllD P G L fn r
theorem AllD_mem{P:Program}{G:Env}{L:Nat→Option jbr}{fn:Func}{a:U}{v:Value}:∀{l:List (U×Value)},AllD P G L fn l→(a,v)∈l→jb5 P G L fn a v
 | (a',v')::r,h,hm=>by
  rcases List.mem_cons.1 hm with e | hm
  ·cases e;exact h.1
  ·exact AllD_mem h.2 hm
theorem pure_memo{P:Program}{G:Env}{L:Nat→Option jbr}{f:FuncId}{fn:Func}(hG:jao P G)(hm:P.follows .mixedOrders=true)(hf:Fn1 P f fn)(hL:LOKf P L fn){l:List (U×Value)}
  (hp:(l.all fun x=>jav x.1&&Nat.ble x.1.length fn.ntmps)=true) (h:AllD P G L fn l):jal P f (memo l):=by
 refine jga hG hm hf hL fun args bs v hs=> ?_
 obtain⟨_,hmem⟩:=jfi hs;have:=List.all_eq_true.1 hp _ hmem;simp only[jaf]at this;exact⟨this.1,jag this.2,AllD_mem h hmem⟩
omit [Tabs] in
omit [Tabs] in
def RunL(P:Program)(G:Env)(L:Nat→Option jbr)(fn:Func):List (U×Value)→Prop
 | []=>True
 | (a,v)::r=>ja4 P G L fn a (fun _=>none) 0 (fun v' _ _=>v'=v)∧RunL P G L fn r
theorem allD_of{P:Program}{G:Env}{L:Nat→Option jbr}{fn:Func}:∀{l:List (U×Value)},RunL P G L fn l→AllD P G L fn l
 | [],_=>trivial
 | (_,_)::_,h=>⟨by rw[jb5];exact h.1,allD_of h.2⟩
inductive Nst where
 | leaf
 | app (src:Option Nat) (n s:Nat) (r:Nst)
 | bts (n:Nat) (r:Nst)
 | both (a b:Nst)
 | le (i:Nat) (r:Nst)
def lenB(t:U)(c n s:Nat):Bool:=Nat.beq (t.length+n*s) (c*s) &&Nat.ble n c&&Nat.ble c 9223372036854775807&&true&&true
def jg4(p:Prop):Nst→List (U×Nat×Nat×Nat)→Prop
 | .leaf,_=>p
 | .bts n r,e=>∀c:Nat,Nat.ble n c=true→jg4 p r e
 | .both a b,e=>jg4 p a e∧jg4 p b e
 | .le i r,e=>match e[i]? with
  | some (_,c0,n0,_)=>bif Nat.ble n0 c0 then jg4 p r e else False
  | none=>True
 | .app none n s r,e=>∀(c:Nat)(t:U),ja1 t c n s=true→jg4 p r ((t,c,n,s)::e)
 | .app (some i) n s r,e=>match e[i]? with
  | some (t0,c0,n0,s0)=>bif lenB t0 c0 n0 s0 then∀(c:Nat)(t:U),ja1 t c n s=true→jg4 p r ((t,c,n,s)::e)else False
  | none=>True
theorem lenB_ok{t:U}{c n s:Nat}(h:ja1 t c n s=true):lenB t c n s=true:=by
 simp only[ja1,jaf]at h;simp only[lenB,h.1.1.2,h.1.2,h.2,Bool.and_true]
theorem lenB_le{t:U}{c n s:Nat}(h:ja1 t c n s=true):Nat.ble n c=true:=by
 simp only[ja1,jaf]at h;exact h.1.2
theorem je6{p:Prop}(hp:p):∀(t:Nst)(e:List (U×Nat×Nat×Nat)),(∀x∈e,ja1 x.1 x.2.1 x.2.2.1 x.2.2.2=true)→jg4 p t e
 | .leaf,_,_=>hp
 | .bts n r,e,h=>fun c _=>je6 hp r e h
 | .both a b,e,h=>⟨je6 hp a e h,je6 hp b e h⟩
 | .le i r,e,h=>by
  simp only[jg4];split
  ·rename_i t0 c0 n0 s0 hi;rw[lenB_le (h _ (List.mem_of_getElem? hi))];exact je6 hp r e h
  ·trivial
 | .app none n s r,e,h=>fun c t ht=>je6 hp r _ fun x hx=>by
  rcases List.mem_cons.1 hx with rfl | hx
  ·exact ht
  ·exact h x hx
 | .app (some i) n s r,e,h=>by
  simp only[jg4];split
  ·rename_i t0 c0 n0 s0 hi;rw[lenB_ok (h _ (List.mem_of_getElem? hi))]
   exact fun c t ht=>je6 hp r _ fun x hx=>by
    rcases List.mem_cons.1 hx with rfl | hx
    ·exact ht
    ·exact h x hx
  ·trivial
def jkc:List (U×Value)→List Nst→Prop
 | [],_=>True
 | (_,v)::r,[]=>v=v∧jkc r []
 | (_,v)::r,k::ks=>jg4 (v=v) k []∧jkc r ks
omit [Tabs] in
theorem jhn:∀l ks,jkc l ks
 | [],_=>trivial
 | (_,_)::r,[]=>⟨rfl,jhn r []⟩
 | (_,_)::r,k::ks=>⟨je6 rfl k [] (by simp),jhn r ks⟩
theorem jap(ks:List Nst){P:Program}{G:Env}{L:Nat→Option jbr}{f:FuncId}{fn:Func}(hG:jao P G)(hm:P.follows .mixedOrders=true)(hf:Fn1 P f fn)(hL:LOKf P L fn){l:List (U×Value)}
  (hp:(l.all fun x=>jav x.1&&Nat.ble x.1.length fn.ntmps)=true) (h:RunL P G L fn l=jkc l ks):jal P f (memo l):=
 pure_memo hG hm hf hL hp (allD_of (cast h.symm (jhn l ks)))
end Go.Ab
end
noncomputable section
set_option maxHeartbeats 3200000
namespace Go.Cx
open Go Go.Ab Go.Proofs Go.Shelf Go.Px Go.Cv
open Go.Fx (Ty Vl jcg jcb most base pw bnd Fit fits tv vv tup V0 T0 jbj jbl ja8 jb2 str0)
def G0:Env:=Env.nil
theorem ok_G0:jao Tryz.prog G0:=ja7
def binG:E→Int→Int
 | [],a=>a
 | c::r,a=>binG r (2*a+(c-48))
theorem empty_iff(s:Y):(s.toList==(ByteArray.mk #[]).toList)=decide (bz s=[]):=by
 rw[jdu];rfl
def s152(c:U8):Bool×Value:=(true,B (c.n==32))
theorem fn152:Fn1 Tryz.prog 287 Tryz.f287:= .m Tryz.func287
theorem v152(c:U8)(R:Value→Prop):ja4 Tryz.prog G0 noL Tryz.f287 [Enc.enc c] (fun _=>none) 0 (fun v _ _=>R v)=(R (B (U8.n c==32))):=by kernel_rfl
theorem ok152:jal Tryz.prog 287 (sp1 s152):=by
 refine jcr ok_G0 hmix fn152 jai jag fun c hc=> ?_
 rw[jb5,v152]
 try dsimp only[s152]
def s213(c:U8):Bool×Value:=(true,B (dig c.n))
theorem fn213:Fn1 Tryz.prog 308 Tryz.f308:= .m Tryz.func308
theorem v213(c:U8)(R:Value→Prop):ja4 Tryz.prog G0 noL Tryz.f308 [Enc.enc c] (fun _=>none) 0 (fun v _ _=>R v)=(bif decide (U8.n c≥48) || true then R (B (decide (U8.n c≥48) &&decide (U8.n c≤57)))else False):=by kernel_rfl
theorem ok213:jal Tryz.prog 308 (sp1 s213):=by
 refine jcr ok_G0 hmix fn213 jai jag fun c hc=> ?_
 rw[jb5,v213]
 try dsimp only[s213]
 refine c_t (by simp) ?_;show Value.bool _=Value.bool _;congr 1;rw[Bool.eq_iff_iff];simp[dig]
def s141(k:Int):Bool×Value:=(true,I (most k))
theorem fn141:Fn1 Tryz.prog 176 Tryz.f176:= .m Tryz.func176
theorem v141(k:Int)(R:Value→Prop):ja4 Tryz.prog G0 noL Tryz.f176 [Enc.enc k] (fun _=>none) 0 (fun v _ _=>R v)=(bif k==1 then R (I 9)else R (I 31)):=by kernel_rfl
theorem ok141:jal Tryz.prog 176 (sp1 s141):=by
 refine jcr ok_G0 hmix fn141 jai jag fun k hc=> ?_
 rw[jb5,v141]
 try dsimp only[s141]
 repeat' apply cond_intro<;>intro h
 all_goals grind [s141,most]
def G1:Env:=Env.nil.add 176 (sp1 s141)
theorem ok_G1:jao Tryz.prog G1:=jak ja7 ok141
def s66(t:Ty):Bool×Value:=(true,I (jcg t))
theorem fn66:Fn1 Tryz.prog 121 Tryz.f121:= .m Tryz.func121
def l9(b:Bool)(a:Fx.Ty):Bool:=iy (al (Fx.Ty.q a) 0) (aq (Fx.Ty.q a) (Fx.Ty.p a) || (bif Fx.Ty.k a==2 then Fx.Ty.q a !=0 || (Fx.Ty.v a || b)else Fx.Ty.v a || b)) (Fx.Ty.p a) 1 (Fx.most (Fx.Ty.k a))
def l2(b:Bool)(a:Fx.Ty):Bool:=bif !Fx.Ty.k a==1 then !Fx.Ty.k a==2 || l9 b a else l9 b a
theorem v66(t:Ty)(R:Value→Prop):ja4 Tryz.prog G1 noL Tryz.f121 [Enc.enc t] (fun _=>none) 0 (fun v _ _=>R v)=(bif l2 true t then bif l2 (!fx (Fx.Ty.s t) ⟨#[]⟩) t then R (ak 5)else R (ak 0)else False):=by kernel_rfl
theorem ok66:jal Tryz.prog 121 (sp1 s66):=by
 refine jcr ok_G1 hmix fn66 jai jag fun t hc=> ?_
 rw[jb5,v66];delta ak aq al iy l9 l2 fx
 try dsimp only[s66]
 repeat' apply cond_intro<;>intro h
 all_goals grind [s66,jcg,jcb,str0]
def G2:Env:=Env.nil.add 121 (sp1 s66)
theorem ok_G2:jao Tryz.prog G2:=jak ja7 ok66
def s85(t:Ty):Bool×Value:=(true,B (decide (jcb t)))
theorem fn85:Fn1 Tryz.prog 305 Tryz.f305:= .m Tryz.func305
theorem v85(t:Ty)(R:Value→Prop):ja4 Tryz.prog G2 noL Tryz.f305 [Enc.enc t] (fun _=>none) 0 (fun v _ _=>R v)=(R (B (jcg t==0))):=by kernel_rfl
theorem ok85:jal Tryz.prog 305 (sp1 s85):=by
 refine jcr ok_G2 hmix fn85 jai jag fun t hc=> ?_
 rw[jb5,v85]
 try dsimp only[s85]
 show Value.bool _=Value.bool _;congr 1;rw[jcg];split<;>simp_all
def s74(s:Y):Bool×Value:=(decide (s.size≤9223372036854775807),B (jjj (bz s)))
def s82(s:Y):Bool×Value:=(jjj (bz s) &&decide (s.size≤64),C64 (binG (bz s) 0))
def nz(l:E):E:=trZ (tlZ l 48) 48
def jh7(g:Bool)(l:E)(q:Int):Num:=if nz l=[]then(false,[],0)else(g,nz l,q-((tlZ l 48).length-(nz l).length))
abbrev numV(x:Num):Value:= .agg ⟨[.bool x.1,.string (szO x.2.1),.int .i64 x.2.2]⟩
def num0:Num:=(false,[],0)
def s79(s:Y):Bool×Value:=(decide (s.size≤9223372036854775807),S (szO (trZ (tlZ (bz s) 32) 32)))
def s80(g:Bool)(s:Y)(q:Int):Bool×Value:=(decide (s.size≤1000∧ -100000≤q∧q≤100000),numV (jh7 g (bz s) q))
end Go.Cx
end
section
namespace Go.Cv
section
variable {l : List Int} {r : Rd} {c : Int}
variable {s p : Bool}
variable {g : Bool} {m : Nat}
end
end Go.Cv
end
noncomputable section
set_option maxHeartbeats 3200000
namespace Go.Cx
open Go Go.Ab Go.Proofs Go.Shelf Go.Px Go.Cv
open Go.Fx (Ty Vl jcg jcb most base pw bnd Fit fits tv vv tup V0 T0 jbj jbl ja8 jb2 str0)
inductive Ms where
 | beg | bod (s p:Bool) | exq (g:Bool) (m:Int) | beh
def Ms.v:Ms→Value
 | .beg=> .func (.func 286) ⟨[]⟩ ⟨[]⟩
 | .bod _ _=> .func (.func 307) ⟨[]⟩ ⟨[.pointer (some ⟨200,0,some 0⟩),.pointer (some ⟨201,0,some 0⟩)]⟩
 | .exq _ _=> .func (.func 315) ⟨[]⟩ ⟨[.pointer (some ⟨200,0,some 0⟩),.pointer (some ⟨201,0,some 0⟩)]⟩
 | .beh=> .func (.func 316) ⟨[]⟩ ⟨[]⟩
def Ms.ok(M:Ms)(e:Bool)(pw sc:Int):Bool:=match M with
 | .beg=>e&&decide (pw=0)
 | .bod s _=>e==s&&decide (pw=0)
 | .exq g m=>e==decide (0<m) &&decide (0≤m∧m≤2∧(g=false→m=0)∧0≤pw∧(m=0→pw=0)∧(m=1→pw<10)∧pw<100)
 | .beh=>e&&decide (0≤pw∧pw<100)
abbrev onV(x:Option Num):Value:= .tuple ⟨[numV (x.getD num0),.bool x.isSome]⟩
def chk4(t:Ty):Int:=if jcb t then 0
 else if t.k=3∧t.q=0∧bz t.s=[]∧0≤t.p∧t.p≤255 then 0
 else if t.k=4∧t.q=0∧bz t.s=[]∧t.v=false∧0≤t.p∧t.p≤64 then 0
 else if t.k=5∧t.p=0∧t.q=0∧t.v=false∧pE (bz t.s)=0 then 0
 else if t.k=6∧t.q=0∧bz t.s=[]∧t.p=0∧t.v=false then 0 else 5
def is4(v:Vl)(t:Ty):Bool:=
 if t.k=1∨t.k=2 then Fx.fits v t==0
 else if t.k=3 then decide (v.n=0∧((v.s.size:Int)=t.p∨t.v=true∧(v.s.size:Int)<t.p))
 else if t.k=4 then decide (v.n=0∧(v.s.size:Int)=t.p) &&jjj (bz v.s)
 else if t.k=5 then decide (v.n=0) &&hoZ (bz t.s) (bz v.s)
 else decide (bz v.s=[]∧0≤v.n∧v.n≤524288)
def fit4(v:Vl)(t:Ty):Int:=if chk4 t≠0 then chk4 t else if is4 v t=true then 0 else 6
def s144(t:Ty):Bool×Value:=(decide (jcb t),I (bnd t))
def K2:Env:=(Env.nil.add 121 (sp1 s66)).add 123 (sp1 s144)
theorem v70(v:Vl)(t:Ty)(R:Value→Prop):ja4 Tryz.prog K2 noL Tryz.f73 [Enc.enc v,Enc.enc t] (fun _=>none) 0 (fun v _ _=>R v)=(bif jcg t !=0 then R (I (jcg t))else bif decide (jcb t)then bif !v.s.toList==(ByteArray.mk #[]).toList || (decide (v.n≤IntKind.wrap .i64 (0-bnd t)) || true)then bif !v.s.toList==(ByteArray.mk #[]).toList || (decide (v.n≤IntKind.wrap .i64 (0-bnd t)) || decide (v.n≥bnd t))then R (I 6)else R (I 0)else False else False):=by kernel_rfl
def hideS(sp:Ab.Spec):U→Lk→Nat→(Value→Lk→Nat→Prop)→Prop:=fun args m n K=>match sp args (args.map (blkOf m))with
 | some (c,.string e)=>match cnd c with
  | true=>∀s':Y,e=s'→K (.string s') m n
  | false=>False
 | _=>False
structure DecIs (g:Bool)(s:Y)(x:Option Num):Prop where
 h:decR jh7 g (bz s)=x
def hid83:U→Lk→Nat→(Value→Lk→Nat→Prop)→Prop:=fun args m n K=>match args with
 | [.bool g,.string s]=>match cnd (decide (s.size≤1000))with
  | true=>∀x:Option Num,DecIs g s x→K (onV x) m n
  | false=>False
 | _=>False
def G6:Env:=(((((Env.nil.add 136 (sp1 s74)).add 83 (sp3 s80)).addG 80 (hideS (sp1 s79))).addG 84 (hideS (sp2 s87))).add 85 (sp1 s82)).addG 137 hid83
def ma(a c:Bool)(b:Prod E Int):U:=[.agg ⟨[.bool a,.string (szO b.fst),.int .i64 b.snd]⟩,.bool c]
def j8(a:Y):Y:=a.extract 0 (b9 (av a) 1).toNat
def k25(g:Bool)(t:Y)(R:Value→Prop):Prop:=gx (bn (b9 (av t) 1) 1) (dp (b9 (av t) 1) (av t) &&true) true (bn (b9 (av t) 1) 1&&jas t (b9 (av t) 1).toNat==66) (cu (aq (b9 (av t) 1) 31) (bv 0 (b9 (av t) 1) t.size&& (aw (j8 t) &&true)) (aq (b9 (av t) 1) 31 || !jjj (bz (j8 t))) (R (ay (.agg ⟨[B false,e7,ak 0]⟩::gl))) (bif bv 0 (b9 (av t) 1) t.size then b8 (jjj (bz (j8 t))) (decide ((j8 t).size≤64)) (dp (binG (bz (j8 t)) 0) 18446744073709551616&&true) (∀a:Y,sz (decZ (binG (bz (j8 t)) 0))=a→az (decide (a.size≤1000∧ -(100000:Int)≤0∧(0:Int)≤100000)) (ay (ma (jh7 g (bz a) 0).1 true (jh7 g (bz a) 0).2)) R) False else False)) (bif e8 t then∀a:Option Cv.Num,DecIs g t a→R (ay (ma (a.getD num0).fst a.isSome (a.getD num0).snd))else False)
theorem v25(s:Y)(R:Value→Prop):ja4 Tryz.prog G6 noL Tryz.f89 [Enc.enc s] (fun _=>none) 0 (fun v _ _=>R v)=(bif decide ((s.size:Int)>255)then R (.tuple (.mk [.agg (.mk [B false,S (ByteArray.mk #[]),I 0]),B false]))else bif decide (s.size≤9223372036854775807)then∀(s':Y),szO (trZ (tlZ (bz s) 32) 32)=s'→bif s'.toList==(ByteArray.mk #[]).toList then R (.tuple (.mk [.agg (.mk [B false,S (ByteArray.mk #[]),I 0]),B true]))else bif decide ((0:Int)≤0∧0<(s'.size:Int))then bif jas s' (Int.toNat 0)==45 || decide ((0:Int)≤0∧0<(s'.size:Int)) &&true then bif jas s' (Int.toNat 0)==45 || jas s' (Int.toNat 0)==43 then bif decide ((0:Int)≤1∧1≤(s'.size:Int)∧(s'.size:Int)≤(s'.size:Int))then k25 (jas s' (Int.toNat 0)==45) (ByteArray.extract s' (Int.toNat 1) s'.size) R else False else k25 (jas s' (Int.toNat 0)==45) s' R else False else False else False):=by kernel_rfl
structure Wh where
 n:Int
 t:Ty
instance:Enc Wh where
 enc x:= .agg ⟨[.int .i64 x.n,.int .i64 x.t.k,.int .i64 x.t.p,.int .i64 x.t.q,.bool x.t.v,.string x.t.s]⟩
 dec | .agg ⟨[.int .i64 n,.int .i64 k,.int .i64 p,.int .i64 q,.bool v,.string s]⟩=>some ⟨n,⟨k,p,q,v,s⟩⟩ | _=>none
 dec_some:=by
  intro v a h;split at h
  ·cases h;rfl
  ·cases h
 plain_enc _:=rfl
end Go.Cx
end
section
namespace Go.Cx
open Go Go.Proofs Go.RowKit Go.Extern.Stop Go.Stop Go.Extern
theorem as_nil(t:Value)(w:World):
  Calls Tryz.prog 168 #[.nilIface,t] w fun e w'=>e= .returned (.bool false)∧w'=w:=by
 go_enter Tryz.func168,Tryz.ntmps168
 go_wp2
 go_ret
 exact⟨rfl,rfl⟩
theorem a_valueOf121(t:Addr)(w:World):(ReflectliteValue.unpack (.iface 212 (.pointer (some t)))).run Tryz.prog w
  = .ok (.agg #[.pointer (some ⟨10,212,none⟩),.pointer (some ⟨w.heap.size,0,none⟩),.int .u64 150]) (w.alloc (.cells #[.pointer (some t)] 212)):=by kernel_rfl
theorem a_type121 (a : Addr) (w : World) : (ReflectliteValue.methodAny (ReflectliteValue.valueError "reflectlite.Value.Type" 0) (fun t _ _ _ => ReflectliteType.toType t) #[.agg #[.pointer (some ⟨10, 212, none⟩), .pointer (some a), .int .u64 150]]).run Tryz.prog w
  = .ok (.iface 304 (.agg #[.pointer (some ⟨10,212,none⟩)])) w:=by kernel_rfl
theorem a_kind121(w:World):((ReflectliteType.abiMethod fun t=>(fun a:Nat=>Value.int IntKind.u8 (a:Int)) <$> Rtype.kind t) #[.pointer (some ⟨10,212,none⟩)]).run Tryz.prog w= .ok (.int .u8 22) w:=by kernel_rfl
theorem a_kind119(w:World):((ReflectliteType.abiMethod fun t=>(fun a:Nat=>Value.int IntKind.u8 (a:Int)) <$> Rtype.kind t) #[.pointer (some ⟨10,210,none⟩)]).run Tryz.prog w= .ok (.int .u8 25) w:=by kernel_rfl
theorem a_rlm(z:Sem Value)(f:TypeId→Addr→Nat→Nat→Sem Value)(v:Value):
  ReflectliteValue.method z f #[v]=(do match←ReflectliteValue.parts v with | none=>z | some (t,a,fl)=>f t a fl (fl%32)):=rfl
theorem a_parts121(a:Addr)(w:World):(ReflectliteValue.parts (.agg #[.pointer (some ⟨10,212,none⟩),.pointer (some a),.int .u64 150])).run Tryz.prog w= .ok (some (212,a,150)) w:=by kernel_rfl
theorem a_isNil121(a p:Addr)(W:World)(ha:W.cell? a=some (.pointer (some p))):
  (ReflectliteValue.method (ReflectliteValue.valueError "reflectlite.Value.IsNil" 0) ReflectliteValue.isNil #[.agg #[.pointer (some ⟨10, 212, none⟩), .pointer (some a), .int .u64 150]]).run Tryz.prog W = .ok (.bool false) W := by
 rw[a_rlm];simp only[Sem.run_bind,a_parts121,Result.andThen];simp[ReflectliteValue.isNil,loadVar,isAgg,underlying,Tryz.underlying212,ha,Result.andThen]
theorem a_methodKind (h : Value) (w : World) : (Go.method 471 304 (.agg #[h]) "Kind").run Tryz.prog w = .ok (333, h) w := by kernel_rfl
theorem a_methodElem (h : Value) (w : World) : (Go.method 471 304 (.agg #[h]) "Elem").run Tryz.prog w = .ok (349, .agg #[h]) w := by kernel_rfl
theorem a_methodImplements (h : Value) (w : World) : (Go.method 471 304 (.agg #[h]) "Implements").run Tryz.prog w = .ok (350, .agg #[h]) w := by kernel_rfl
theorem a_methodAssignableTo (h : Value) (w : World) : (Go.method 471 304 (.agg #[h]) "AssignableTo").run Tryz.prog w = .ok (347, .agg #[h]) w := by kernel_rfl
theorem a_elem121(w:World):(ReflectliteType.method ReflectliteType.elem #[.agg #[.pointer (some ⟨10,212,none⟩)]]).run Tryz.prog w= .ok (.iface 304 (.agg #[.pointer (some ⟨10,210,none⟩)])) w:=by kernel_rfl
theorem a_implements119 (w : World) : (ReflectliteType.relation "Implements" ReflectliteType.implements_ #[.agg #[.pointer (some ⟨10, 210, none⟩)], .iface 304 (.agg #[.pointer (some ⟨10, 157, none⟩)])]).run Tryz.prog w = .ok (.bool true) w := by kernel_rfl
theorem a_typeOf119(v:Value)(w:World):(ReflectliteType.typeOf #[.iface 210 v]).run Tryz.prog w= .ok (.iface 304 (.agg #[.pointer (some ⟨10,210,none⟩)])) w:=by kernel_rfl
theorem a_assignable119 (w : World) : (ReflectliteType.relation "AssignableTo" ReflectliteType.assignableTo #[.agg #[.pointer (some ⟨10, 210, none⟩)], .iface 304 (.agg #[.pointer (some ⟨10, 210, none⟩)])]).run Tryz.prog w = .ok (.bool true) w := by kernel_rfl
theorem a_valueOf119(s:ByteArray)(w:World):(ReflectliteValue.unpack (.iface 210 (.agg #[.string s]))).run Tryz.prog w
  = .ok (.agg #[.pointer (some ⟨10,210,none⟩),.pointer (some ⟨w.heap.size,0,none⟩),.int .u64 153]) (w.alloc (.cells #[.string s] 210)):=by kernel_rfl
theorem a_elemOf121(w:World):(Rtype.elem? 212).run Tryz.prog w= .ok (some 210) w:=by kernel_rfl
theorem a_mk119(p:Addr)(w:World):(ReflectliteValue.mk 210 p ReflectliteValue.flagAddr).run Tryz.prog w= .ok (.agg #[.pointer (some ⟨10,210,none⟩),.pointer (some p),.int .u64 409]) w:=by kernel_rfl
theorem a_elemV121(a p:Addr)(W:World)(ha:W.cell? a=some (.pointer (some p))):
  (ReflectliteValue.method (ReflectliteValue.valueError "reflectlite.Value.Elem" 0) ReflectliteValue.elem #[.agg #[.pointer (some ⟨10, 212, none⟩), .pointer (some a), .int .u64 150]]).run Tryz.prog W
   = .ok (.agg #[.pointer (some ⟨10,210,none⟩),.pointer (some p),.int .u64 409]) W:=by
 rw[a_rlm];simp only[Sem.run_bind,a_parts121,Result.andThen];simp[ReflectliteValue.elem,loadVar,isAgg,underlying,Tryz.underlying212,ha,Result.andThen,a_elemOf121,a_mk119]
theorem a_rls(v x:Value):ReflectliteValue.set #[v,x]=(do
  let (some (dst,a,fl),some (src,b,_)):=(←ReflectliteValue.parts v,←ReflectliteValue.parts x)
   | unsupported (.noEntry "extern/(internal/reflectlite.Value).Set.zeroValue")
  if fl / ReflectliteValue.flagAddr % 2 == 0 then unsupported (.noEntry "extern/(internal/reflectlite.Value).Set.unaddressable")
  let val←loadVar src b
  if←Rtype.directlyAssignable dst src then storeVar dst a val
  else if←Rtype.implements dst src then
   if(←Rtype.kind src)==20 then
    match val with
    | .nilIface => unsupported (.noEntry "extern/reflectlite: a nil value of one interface type handed on as a value of another")
    | _=>storeVar dst a val
   else storeVar dst a (.iface src val)
  else panicString ("reflectlite.Set: value of type " ++ (← Rtype.spelt src) ++ " is not assignable to type " ++ (← Rtype.spelt dst))
  pure (.tuple #[])):=rfl
theorem a_parts119a(a:Addr)(w:World):(ReflectliteValue.parts (.agg #[.pointer (some ⟨10,210,none⟩),.pointer (some a),.int .u64 409])).run Tryz.prog w= .ok (some (210,a,409)) w:=by kernel_rfl
theorem a_parts119(a:Addr)(w:World):(ReflectliteValue.parts (.agg #[.pointer (some ⟨10,210,none⟩),.pointer (some a),.int .u64 153])).run Tryz.prog w= .ok (some (210,a,153)) w:=by kernel_rfl
theorem a_direct119(w:World):(Rtype.directlyAssignable 210 210).run Tryz.prog w= .ok true w:=by kernel_rfl
theorem a_size119(w:World):(sizeOf 210).run Tryz.prog w= .ok 1 w:=by kernel_rfl
theorem a_load119(b:Addr)(s:ByteArray)(W:World)(hb:W.cell? b=some (.string s))(hs:b.spot=none):(loadVar 210 b).run Tryz.prog W= .ok (.agg #[.string s]) W:=by
 obtain⟨bb,bo,bs⟩:=b;subst hs;simp[loadVar,isAgg,underlying,Tryz.underlying210,a_size119,loadCells,loadCellsFrom,Addr.add,hb,Result.andThen]
theorem a_set119(ta b:Addr)(s:ByteArray)(old:Value)(W:World)(hb:W.cell? b=some (.string s))(hs:b.spot=none)(ht:W.cell? ta=some old)(hts:ta.spot=none)(hf:W.frozen? ta=false):
  (ReflectliteValue.set #[.agg #[.pointer (some ⟨10, 210, none⟩), .pointer (some ta), .int .u64 409], .agg #[.pointer (some ⟨10, 210, none⟩), .pointer (some b), .int .u64 153]]).run Tryz.prog W
   = .ok (.tuple #[]) (W.setCell ta (.string s)):=by
 obtain⟨tb,tq,ts⟩:=ta;subst hts;rw[a_rls];simp only[Sem.run_bind,a_parts119a,a_parts119,Result.andThen];have hl:=a_load119 b s W hb hs;have hd:=a_direct119 W;simp[ReflectliteValue.flagAddr,hl,hd,storeVar,Value.cells,storeCells,Addr.add,a_size119,Result.andThen];rw[run_store Tryz.prog W ⟨tb,tq,none⟩ _ _ (by rfl)];simp[ht,hf]
end Go.Cx
end
section
namespace Go.Cx
open Go Go.Proofs Go.RowKit Go.Extern.Stop Go.Stop Go.Extern Go.Shelf
set_option maxRecDepth 100000 in
set_option maxHeartbeats 4000000 in
theorem as_hit(s:ByteArray)(t:Addr)(old:Value)(w:World)(hg:w.cell? ⟨0,0,none⟩=some (.iface 304 (.agg #[.pointer (some ⟨10,157,none⟩)])))(hts:t.spot=none)(ht0:w.cell? t=some old)(hf0:w.frozen? t=false):
  Calls Tryz.prog 168 #[.iface 210 (.agg #[.string s]),.iface 212 (.pointer (some t))] w fun ev w'=>ev= .returned (.bool true)∧w'=((((w.alloc (.cells #[.pointer (some t)] 212)).alloc (.cells #[.pointer (some ⟨10,212,none⟩),.pointer (some ⟨w.heap.size,0,none⟩),.int .u64 150] 261)).alloc (.cells #[.pointer (some ⟨10,212,none⟩),.pointer (some ⟨w.heap.size,0,none⟩),.int .u64 150] 261)).alloc (.cells #[.string s] 210)).setCell t (.string s):=by
 have h6:= @run_callFunc_extern Tryz.prog 234 _ (fun args=>ReflectliteValue.unpack (args.getD 0 (.tuple #[]))) Tryz.func234 (by kernel_rfl) (by kernel_rfl) (by kernel_rfl) (by kernel_rfl)
 have h7 := @run_callFunc_extern Tryz.prog 235 _ (ReflectliteValue.methodAny (ReflectliteValue.valueError "reflectlite.Value.Type" 0) (fun t _ _ _ => ReflectliteType.toType t)) Tryz.func235 (by kernel_rfl) (by kernel_rfl) (by kernel_rfl) (by kernel_rfl)
 have h8 := @run_callFunc_extern Tryz.prog 236 _ (ReflectliteValue.method (ReflectliteValue.valueError "reflectlite.Value.IsNil" 0) ReflectliteValue.isNil) Tryz.func236 (by kernel_rfl) (by kernel_rfl) (by kernel_rfl) (by kernel_rfl)
 have h27:= @run_callFunc_extern Tryz.prog 333 _ (ReflectliteType.abiMethod fun t=>do pure (.int .u8 (←Rtype.kind t))) Tryz.func333 (by kernel_rfl) (by kernel_rfl) (by kernel_rfl) (by kernel_rfl);have h37:= @run_callFunc_extern Tryz.prog 349 _ (ReflectliteType.method ReflectliteType.elem) Tryz.func349 (by kernel_rfl) (by kernel_rfl) (by kernel_rfl) (by kernel_rfl)
 have h38 := @run_callFunc_extern Tryz.prog 350 _ (ReflectliteType.relation "Implements" ReflectliteType.implements_) Tryz.func350 (by kernel_rfl) (by kernel_rfl) (by kernel_rfl) (by kernel_rfl)
 have h10:= @run_callFunc_extern Tryz.prog 283 _ ReflectliteType.typeOf Tryz.func283 (by kernel_rfl) (by kernel_rfl) (by kernel_rfl) (by kernel_rfl)
 have h35 := @run_callFunc_extern Tryz.prog 347 _ (ReflectliteType.relation "AssignableTo" ReflectliteType.assignableTo) Tryz.func347 (by kernel_rfl) (by kernel_rfl) (by kernel_rfl) (by kernel_rfl)
 have h11 := @run_callFunc_extern Tryz.prog 284 _ (ReflectliteValue.method (ReflectliteValue.valueError "reflectlite.Value.Elem" 0) ReflectliteValue.elem) Tryz.func284 (by kernel_rfl) (by kernel_rfl) (by kernel_rfl) (by kernel_rfl)
 have h12:= @run_callFunc_extern Tryz.prog 285 _ ReflectliteValue.set Tryz.func285 (by kernel_rfl) (by kernel_rfl) (by kernel_rfl) (by kernel_rfl);have tO:=a_typeOf119;have mA:=a_methodAssignableTo;have a25:=a_assignable119;have v25:=a_valueOf119;have f6:=a_valueOf121;have f7:=a_type121;have mK:=a_methodKind;have mE:=a_methodElem;have mI:=a_methodImplements;have k27:=a_kind121;have k25:=a_kind119;have e27:=a_elem121;have i25:=a_implements119;have n8:=a_isNil121 ⟨w.heap.size,0,none⟩ t ((w.alloc (.cells #[.pointer (some t)] 212)).alloc (.cells #[.pointer (some ⟨10,212,none⟩),.pointer (some ⟨w.heap.size,0,none⟩),.int .u64 150] 261)) (by simp)
 have hlt:0<w.heap.size:=by
  rcases Nat.eq_zero_or_pos w.heap.size with h0 | h
  ·simp[World.cell?,h0]at hg
  ·exact h
 have hg2:((w.alloc (.cells #[.pointer (some t)] 212)).alloc (.cells #[.pointer (some ⟨10,212,none⟩),.pointer (some ⟨w.heap.size,0,none⟩),.int .u64 150] 261)).cell? ⟨0,0,none⟩=some (.iface 304 (.agg #[.pointer (some ⟨10,157,none⟩)])):=by
  rw[World.cell?_alloc_lt _ _ ⟨0,0,none⟩ (by simp),World.cell?_alloc_lt _ _ ⟨0,0,none⟩ hlt];exact hg
 have htl:t.block<w.heap.size:=by
  rcases Nat.lt_or_ge t.block w.heap.size with h | h
  ·exact h
  ·simp[World.cell?,Array.getElem?_eq_none h]at ht0
 have el:=a_elemV121 ⟨w.heap.size,0,none⟩ t (((w.alloc (.cells #[.pointer (some t)] 212)).alloc (.cells #[.pointer (some ⟨10,212,none⟩),.pointer (some ⟨w.heap.size,0,none⟩),.int .u64 150] 261)).alloc (.cells #[.pointer (some ⟨10,212,none⟩),.pointer (some ⟨w.heap.size,0,none⟩),.int .u64 150] 261)) (by rw[World.cell?_alloc_lt _ _ ⟨w.heap.size,0,none⟩ (by simp;omega)];simp)
 have st:=a_set119 t ⟨w.heap.size+1+1+1,0,none⟩ s old ((((w.alloc (.cells #[.pointer (some t)] 212)).alloc (.cells #[.pointer (some ⟨10,212,none⟩),.pointer (some ⟨w.heap.size,0,none⟩),.int .u64 150] 261)).alloc (.cells #[.pointer (some ⟨10,212,none⟩),.pointer (some ⟨w.heap.size,0,none⟩),.int .u64 150] 261)).alloc (.cells #[.string s] 210))
  (by rw[World.cell?_alloc_at _ _ _ _ (by simp)];rfl) rfl
  (by rw[World.cell?_alloc_lt _ _ t (by simp;omega),World.cell?_alloc_lt _ _ t (by simp;omega),World.cell?_alloc_lt _ _ t (by simp;omega),World.cell?_alloc_lt _ _ t htl];exact ht0) hts
  (by rw[World.frozen?_alloc_old _ _ t (by simp;omega),World.frozen?_alloc_old _ _ t (by simp;omega),World.frozen?_alloc_old _ _ t (by simp;omega),World.frozen?_alloc_old _ _ t (Nat.ne_of_lt htl)];exact hf0)
 have e175:∀args w,(callFunc 237 args).run Tryz.prog w= .ok (.enter 237 args) w:=enters_of Tryz.func237 (by kernel_rfl) rfl
 go_enter Tryz.func168,Tryz.ntmps168
 go_wp2
 refine wp_loop_rounds 1 ?_;rw[rounds_succ]
 go_wp2
 go_ret
 exact⟨rfl,rfl⟩
end Go.Cx
end
noncomputable section
namespace Go.Cx
open Go Go.Ab Go.Proofs Go.RowKit
def h100:U→Lk→Nat→(Value→Lk→Nat→Prop)→Prop:=fun args m n K=>match args with
 | [.nilIface,_]=>K (.bool false) m n
 | [.iface t (.agg ⟨[.string s]⟩),.iface t' (.pointer (some ⟨k,0,some _⟩))]=>match Nat.beq t 210,Nat.beq t' 212,m k with
  | true,true,some ⟨[.string _],ty,true⟩=>match Nat.ble itTy ty with
   | false=>K (.bool true) (m.upd k ⟨[.string s],ty,true⟩) n
   | true=>False
  | _,_,_=>False
 | _=>False
theorem c100:jbh Tryz.prog 168:=⟨_,Tryz.func168,by kernel_rfl,rfl⟩
theorem tab_as{w:World}(h:TabsIn w.heap.size w):w.cell? ⟨0,0,none⟩=some (.iface 304 (.agg #[.pointer (some ⟨10,157,none⟩)])):=
 h.cell (b:=0) rfl (i:=0) rfl
theorem gen100:jda Tryz.prog 168 h100:=by
 refine⟨c100,fun args m n K hh N w0 ι w hrel hwf hargs=> ?_⟩;unfold h100 at hh;split at hh
 ·rename_i t;refine(as_nil (ren ι t) w).mono fun e w' ⟨h1,h2⟩=> ?_
  subst h2;exact⟨.bool false,m,n,ι,by rw[h1];rfl,hh,Nat.le_refl _,fun _ _=>rfl,hrel,hwf,by simp[ids]⟩
 ·rename_i t s t' k sp;split at hh
  case h_2=>exact hh.elim
  rename_i old ty ht ht' hk;split at hh
  case h_2=>exact hh.elim
  rename_i hty;have ht:=jah ht;have ht':=jah ht';subst ht ht';obtain⟨h1,h2,h3⟩:=hrel.blk k _ hk rfl;rw[objOf_cells hty]at h3
  have e1:([.iface 210 (.agg ⟨[.string s]⟩),.iface 212 (.pointer (some ⟨k,0,some sp⟩))]:U).map (ren ι)=[.iface 210 (.agg ⟨[.string s]⟩),.iface 212 (.pointer (some ⟨(ι k).1,0,none⟩))]:=by
   simp[ren,renL,ren1,h1]
  rw[e1]
  have hc:w.cell? ⟨(ι k).1,0,none⟩=some (.string old):=by
   simp only[World.cell?,h3];rfl
  have hf:w.frozen? ⟨(ι k).1,0,none⟩=false:=by
   simp[World.frozen?,h3]
  refine(as_hit s ⟨(ι k).1,0,none⟩ (.string old) w (tab_as hrel.tabs) rfl hc hf).mono fun e w' ⟨g1,g2⟩=> ?_
  have hb:Below w.heap.size w ((((w.alloc (.cells #[.pointer (some ⟨(ι k).1,0,none⟩)] 212)).alloc (.cells #[.pointer (some ⟨10,212,none⟩),.pointer (some ⟨w.heap.size,0,none⟩),.int .u64 150] 261)).alloc (.cells #[.pointer (some ⟨10,212,none⟩),.pointer (some ⟨w.heap.size,0,none⟩),.int .u64 150] 261)).alloc (.cells #[.string s] 210)):=
   ((((Below.refl _ _).alloc (Nat.le_refl _) _).alloc (by simp) _).alloc (by simp;omega) _).alloc (by simp;omega) _
  have hr:=hrel.grow hb;obtain⟨_,_,h4⟩:=hr.blk k _ hk rfl;rw[objOf_cells hty]at h4;have hw:=hr.write hk rfl (b':=⟨[.string s],ty,true⟩) rfl rfl rfl (it_ble hty);refine⟨.bool true,_,n,ι,by rw[g1];rfl,hh,Nat.le_refl _,fun _ _=>rfl,?_,fun j b hj=> ?_,by simp[ids]⟩
  ·rw[g2,setCell_eq_setRow _ _ _ _ _ _ _ h4];exact hw
  ·by_cases e:j=k
   ·subst e;rw[Lk.upd_same]at hj;cases hj;exact⟨(hwf j _ hk).1,by simp[idsL,ids]⟩
   ·rw[Lk.upd_other _ _ e]at hj;exact hwf j b hj
 ·exact hh.elim
end Go.Cx
end
noncomputable section
namespace Go.Cx
open Go Go.Ab Go.Proofs Go.Shelf Go.Px Go.Cv
end Go.Cx
end
noncomputable section
set_option maxHeartbeats 3200000
namespace Go.Cx
open Go Go.Ab Go.Proofs Go.Shelf Go.Px Go.Cv
open Go.Fx (Ty Vl jcg jcb most base pw bnd Fit fits tv vv tup V0 T0 jbj jbl ja8 jb2 str0)
instance tabsT:Tabs:=tabs
def bitW0(t:Ty):Int:=if t.k=2 then t.p else(332*(t.p-t.q)+99)/100
def scal(t:Ty):Int:=if t.k=6 then 5 else chk4 t
def numT(t:Ty):Bool:=t.k==5&&pN (bz t.s)
def piT(t:Ty):Ty:=⟨tyK (bz t.s),tyP (bz t.s),pQ (bz t.s),false,⟨#[]⟩⟩
def bwT(t:Ty):Int:=if t.k=1∨t.k=2 then bitW0 t else if numT t=true then bitW0 (piT t)else if t.k=5 then pW (bz t.s)else t.p
def bitT(t:Ty):Ty:=if scal t≠0 then T0 else⟨4,min 64 (bwT t),0,false,⟨#[]⟩⟩
def sz63(t:Ty):Prop:=t.s.size≤9223372036854775807
instance (t:Ty):Decidable (sz63 t):=by unfold sz63;infer_instance
def s43(t:Ty):Bool×Value:=(decide (sz63 t),.tuple ⟨[Fx.tv (bitT t),I (scal t)]⟩)
instance tabsT1:Tabs:=tabs
end Go.Cx
end
section
namespace Go.Fg
section
variable {α : Type} (d : α → Bool)
def grp:List α→List (List α)×List α
 | []=>([],[])
 | f::r=>match d f with
  | true=>([f]::(grp r).1,(grp r).2)
  | false=>match (grp r).1 with
   | g::gs=>((f::g)::gs,(grp r).2)
   | []=>([],f::(grp r).2)
def plc:List α→Nat→List Nat
 | [],_=> []
 | f::r,i=>match d f with
  | true=>i::plc r (i+1)
  | false=>plc r (i+1)
def itL(l:List α)(i:Nat):List α:=(if i%(grp d l).1.length=0∧0<i then(grp d l).2 else [])++(grp d l).1.getD (i%(grp d l).1.length) []
theorem jdq:∀l:List α,(grp d l).1.flatten++(grp d l).2=l
 | []=>rfl
 | f::r=>by
  have ih:=jdq r;unfold grp;cases d f with
  | true=>simp[ih]
  | false=>
   cases hg:(grp d r).1 with
   | nil=>simp only[hg,List.flatten_nil,List.nil_append]at ih;simp[ih]
   | cons g gs=>simp only[hg,List.flatten_cons,List.append_assoc]at ih;simp[ih]
theorem grp_ne:∀(l:List α),∀g∈(grp d l).1,g≠ []
 | [],g,h=>by cases h
 | f::r,g,h=>by
  have ih:=grp_ne r;unfold grp at h;cases hd:d f with
  | true=>
   simp only[hd,List.mem_cons]at h;rcases h with rfl | h
   ·simp
   ·exact ih g h
  | false=>
   cases hg:(grp d r).1 with
   | nil=>simp[hd,hg]at h
   | cons g' gs=>
    simp only[hd,hg,List.mem_cons]at h;rcases h with rfl | h
    ·simp
    ·exact ih g (by rw[hg];exact List.mem_cons_of_mem _ h)
theorem jd8:∀l:List α,(grp d l).1.length=l.countP d
 | []=>rfl
 | f::r=>by
  have ih:=jd8 r;unfold grp;cases hd:d f with
  | true=>simp[hd,ih]
  | false=>
   cases hg:(grp d r).1 with
   | nil=>simp only[hg,List.length_nil]at ih;simp[hd,←ih]
   | cons g gs=>simp only[hg,List.length_cons]at ih;simp[hd,←ih]
theorem plc_len:∀(l:List α)(i:Nat),(plc d l i).length=l.countP d
 | [],_=>rfl
 | f::r,i=>by
  have ih:=plc_len r (i+1);unfold plc;cases hd:d f<;>simp[hd,ih]
theorem ji6:∀(l:List α)(i o:Nat),o<(grp d l).1.length→(plc d l i)[o]?=some (i+((grp d l).1.take (o+1)).flatten.length-1)
 | [],_,_,h=>by cases h
 | f::r,i,o,h=>by
  have ih:=ji6 r (i+1);unfold plc;unfold grp at h ⊢;cases hd:d f with
  | true=>
   simp only[hd,List.length_cons]at h ⊢;cases o with
   | zero=>simp
   | succ o=>
    have:=ih o (by omega);simp only[List.getElem?_cons_succ,this,List.take_succ_cons,List.flatten_cons,List.length_append,List.length_cons,List.length_nil,Option.some.injEq];omega
  | false=>
   cases hg:(grp d r).1 with
   | nil=>simp[hd,hg]at h
   | cons g gs=>
    simp only[hd,hg,List.length_cons]at h ih ⊢;have:=ih o (by omega);simp only[this,List.take_succ_cons,List.flatten_cons,List.length_append,List.length_cons,Option.some.injEq];omega
theorem jc3{β:Type}(G:List (List β))(o:Nat)(h:o<G.length):(G.take (o+1)).flatten=(G.take o).flatten++G.getD o []:=by
 rw[List.take_add_one,List.flatten_append];congr 1;rw[List.getElem?_eq_getElem h,List.getD_eq_getElem?_getD,List.getElem?_eq_getElem h];simp
theorem cut_gen{β:Type}{A B C l:List β}(h:A++B++C=l):(l.drop A.length).take B.length=B:=by
 subst h;rw[List.append_assoc,List.drop_left,List.take_left]
theorem drop_gen{β:Type}{A B l:List β}(h:A++B=l):l.drop A.length=B:=by
 subst h;exact List.drop_left
theorem jiu(l:List α)(o:Nat)(h:o<(grp d l).1.length):(l.drop ((grp d l).1.take o).flatten.length).take ((grp d l).1.getD o []).length=(grp d l).1.getD o []:=by
 have e:=jdq d l
 have e2:(grp d l).1.flatten=((grp d l).1.take (o+1)).flatten++((grp d l).1.drop (o+1)).flatten:=by
  rw[←List.flatten_append,List.take_append_drop]
 rw[jc3 _ _ h]at e2;rw[e2,List.append_assoc]at e;exact cut_gen e
theorem je8(l:List α)(o:Nat)(h:o<(grp d l).1.length):1≤((grp d l).1.getD o []).length:=by
 have:=grp_ne d l ((grp d l).1.getD o []) (by rw[List.getD_eq_getElem?_getD,List.getElem?_eq_getElem h];simp);cases hq:(grp d l).1.getD o []with
 | nil=>exact absurd hq this
 | cons=>simp
theorem plc_own(l:List α)(o:Nat)(h:o<(grp d l).1.length):(plc d l 0)[o]?=some (((grp d l).1.take o).flatten.length+((grp d l).1.getD o []).length-1):=by
 have:=ji6 d l 0 o h;rw[this,jc3 _ _ h,List.length_append,Nat.zero_add]
theorem plc_prev(l:List α)(o:Nat)(h:o<(grp d l).1.length)(h0:0<o):∃p,(plc d l 0)[o-1]?=some p∧p+1=((grp d l).1.take o).flatten.length:=by
 have h1:o-1<(grp d l).1.length:=by omega
 have e:=ji6 d l 0 (o-1) h1;rw[show o-1+1=o by omega]at e;refine⟨_,e,?_⟩;have:=je8 d l (o-1) h1;have e2:=jc3 (grp d l).1 (o-1) h1;rw[show o-1+1=o by omega]at e2;rw[e2,List.length_append];omega
theorem plc_last(l:List α)(h:0<(grp d l).1.length):∃p,(plc d l 0)[(grp d l).1.length-1]?=some p∧p+1=(grp d l).1.flatten.length∧l.drop (p+1)=(grp d l).2:=by
 have h1:(grp d l).1.length-1<(grp d l).1.length:=by omega
 have e:=ji6 d l 0 _ h1;rw[show(grp d l).1.length-1+1=(grp d l).1.length by omega,List.take_length]at e
 have q:1≤(grp d l).1.flatten.length:=by
  have:=je8 d l 0 h;have e2:=jc3 (grp d l).1 0 h
  have e3:(grp d l).1.flatten=((grp d l).1.take (0+1)).flatten++((grp d l).1.drop (0+1)).flatten:=by
   rw[←List.flatten_append,List.take_append_drop]
  rw[e2]at e3;rw[e3,List.length_append,List.length_append];omega
 refine⟨_,e,by omega,?_⟩;rw[show 0+(grp d l).1.flatten.length-1+1=(grp d l).1.flatten.length by omega];exact drop_gen (jdq d l)
variable {d} {l : List α}
end
end Go.Fg
end
noncomputable section
namespace Go.Cx
open Go Go.Ab Go.Px Go.Cv
end Go.Cx
end
noncomputable section
namespace Go.Cx
open Go Go.Ab Go.Px Go.Cv
open Go.Fx (Ty Vl jcg jcb most base pw bnd Fit fits)
end Go.Cx
end
noncomputable section
set_option maxHeartbeats 3200000
namespace Go.Cx
open Go Go.Ab Go.Proofs Go.Shelf Go.Px Go.Cv
open Go.Fx (Ty Vl jcg jcb most base pw bnd Fit fits tv vv tup V0 T0 jbj jbl ja8 jb2 str0)
instance tabsU:Tabs:=tabs
instance tabsU4:Tabs:=tabs
end Go.Cx
end
noncomputable section
namespace Go.Cx
open Go Go.Ab Go.Proofs Go.Shelf Go.Px Go.Cv
end Go.Cx
end
noncomputable section
namespace Go.Cx
open Go Go.Ab Go.Px Go.Cv
open Go.Fx (Ty Vl jcg jcb most base pw bnd Fit fits scl cutN cutC InB)
end Go.Cx
end
noncomputable section
set_option maxHeartbeats 3200000
namespace Go.Cx
open Go Go.Ab Go.Proofs Go.Shelf Go.Px Go.Cv
open Go.Fx (Ty Vl jcg jcb most base pw bnd Fit fits tv vv tup V0 T0 jbj jbl ja8 jb2 str0)
instance tabsT2:Tabs:=tabs
def isR(s:Y)(c:Int)(l:E):Prop:=bz s=List.replicate (s.size-l.length) c++l∧l.length≤s.size
instance (s:ByteArray)(c:Int)(l:List Int):Decidable (isR s c l):=by unfold isR;infer_instance
structure Sh where
 s:Y
 p:Y
instance:Enc Sh where
 enc x:= .agg ⟨[.string x.s,.string x.p]⟩
 dec | .agg ⟨[.string s,.string p]⟩=>some ⟨s,p⟩ | _=>none
 dec_some:=by
  intro v a h;split at h
  ·cases h;rfl
  ·cases h
 plain_enc _:=rfl
instance tabsT5:Tabs:=tabs
instance tabsU6:Tabs:=tabs
def toC(v:Vl)(f t:Ty):Prop:=t.s.size≤9223372036854775807∧f.s.size≤9223372036854775807∧v.s.size≤9223372036854775807
instance (v:Vl)(f t:Ty):Decidable (toC v f t):=by unfold toC;infer_instance
def earl(v:Vl)(f t:Ty):Prop:=fit4 v f≠0∨chk4 t≠0∨f.k=6∨t.k=6
instance (v:Vl)(f t:Ty):Decidable (earl v f t):=by unfold earl;infer_instance
end Go.Cx
end
noncomputable section
namespace Go.Px
open Go Go.Ab Go.Proofs
end Go.Px
end
noncomputable section
set_option maxHeartbeats 3200000
namespace Go.Cx
open Go Go.Ab Go.Proofs Go.Shelf Go.Px Go.Cv
open Go.Fx (Ty Vl jcg jcb most base pw bnd Fit fits tv vv tup V0 T0 jbj jbl ja8 jb2 str0 scl cutN cutC InB)
end Go.Cx
end
noncomputable section
set_option maxHeartbeats 3200000
namespace Go.Cx
open Go Go.Ab Go.Proofs Go.Shelf Go.Px Go.Cv
open Go.Fx (Ty Vl jcg jcb most base pw bnd Fit fits tv vv tup V0 T0 jbj jbl ja8 jb2 str0)
end Go.Cx
end
noncomputable section
namespace Go.Ff
open Go Go.Ab Go.Proofs Go.Shelf Go.RowKit
section
variable {P : Program} {ρ : Ren}
set_option maxHeartbeats 1000000 in
set_option maxRecDepth 100000 in
theorem chk_fresh(L:Lays.n240 P ρ)(X:Builder.X72 P ρ){e:TypeId}{cells:Nat}(b:Nat)(w:World)(h0:w.cell? ⟨b,0,none⟩=some (.pointer none))(hsh:w.shape? b=some (e,cells))(hlt:0<cells)
  (hlies:liesAt P P.depth e (cells/P.cellsOf e) 0 (ρ.t 72) 1=true) (hfz:w.frozen? ⟨b,0,none⟩=false):
  Calls P (ρ.f 240) #[.pointer (some ⟨b,0,none⟩)] w fun e w'=>e= .returned (.tuple #[])∧w'=w.setCell ⟨b,0,none⟩ (.pointer (some ⟨b,0,none⟩)):=by
 obtain⟨j,hj,hjs⟩:=Option.map_eq_some_iff.1 X.sizeBuilder;have mixed:=L.mixed;have t72:=L.t72;have a72:=L.a72;have z72:=L.z72;have v72:=L.v72;have u72:=run_underlying L.t72;have t70:=L.t70;have a70:=L.a70;have z70:=L.z70;have v70:=L.v70;have u70:=run_underlying L.t70;have t9:=L.t9;have a9:=L.a9;have z9:=L.z9;have v9:=L.v9;have u9:=run_underlying L.t9;have t4:=L.t4;have a4:=L.a4;have z4:=L.z4;have v4:=L.v4;have u4:=run_underlying L.t4;have t164:=L.t164;have a164:=L.a164;have z164:=L.z164;have v164:=L.v164;have u164:=run_underlying L.t164
 go_enter L.f240,Body.n240_ntmps ρ
 go_wp2
 rw[Lib.run_to_unsafe w ⟨b,0,none⟩ L.t70 L.t164 hj (by rw[hjs];decide) hsh hlt];simp only[Result.andThen];rw[Oper.upon_value]
 go_wp2
 rw[run_callFunc_extern L.f276 (by kernel_rfl) (by kernel_rfl) (by kernel_rfl) (e:=Extern.AbiNoEscape.same) (by kernel_rfl)];rw[Lib.run_noEscape];simp only[Result.andThen];rw[Oper.upon_value]
 go_wp2
 rw[Lib.run_from_unsafe w ⟨b,0,none⟩ L.t164 L.t70 hj hsh hlies];simp only[Result.andThen];rw[Oper.upon_value]
 go_wp2
 go_end0
 exact⟨rfl,rfl⟩
set_option maxHeartbeats 1000000 in
set_option maxRecDepth 100000 in
theorem str_row(L:Lays.n169 P ρ)(X:Builder.Extra P ρ)(b g cap:Nat)(cur:Array Value)(l:O)(w:World)(h0:l≠ [])
  (hb:w.cell? ⟨b,1,none⟩=some (.slice (some ⟨g,0,none⟩) l.length cap)) (hg:w.shape? g=some (ρ.t 5,cur.size)) (hcap:cap≠0) (hl:l.length≤cur.size) (h63:l.length≤9223372036854775807)
  (hc:∀j x,l[j]?=some x→w.cell? ((⟨g,0,none⟩:Addr).add j)=some (.int .u8 x.toNat)):
  Calls P (ρ.f 169) #[.pointer (some ⟨b,0,none⟩)] w fun e w'=>e= .returned (.string ⟨l.toArray⟩)∧w'=w.drew.freeze ⟨g,0,none⟩ l.length:=by
 have c1:w.drew.cell? ⟨b,1,none⟩=some (.slice (some ⟨g,0,none⟩) l.length cap):=hb
 have hSD:(Builtin.unsafeSliceData_ #[(ρ.t 37)] (ρ.t 127) #[.slice (some ⟨g,0,none⟩) l.length cap]).run P w.drew= .ok (.pointer (some ⟨g,0,none⟩)) w.drew:=
  Lib.run_unsafeSliceData_row _ _ _ _ _ _ (by omega)
 have hUS:(Builtin.unsafeString_ #[(ρ.t 127),(ρ.t 3)] (ρ.t 9) #[.pointer (some ⟨g,0,none⟩),.int .i64 l.length]).run P w.drew= .ok (.string ⟨l.toArray⟩) (w.drew.freeze ⟨g,0,none⟩ l.length):=
  Lib.run_unsafeString_row w.drew (ρ.t 127) (ρ.t 3) (ρ.t 9) (ρ.t 5) L.t127 X.cellsByte g cur.size hg l h0 hl h63 hc
 have mixed:=L.mixed;have t72:=L.t72;have a72:=L.a72;have z72:=L.z72;have v72:=L.v72;have u72:=run_underlying L.t72;have t70:=L.t70;have a70:=L.a70;have z70:=L.z70;have v70:=L.v70;have u70:=run_underlying L.t70;have t37:=L.t37;have a37:=L.a37;have z37:=L.z37;have v37:=L.v37;have u37:=run_underlying L.t37;have t127:=L.t127;have a127:=L.a127;have z127:=L.z127;have v127:=L.v127;have u127:=run_underlying L.t127;have t3:=L.t3;have a3:=L.a3;have z3:=L.z3;have v3:=L.v3;have u3:=run_underlying L.t3;have t9:=L.t9;have a9:=L.a9;have z9:=L.z9;have v9:=L.v9;have u9:=run_underlying L.t9;have t5:=X.t5;have a5:=X.a5;have z5:=X.z5;have v5:=X.v5;have u5:=run_underlying X.t5
 go_enter L.f169,Body.n169_ntmps ρ
 go_wp2
 go_region_o
 all_goals (go_wp2;go_ret;exact⟨rfl,rfl⟩)
set_option maxHeartbeats 2000000 in
set_option maxRecDepth 100000 in
theorem str_nil(L:Lays.n169 P ρ)(X:Builder.Extra P ρ)(b:Nat)(w:World)(hb:w.cell? ⟨b,1,none⟩=some (.slice none 0 0)):
  Calls P (ρ.f 169) #[.pointer (some ⟨b,0,none⟩)] w fun e w'=>e= .returned (.string ⟨#[]⟩)∧w'=w.drew:=by
 have hUS:=Any.unsafeString_none L X;have c1:w.drew.cell? ⟨b,1,none⟩=some (.slice none 0 0):=hb;have hSD:(Builtin.unsafeSliceData_ #[(ρ.t 37)] (ρ.t 127) #[.slice none 0 0]).run P w.drew= .ok (.pointer none) w.drew:=rfl;have mixed:=L.mixed;have t72:=L.t72;have a72:=L.a72;have z72:=L.z72;have v72:=L.v72;have u72:=run_underlying L.t72;have t70:=L.t70;have a70:=L.a70;have z70:=L.z70;have v70:=L.v70;have u70:=run_underlying L.t70;have t37:=L.t37;have a37:=L.a37;have z37:=L.z37;have v37:=L.v37;have u37:=run_underlying L.t37;have t127:=L.t127;have a127:=L.a127;have z127:=L.z127;have v127:=L.v127;have u127:=run_underlying L.t127;have t3:=L.t3;have a3:=L.a3;have z3:=L.z3;have v3:=L.v3;have u3:=run_underlying L.t3;have t9:=L.t9;have a9:=L.a9;have z9:=L.z9;have v9:=L.v9;have u9:=run_underlying L.t9;have t5:=X.t5;have a5:=X.a5;have z5:=X.z5;have v5:=X.v5;have u5:=run_underlying X.t5
 go_enter L.f169,Body.n169_ntmps ρ
 go_wp2
 go_region_o
 all_goals (go_wp2;go_ret;exact⟨rfl,rfl⟩)
set_option maxHeartbeats 1000000 in
set_option maxRecDepth 100000 in
theorem len_at(L:Lays.n170 P ρ)(b:Nat){ao:Option Addr}{q cap:Nat}(w:World)(c1:w.cell? ⟨b,1,none⟩=some (.slice ao q cap)):
  Calls P (ρ.f 170) #[.pointer (some ⟨b,0,none⟩)] w fun e w'=>e= .returned (.int .i64 q)∧w'=w:=by
 have mixed:=L.mixed;have t72:=L.t72;have a72:=L.a72;have z72:=L.z72;have v72:=L.v72;have u72:=run_underlying L.t72;have t70:=L.t70;have a70:=L.a70;have z70:=L.z70;have v70:=L.v70;have u70:=run_underlying L.t70;have t37:=L.t37;have a37:=L.a37;have z37:=L.z37;have v37:=L.v37;have u37:=run_underlying L.t37;have t3:=L.t3;have a3:=L.a3;have z3:=L.z3;have v3:=L.v3;have u3:=run_underlying L.t3
 go_enter L.f170,Body.n170_ntmps ρ
 go_wp2
 go_ret
 exact⟨rfl,rfl⟩
end
section
variable [Tabs] {N : Nat} {w0 w : World} {m : Lk} {ι : Nm}
theorem RelM.drew(h:RelM N w0 m ι w):RelM N w0 m ι w.drew:=h.grow (Below.drew (Below.refl _ w))
theorem freezeN_heap(w:World)(a:Addr){n:Nat}(hn:n≠0)(j:Nat):(w.freeze a n).heap[j]?=if j=a.block then(w.heap[j]?).map (fun o=>match o with | .cells c el (lo,hi)=> .cells c el (if lo==hi then(a.off,a.off+n)else(min lo a.off,max hi (a.off+n))) | o=>o)else w.heap[j]?:=by
 unfold World.freeze;rw[if_neg hn];simp only[Array.getElem?_modify];by_cases h:a.block=j
 ·subst h;rw[if_pos rfl,if_pos rfl];cases w.heap[a.block]? with
  | none=>rfl
  | some o=>cases o<;>rfl
 ·rw[if_neg h,if_neg (fun q=>h q.symm)]
theorem freezeN_cell(w:World)(a p:Addr){n:Nat}(hn:n≠0):(w.freeze a n).cell? p=w.cell? p:=by
 unfold World.cell?;rw[freezeN_heap w a hn];by_cases h:p.block=a.block
 ·rw[if_pos h];cases hh:w.heap[p.block]? with
  | none=>rfl
  | some o=>
   cases o with
   | cells c el fr=>obtain⟨lo,hi⟩:=fr;rfl
   | _=>rfl
 ·rw[if_neg h]
theorem RelM.frozenN(h:RelM N w0 m ι w){k:Nat}{b:Blk}(hk:m k=some b)(ho:b.own=true)(hit:Nat.ble itTy b.ty=false)(q:Nat){n:Nat}(hn:n≠0):
  RelM N w0 (m.upd k ⟨b.c,b.ty,false⟩) ι (w.freeze ⟨(ι k).1,q,none⟩ n):=by
 obtain⟨g1,g2,g3⟩:=h.blk k b hk ho
 have hsz:(w.freeze ⟨(ι k).1,q,none⟩ n).heap.size=w.heap.size:=by
  unfold World.freeze;rw[if_neg hn];simp
 have hoth:∀j,j≠(ι k).1→(w.freeze ⟨(ι k).1,q,none⟩ n).heap[j]?=w.heap[j]?:=fun j hj=>by rw[freezeN_heap _ _ hn,if_neg hj]
 have hget:∀j c,m.upd k ⟨b.c,b.ty,false⟩ j=some c→(j=k∧c=⟨b.c,b.ty,false⟩)∨(j≠k∧m j=some c):=fun j c hj=>by
  by_cases e:j=k
  ·subst e;rw[Lk.upd_same]at hj;cases hj;exact .inl ⟨rfl,rfl⟩
  ·rw[Lk.upd_other _ _ e]at hj;exact .inr ⟨e,hj⟩
 refine⟨⟨?_,?_,?_,?_,?_⟩,h.base,?_,?_,?_⟩
 ·rw[←h.below.os];unfold World.freeze;rw[if_neg hn]
 ·rw[←h.below.tape];unfold World.freeze;rw[if_neg hn]
 ·rw[←h.below.output];unfold World.freeze;rw[if_neg hn]
 ·rw[hsz];exact h.below.size
 ·intro j hj;rw[hoth j (by omega)];exact h.below.block j hj
 ·intro j c hj hc;rcases hget j c hj with⟨_,rfl⟩ | ⟨e,hj⟩
  ·cases hc
  ·obtain⟨q1,q2,q3⟩:=h.blk j c hj hc;refine⟨q1,q2,?_⟩;rw[hoth _ (h.inj j k c b hj hk hc e)];exact q3
 ·intro j c hj hc;rcases hget j c hj with⟨rfl,rfl⟩ | ⟨e,hj⟩
  ·refine⟨by rw[hsz];exact h.lt hk ho,fun i v hv=> ?_⟩;rw[freezeN_cell _ _ _ hn,World.cell?,g3,objOf_cells hit,g1,Nat.zero_add];simp only[Option.isSome_none,Bool.false_eq_true,if_false];have hv:b.c[i]?=some v:=hv;simp[hv]
  ·obtain⟨q1,q2⟩:=h.view j c hj hc;refine⟨by rw[hsz];exact q1,fun i v hv=> ?_⟩;rw[freezeN_cell _ _ _ hn];exact q2 i v hv
 ·intro j j' c c' hj hj' hc hne;rcases hget j c hj with⟨_,rfl⟩ | ⟨e,hj1⟩
  ·cases hc
  ·rcases hget j' c' hj' with⟨e',_⟩ | ⟨e',hj2⟩
   ·exact h.inj j j' c b hj1 (by rw[e'];exact hk) hc hne
   ·exact h.inj j j' c c' hj1 hj2 hc hne
end
def jj7(b:Blk):Bool:=b.own&& (Nat.beq b.ty 109&&Nat.beq b.c.length 2 || Nat.beq b.ty 111&&Nat.beq b.c.length 3)
def h134:U→Lk→Nat→(Value→Lk→Nat→Prop)→Prop:=fun args m n K=>match args with
 | [.pointer (some ⟨k,0,some sp⟩)]=>match m k with
  | some b=>match jj7 b,b.c with
   | true,.pointer none::r=>K (.tuple ⟨[]⟩) (m.upd k ⟨.pointer (some ⟨k,0,some sp⟩)::r,b.ty,true⟩) n
   | true,.pointer (some ⟨k',0,some _⟩)::_=>match Nat.beq k' k with
    | true=>K (.tuple ⟨[]⟩) m n
    | false=>False
   | _,_=>False
  | none=>False
 | _=>False
def isB8:U→Bool
 | []=>true
 | .int .u8 n::r=>decide (0≤n∧n<256) &&isB8 r
 | _=>false
def h54:U→Lk→Nat→(Value→Lk→Nat→Prop)→Prop:=fun args m n K=>match args with
 | [.pointer (some ⟨k,0,some _⟩)]=>match m k with
  | some b=>match jj7 b,b.c with
   | true,_:: .slice none 0 0::_=>K (.string ⟨#[]⟩) m n
   | true,_:: .slice (some ⟨g,0,some _⟩) q cap::_=>match m g with
    | some d=>match d.own&& (Nat.beq d.ty 5&& (!Nat.beq q 0&& (Nat.ble q d.c.length&& (Nat.ble q 9223372036854775807&& (isB8 (d.c.take q) &&Nat.ble q cap)))))with
     | true=>K (.string (jb9 d.c 0 q)) (m.upd g ⟨d.c,d.ty,false⟩) n
     | false=>False
    | none=>False
   | _,_=>False
  | none=>False
 | _=>False
theorem jgb{b:Blk}(h:jj7 b=true):b.own=true∧Nat.ble itTy b.ty=false∧0<b.c.length∧liesAt Tryz.prog Tryz.prog.depth b.ty (b.c.length/Tryz.prog.cellsOf b.ty) 0 109 1=true:=by
 unfold jj7 at h;simp only[jaf,Bool.or_eq_true,Nat.beq_eq]at h;obtain⟨h1,⟨h2,h3⟩ | ⟨h2,h3⟩⟩:=h
 ·rw[h2,h3];exact⟨h1,rfl,by decide,by kernel_rfl⟩
 ·rw[h2,h3];exact⟨h1,rfl,by decide,by kernel_rfl⟩
theorem isB8_spec:∀{l:U},isB8 l=true→(jc6 l).length=l.length∧ ∀(j:Nat)(x:UInt8),(jc6 l)[j]?=some x→l[j]?=some (.int .u8 x.toNat)
 | [],_=>⟨rfl,fun j x h=>by simp[jc6]at h⟩
 | v::r,h=>by
  unfold isB8 at h;split at h
  ·rename_i heq;cases heq
  ·rename_i n r' heq;cases heq;simp only[jaf,jae]at h;obtain⟨⟨h1,h2⟩,h3⟩:=h;obtain⟨q1,q2⟩:=isB8_spec h3;refine⟨by simp[jc6,q1],fun j x hx=> ?_⟩;cases j with
   | zero=>
    simp only[jc6,List.getElem?_cons_zero,Option.some.injEq]at hx;subst hx;have:((UInt8.ofNat n.toNat).toNat:Int)=n:=by rw[UInt8.toNat_ofNat'];omega
    rw[this];rfl
   | succ j=>exact q2 j x (by simpa[jc6]using hx)
  ·cases h
variable [Tabs]
theorem gen134:jda Tryz.prog 157 h134:=by
 refine⟨⟨_,Tryz.func157,by kernel_rfl,rfl⟩,fun args m n K hh N w0 ι w hrel hwf hargs=> ?_⟩;unfold h134 at hh;split at hh
 case h_2=>exact hh.elim
 rename_i k sp;split at hh
 case h_2=>exact hh.elim
 rename_i b hk;have hargs':([.pointer (some ⟨k,0,some sp⟩)]:U).map (ren ι)=[.pointer (some ⟨(ι k).1,0,none⟩)]→True:=fun _=>trivial
 split at hh
 ·rename_i r hb hc;obtain⟨ho,hit,hpos,hlies⟩:=jgb hb;obtain⟨g1,g2,g3⟩:=hrel.blk k b hk ho;rw[objOf_cells hit]at g3;have e1:([.pointer (some ⟨k,0,some sp⟩)]:U).map (ren ι)=[.pointer (some ⟨(ι k).1,0,none⟩)]:=by simp[ren,ren1,g1]
  rw[e1]
  have hc0:w.cell? ⟨(ι k).1,0,none⟩=some (.pointer none):=by
   rw[World.cell?,g3,hc];rfl
  have hfz:w.frozen? ⟨(ι k).1,0,none⟩=false:=by simp[World.frozen?,g3]
  have hsh:w.shape? (ι k).1=some (b.ty,b.c.length):=by simp[World.shape?,g3]
  refine(chk_fresh (P:=Tryz.prog) (ρ:=Tryz.lays105_ren) {Tryz.lays105 with} Tryz.Builder_Extra_105.toX72 (ι k).1 w hc0 hsh hpos hlies hfz).mono fun e w' ⟨h1,h2⟩=> ?_
  subst h2;have hw:=hrel.write hk ho (b':=⟨.pointer (some ⟨k,0,some sp⟩)::r,b.ty,true⟩) rfl rfl (by rw[hc];rfl) (it_ble hit);refine⟨.tuple ⟨[]⟩,_,n,ι,by rw[h1];simp[ren,renL],hh,Nat.le_refl _,fun _ _=>rfl,?_,fun j c hj=> ?_,by simp[ids,idsL]⟩
  ·rw[setCell_eq_setRow _ _ _ _ _ _ _ g3]
   have:(⟨(⟨.pointer (some ⟨k,0,some sp⟩)::r,b.ty,true⟩:Blk).c.map (ren ι)⟩:Array Value)=(⟨b.c.map (ren ι)⟩:Array Value).setIfInBounds 0 (.pointer (some ⟨(ι k).1,0,none⟩)):=by
    rw[hc];simp[ren,ren1,g1]
   rw[this]at hw;exact hw
  ·by_cases e:j=k
   ·subst e;rw[Lk.upd_same]at hj;cases hj;obtain⟨q1,q2⟩:=hwf j b hk;refine⟨q1,fun i hi=> ?_⟩;simp only[idsL,ids,List.singleton_append,List.mem_cons]at hi;rcases hi with rfl | hi
    ·exact q1
    ·exact q2 i (by rw[hc];simp only[idsL,ids,List.nil_append];exact hi)
   ·rw[Lk.upd_other _ _ e]at hj;exact hwf j c hj
 ·rename_i k' sp' r hb hc;split at hh
  case h_2=>exact hh.elim
  rename_i hkk;have hkk:=jah hkk;subst hkk;obtain⟨ho,hit,hpos,hlies⟩:=jgb hb;obtain⟨g1,g2,g3⟩:=hrel.blk k' b hk ho;rw[objOf_cells hit]at g3;have e1:([.pointer (some ⟨k',0,some sp⟩)]:U).map (ren ι)=[.pointer (some ⟨(ι k').1,0,none⟩)]:=by simp[ren,ren1,g1]
  rw[e1]
  have hc0:w.cell? ⟨(ι k').1,0,none⟩=some (.pointer (some ⟨(ι k').1,0,none⟩)):=by
   rw[World.cell?,g3,hc];simp[ren,ren1,g1]
  refine(Any.Builder_copyCheck_used (P:=Tryz.prog) (ρ:=Tryz.lays105_ren) {Tryz.lays105 with} Tryz.Builder_Extra_105.toX72 (ι k').1 w hc0).mono fun e w' ⟨h1,h2⟩=> ?_
  subst h2;exact⟨.tuple ⟨[]⟩,m,n,ι,by rw[h1];simp[ren,renL],hh,Nat.le_refl _,fun _ _=>rfl,hrel,hwf,by simp[ids,idsL]⟩
 ·exact hh.elim
def s53:Ab.Spec:=fun args bs=>match args,bs with
 | [.pointer (some ⟨_,0,some _⟩)],[some b]=>match b.own&& !Nat.ble itTy b.ty,b.c with
  | true,_:: .slice _ q _::_=>some (true,.int .i64 (Int.ofNat q))
  | _,_=>none
 | _,_=>none
theorem ok53:jal Tryz.prog 65 s53:=by
 refine⟨⟨_,Tryz.func65,by kernel_rfl,rfl⟩,fun args v N w0 lk ι w hrel hs hp=> ?_⟩;unfold s53 at hs;split at hs
 case h_2=>cases hs
 rename_i k sp b hbs;have hb:blkOf lk (.pointer (some ⟨k,0,some sp⟩))=some b:=by simpa using hbs
 split at hs
 case h_2=>cases hs
 rename_i v0 ao q cap r ho hc;simp only[jaf,Bool.not_eq_true']at ho;simp only[Option.some.injEq,Prod.mk.injEq,true_and]at hs;subst hs;have hk:=(jfh hb).1;obtain⟨g1,g2,g3⟩:=hrel.blk k b hk ho.1;rw[objOf_cells ho.2]at g3;have e1:([.pointer (some ⟨k,0,some sp⟩)]:U).map (ren ι)=[.pointer (some ⟨(ι k).1,0,none⟩)]:=by simp[ren,ren1,g1]
 rw[e1]
 have hc1:∃ao',w.cell? ⟨(ι k).1,1,none⟩=some (.slice ao' q cap):=by
  rw[World.cell?,g3,hc];cases ao with
  | none=>exact⟨none,by simp[ren]⟩
  | some a=>exact⟨_,by simp[ren];rfl⟩
 obtain⟨ao',hc1⟩:=hc1;refine(len_at (P:=Tryz.prog) (ρ:=Tryz.lays105_ren) {Tryz.lays105 with} (ι k).1 w hc1).mono fun e w' ⟨h1,h2⟩=> ?_
 subst h2;exact⟨h1,Below.refl _ _⟩
theorem gen54:jda Tryz.prog 66 h54:=by
 refine⟨⟨_,Tryz.func66,by kernel_rfl,rfl⟩,fun args m n K hh N w0 ι w hrel hwf hargs=> ?_⟩;unfold h54 at hh;split at hh
 case h_2=>exact hh.elim
 rename_i k sp;split at hh
 case h_2=>exact hh.elim
 rename_i b hk;split at hh
 ·rename_i v0 r hb hc;obtain⟨ho,hit,hpos,hlies⟩:=jgb hb;obtain⟨g1,g2,g3⟩:=hrel.blk k b hk ho;rw[objOf_cells hit]at g3;have e1:([.pointer (some ⟨k,0,some sp⟩)]:U).map (ren ι)=[.pointer (some ⟨(ι k).1,0,none⟩)]:=by simp[ren,ren1,g1]
  rw[e1]
  have hc1:w.cell? ⟨(ι k).1,1,none⟩=some (.slice none 0 0):=by
   rw[World.cell?,g3,hc];rfl
  refine(str_nil (P:=Tryz.prog) (ρ:=Tryz.lays105_ren) {Tryz.lays105 with} Tryz.Builder_Extra_105 (ι k).1 w hc1).mono fun e w' ⟨h1,h2⟩=> ?_
  subst h2;exact⟨.string ⟨#[]⟩,m,n,ι,by rw[h1];simp[ren],hh,Nat.le_refl _,fun _ _=>rfl,RelM.drew hrel,hwf,by simp[ids]⟩
 ·rename_i v0 g sp' q cap r hb hc;split at hh
  case h_2=>exact hh.elim
  rename_i d hd;split at hh
  case h_2=>exact hh.elim
  rename_i hq;simp only[jaf,Nat.beq_eq,Bool.not_eq_true',Nat.ble_eq]at hq;obtain⟨d1,d2,d3,d5,d6,d7,d4⟩:=hq;have d3:q≠0:=fun e=>by rw[e]at d3;cases d3
  obtain⟨ho,hit,hpos,hlies⟩:=jgb hb;obtain⟨g1,g2,g3⟩:=hrel.blk k b hk ho;rw[objOf_cells hit]at g3;have dit:Nat.ble itTy d.ty=false:=by rw[d2];rfl
  obtain⟨f1,f2,f3⟩:=hrel.blk g d hd d1;rw[objOf_cells dit]at f3;have e1:([.pointer (some ⟨k,0,some sp⟩)]:U).map (ren ι)=[.pointer (some ⟨(ι k).1,0,none⟩)]:=by simp[ren,ren1,g1]
  rw[e1];obtain⟨b1,b2⟩:=isB8_spec d7;have hl:(jc6 (d.c.take q)).length=q:=by rw[b1,List.length_take];omega
  have hc1:w.cell? ⟨(ι k).1,1,none⟩=some (.slice (some ⟨(ι g).1,0,none⟩) (jc6 (d.c.take q)).length cap):=by
   rw[World.cell?,g3,hc,hl];simp[ren,ren1,f1]
  have hsh:w.shape? (ι g).1=some (Tryz.lays105_ren.t 5,(⟨d.c.map (ren ι)⟩:Array Value).size):=by
   have:Tryz.lays105_ren.t 5=5:=rfl;rw[this,←d2];simp[World.shape?,f3]
  have hsz:(⟨d.c.map (ren ι)⟩:Array Value).size=d.c.length:=by simp
  refine(str_row (P:=Tryz.prog) (ρ:=Tryz.lays105_ren) {Tryz.lays105 with} Tryz.Builder_Extra_105 (ι k).1 (ι g).1 cap ⟨d.c.map (ren ι)⟩ (jc6 (d.c.take q)) w (fun e=>by rw[e]at hl;exact d3 hl.symm) hc1 hsh (by omega) (by rw[hsz,hl];exact d5) (by rw[hl];exact d6) ?_).mono fun e w' ⟨h1,h2⟩=> ?_
  ·intro j x hx;have:=b2 j x hx;rw[List.getElem?_take]at this;split at this
   ·rw[World.cell?];have e2:((⟨(ι g).1,0,none⟩:Addr).add j)=⟨(ι g).1,j,none⟩:=by simp[Addr.add];omega
    rw[e2,f3];simp[this,ren]
   ·cases this
  ·subst h2;rw[hl];refine⟨.string (jb9 d.c 0 q),_,n,ι,by rw[h1];simp[ren,jb9],hh,Nat.le_refl _,fun _ _=>rfl,RelM.frozenN (RelM.drew hrel) hd d1 dit 0 d3,fun j c hj=> ?_,by simp[ids]⟩;by_cases e:j=g
   ·subst e;rw[Lk.upd_same]at hj;cases hj;exact hwf j d hd
   ·rw[Lk.upd_other _ _ e]at hj;exact hwf j c hj
 ·exact hh.elim
end Go.Ff
end
noncomputable section
namespace Go.Ff
open Go Go.Ab Go.Proofs Go.Shelf Go.Px
theorem c187:jbh Tryz.prog 273:=cal Tryz.func273 (by kernel_rfl) (by kernel_rfl)
theorem ok187:jal Tryz.prog 273 (sp2 s141):=jdb c187 fun s c hc w _=>by
 have hc:0≤c.n∧c.n<256:=jab hc;refine(Any.stringslite_IndexByte (ρ:=Tryz.lays137_ren) {Tryz.lays137 with} s c.n w).mono fun e w' ⟨h1,h2⟩=>⟨?_,jca h2⟩
 rw[h1,jja];simp only[s141]
 have:((c.n.toNat.toUInt8.toNat:Nat):Int)=c.n:=by
  simp only[Nat.toUInt8,UInt8.toNat_ofNat'];omega
 rw[this,jig]
def anyI:E→E→Int
 | [],_=> -1
 | b::l,cs=>if hasZ cs b=true then 0 else if anyI l cs= -1 then -1 else anyI l cs+1
theorem anyI_zl(cs:O):∀l:O,Lib.indexAny l cs=anyI (zl l) (zl cs)
 | []=>rfl
 | b::l=>by
  have ih:=anyI_zl cs l;have hb:hasZ (zl cs) b.toNat=cs.contains b:=(jic b cs).symm;simp only[zl,List.map_cons,anyI]at ih hb ⊢;rw[hb,Lib.indexAny,ih];simp only[beq_iff_eq]
theorem c87:jbh Tryz.prog 146:=cal Tryz.func146 (by kernel_rfl) (by kernel_rfl)
def s87(s t:Y):Bool×Value:=(decide (s.size≤1000000) && (decide (t.size≤1000) && (asc (bz s) &&asc (bz t))),.int .i64 (anyI (bz s) (bz t)))
theorem ok87:jal Tryz.prog 146 (sp2 s87):=jdb c87 fun s t hc w _=>by
 simp only[s87,jaf,jae]at hc;obtain⟨h1,h2,h3,h4⟩:=hc;refine(Any.strings_IndexAny_laid (ρ:=Tryz.lays150_ren) {Tryz.lays150 with} info128 s t w (by omega) (by omega) (jdh h3) (jdh h4)).mono fun e w' ⟨h5,h6⟩=>⟨?_,h6⟩
 rw[h5,anyI_zl,jig,jig];rfl
def tlsZ(l cs:E):E:=l.dropWhile (hasZ cs ·)
theorem tls_zl(cs:O)(l:O):zl (l.dropWhile (cs.contains ·))=tlsZ (zl l) (zl cs):=by
 rw[tlsZ,jey (q:=(hasZ (zl cs) ·)) (fun b=>jic b cs)]
theorem c80:jbh Tryz.prog 110:=cal Tryz.func110 (by kernel_rfl) (by kernel_rfl)
def s80(s t:Y):Bool×Value:=(decide (t.size≤1000) &&asc (bz t),.string (sz (tlsZ (bz s) (bz t))))
theorem ok80:jal Tryz.prog 110 (sp2 s80):=jdb c80 fun s t hc w _=>by
 simp only[s80,jaf,jae]at hc;refine(Any.strings_TrimLeft_laid (ρ:=Tryz.lays161_ren) {Tryz.lays161 with} jhr s t w (by omega) (jdh hc.2)).mono fun e w' ⟨h5,h6⟩=>⟨?_,h6⟩
 rw[h5,jg3,Lib.trimLeftS,tls_zl,jig,jig];rfl
def s103(s:Y)(c:U8):Bool×Value:=(decide (s.size≤4611686018427387903),.int .i64 (jby (bz s) c.n))
theorem ok103:jal Tryz.prog 118 (sp2 s103):=jdb c280 fun s c hc w _=>by
 have hc:=jab hc;refine(Any.strings_LastIndexByte Tryz.lays149 s c.n (by omega) w).mono fun e w' ⟨h1,h2⟩=>⟨?_,jca h2⟩
 rw[h1,last_zl];rfl
end Go.Ff
end
noncomputable section
set_option maxHeartbeats 3200000
namespace Go.Ff
open Go Go.Ab Go.Proofs Go.Shelf Go.Px
def P0:Env:=(Env.nil.add 118 (sp2 s103))
theorem ok_P0:jao Tryz.prog P0:=jak ja7 ok103
theorem jhp:∀(l:E)(c:Int),-1≤jby l c∧jby l c<l.length
 | [],_=>⟨Int.le_refl _,by simp[jby]⟩
 | b::l,c=>by
  have:=jhp l c;simp only[jby,List.length_cons];split
  ·split<;>omega
  ·omega
def s85:Ab.Spec:=fun args bs=>match args,bs with
 | [.pointer (some ⟨_,0,some 0⟩)],[some ⟨[.string s,.int .i64 p],ty,o⟩]=>some (decide (0≤p∧p≤s.size),S (s.extract p.toNat s.size))
 | [.pointer (some ⟨_,0,some (sp+1)⟩)],[some ⟨[.string s,.int .i64 p],ty,o⟩]=>some (decide (0≤p∧p≤s.size),S (s.extract p.toNat s.size))
 | _,_=>none
theorem fn85:Fn1 Tryz.prog 144 Tryz.f144:= .m Tryz.func144
theorem v85_0(s:Y)(p:Int)(ty:TypeId)(o:Bool)(R:Value→Prop):jg7 Tryz.prog P0 noL Tryz.f144 [.pointer (some ⟨0,0,some 0⟩)] (jcu [some ⟨[S s,I p],ty,o⟩]) 1 (fun v _ _=>R v)=(az (bv p (av s) s.size) (S (s.extract p.toNat s.size)) R):=by kernel_rfl
theorem v85_1(sp:Nat)(s:Y)(p:Int)(ty:TypeId)(o:Bool)(R:Value→Prop):jg7 Tryz.prog P0 noL Tryz.f144 [.pointer (some ⟨0,0,some (sp+1)⟩)] (jcu [some ⟨[S s,I p],ty,o⟩]) 1 (fun v _ _=>R v)=(az (bv p (av s) s.size) (S (s.extract p.toNat s.size)) R):=by kernel_rfl
theorem k85_0(s:Y)(p:Int)(ty:TypeId)(o:Bool)(hc:(decide (0≤p∧p≤s.size))=true):jfp Tryz.prog P0 noL Tryz.f144 [.pointer (some ⟨0,0,some 0⟩)] [some ⟨[S s,I p],ty,o⟩] 1 (S (s.extract p.toNat s.size)):=by
 rw[jfp,v85_0];delta az bv av;have hc:=jab hc
 first
  | exact c_t (jaa ⟨hc.1,hc.2,Int.le_refl _⟩) rfl
  | trace_state
theorem k85_1(sp:Nat)(s:Y)(p:Int)(ty:TypeId)(o:Bool)(hc:(decide (0≤p∧p≤s.size))=true):jfp Tryz.prog P0 noL Tryz.f144 [.pointer (some ⟨0,0,some (sp+1)⟩)] [some ⟨[S s,I p],ty,o⟩] 1 (S (s.extract p.toNat s.size)):=by
 rw[jfp,v85_1];delta az bv av;have hc:=jab hc
 first
  | exact c_t (jaa ⟨hc.1,hc.2,Int.le_refl _⟩) rfl
  | trace_state
theorem ok85:jal Tryz.prog 144 s85:=by
 refine jgn ok_P0 hmix fn85 jai fun args bs v hs=> ?_
 simp only[s85]at hs;split at hs
 ·simp only[Option.some.injEq,Prod.mk.injEq]at hs;obtain⟨hc,rfl⟩:=hs;exact⟨_,1,rfl,rfl,jag,k85_0 _ _ _ _ (by first | rfl | exact hc)⟩
 ·simp only[Option.some.injEq,Prod.mk.injEq]at hs;obtain⟨hc,rfl⟩:=hs;exact⟨_,1,rfl,rfl,jag,k85_1 _ _ _ _ _ (by first | rfl | exact hc)⟩
 ·cases hs
def s63:Ab.Spec:=fun args bs=>match args,bs with
 | [.pointer (some ⟨_,0,some 0⟩)],[some ⟨[.string s,.int .i64 p],ty,o⟩]=>some (decide (0≤p∧p≤s.size∧s.size≤1000000),I (p-jby ((bz s).take p.toNat) 10))
 | [.pointer (some ⟨_,0,some (sp+1)⟩)],[some ⟨[.string s,.int .i64 p],ty,o⟩]=>some (decide (0≤p∧p≤s.size∧s.size≤1000000),I (p-jby ((bz s).take p.toNat) 10))
 | _,_=>none
theorem fn63:Fn1 Tryz.prog 67 Tryz.f67:= .m Tryz.func67
def lh(b:Y)(a:Int)(c:Value→Prop):Prop:=bif bv 0 a b.size then az (decide ((b.extract 0 a.toNat).size≤4611686018427387903)) (.int .i64 (b9 a (jby (bz (b.extract 0 a.toNat)) 10))) c else False
theorem v63_0(s:Y)(p:Int)(ty:TypeId)(o:Bool)(R:Value→Prop):jg7 Tryz.prog P0 noL Tryz.f67 [.pointer (some ⟨0,0,some 0⟩)] (jcu [some ⟨[S s,I p],ty,o⟩]) 1 (fun v _ _=>R v)=(lh s p R):=by kernel_rfl
theorem v63_1(sp:Nat)(s:Y)(p:Int)(ty:TypeId)(o:Bool)(R:Value→Prop):jg7 Tryz.prog P0 noL Tryz.f67 [.pointer (some ⟨0,0,some (sp+1)⟩)] (jcu [some ⟨[S s,I p],ty,o⟩]) 1 (fun v _ _=>R v)=(lh s p R):=by kernel_rfl
theorem k63_0(s:Y)(p:Int)(ty:TypeId)(o:Bool)(hc:(decide (0≤p∧p≤s.size∧s.size≤1000000))=true):jfp Tryz.prog P0 noL Tryz.f67 [.pointer (some ⟨0,0,some 0⟩)] [some ⟨[S s,I p],ty,o⟩] 1 (I (p-jby ((bz s).take p.toNat) 10)):=by
 rw[jfp,v63_0];delta az b9 bv lh;have hc:=jab hc;have hb:=jhp ((bz s).take p.toNat) 10;rw[List.length_take,jax]at hb;have e:bz (s.extract 0 p.toNat)=(bz s).take p.toNat:=by rw[jck];rfl
 rw[e,w64 (by omega)];refine c_t (jaa ⟨Int.le_refl _,hc.1,hc.2.1⟩) (c_t ?_ rfl);rw[ByteArray.size_extract];exact jaa (by omega)
theorem k63_1(sp:Nat)(s:Y)(p:Int)(ty:TypeId)(o:Bool)(hc:(decide (0≤p∧p≤s.size∧s.size≤1000000))=true):jfp Tryz.prog P0 noL Tryz.f67 [.pointer (some ⟨0,0,some (sp+1)⟩)] [some ⟨[S s,I p],ty,o⟩] 1 (I (p-jby ((bz s).take p.toNat) 10)):=by
 rw[jfp,v63_1];delta az b9 bv lh;have hc:=jab hc;have hb:=jhp ((bz s).take p.toNat) 10;rw[List.length_take,jax]at hb;have e:bz (s.extract 0 p.toNat)=(bz s).take p.toNat:=by rw[jck];rfl
 rw[e,w64 (by omega)];refine c_t (jaa ⟨Int.le_refl _,hc.1,hc.2.1⟩) (c_t ?_ rfl);rw[ByteArray.size_extract];exact jaa (by omega)
theorem ok63:jal Tryz.prog 67 s63:=by
 refine jgn ok_P0 hmix fn63 jai fun args bs v hs=> ?_
 simp only[s63]at hs;split at hs
 ·simp only[Option.some.injEq,Prod.mk.injEq]at hs;obtain⟨hc,rfl⟩:=hs;exact⟨_,1,rfl,rfl,jag,k63_0 _ _ _ _ (by first | rfl | exact hc)⟩
 ·simp only[Option.some.injEq,Prod.mk.injEq]at hs;obtain⟨hc,rfl⟩:=hs;exact⟨_,1,rfl,rfl,jag,k63_1 _ _ _ _ _ (by first | rfl | exact hc)⟩
 ·cases hs
def s61:Ab.Spec:=fun args bs=>match args,bs with
 | [.pointer (some ⟨_,0,some 0⟩)],[some ⟨[.string s,.int .i64 p],ty,o⟩]=>some (true,I p)
 | [.pointer (some ⟨_,0,some (sp+1)⟩)],[some ⟨[.string s,.int .i64 p],ty,o⟩]=>some (true,I p)
 | _,_=>none
theorem fn61:Fn1 Tryz.prog 99 Tryz.f99:= .m Tryz.func99
theorem v61_0(s:Y)(p:Int)(ty:TypeId)(o:Bool)(R:Value→Prop):jg7 Tryz.prog P0 noL Tryz.f99 [.pointer (some ⟨0,0,some 0⟩)] (jcu [some ⟨[S s,I p],ty,o⟩]) 1 (fun v _ _=>R v)=(R (I p)):=by kernel_rfl
theorem v61_1(sp:Nat)(s:Y)(p:Int)(ty:TypeId)(o:Bool)(R:Value→Prop):jg7 Tryz.prog P0 noL Tryz.f99 [.pointer (some ⟨0,0,some (sp+1)⟩)] (jcu [some ⟨[S s,I p],ty,o⟩]) 1 (fun v _ _=>R v)=(R (I p)):=by kernel_rfl
theorem k61_0(s:Y)(p:Int)(ty:TypeId)(o:Bool)(hc:(true)=true):jfp Tryz.prog P0 noL Tryz.f99 [.pointer (some ⟨0,0,some 0⟩)] [some ⟨[S s,I p],ty,o⟩] 1 (I p):=by
 rw[jfp,v61_0]
theorem k61_1(sp:Nat)(s:Y)(p:Int)(ty:TypeId)(o:Bool)(hc:(true)=true):jfp Tryz.prog P0 noL Tryz.f99 [.pointer (some ⟨0,0,some (sp+1)⟩)] [some ⟨[S s,I p],ty,o⟩] 1 (I p):=by
 rw[jfp,v61_1]
theorem ok61:jal Tryz.prog 99 s61:=by
 refine jgn ok_P0 hmix fn61 jai fun args bs v hs=> ?_
 simp only[s61]at hs;split at hs
 ·simp only[Option.some.injEq,Prod.mk.injEq]at hs;obtain⟨hc,rfl⟩:=hs;exact⟨_,1,rfl,rfl,jag,k61_0 _ _ _ _ (by first | rfl | exact hc)⟩
 ·simp only[Option.some.injEq,Prod.mk.injEq]at hs;obtain⟨hc,rfl⟩:=hs;exact⟨_,1,rfl,rfl,jag,k61_1 _ _ _ _ _ (by first | rfl | exact hc)⟩
 ·cases hs
/-- The tables; bytes that are made of a string may be written into. -/
instance tabsB:Tabs:={row:=jjf,plain:=tabs.plain,ownB:=true}
theorem RelM.toA{N:Nat}{w0:World}{m:Lk}{ι:Nm}{w:World}(h: @RelM tabsB N w0 m ι w): @RelM tabs N w0 m ι w:=
 @RelM.mk tabs N w0 m ι w h.below h.base h.blk h.view h.inj
theorem RelM.toB{N:Nat}{w0:World}{m:Lk}{ι:Nm}{w:World}(h: @RelM tabs N w0 m ι w): @RelM tabsB N w0 m ι w:=
 @RelM.mk tabsB N w0 m ι w (@RelM.below tabs N w0 m ι w h) (@RelM.base tabs N w0 m ι w h) (@RelM.blk tabs N w0 m ι w h) (@RelM.view tabs N w0 m ι w h) (@RelM.inj tabs N w0 m ι w h)
theorem jj3{f:FuncId}{s:Ab.Spec}(h: @jal tabs Tryz.prog f s): @jal tabsB Tryz.prog f s:=
 ⟨h.1,fun args v N w0 lk ι w hr hs hv=>h.2 args v N w0 lk ι w (RelM.toA hr) hs hv⟩
structure BrP (d:U)(m cap:Nat):Prop where
 bytes:jbm d=true
 len:d.length=cap
 le:m≤cap
 lim:m≤1000
def brOK(d:U)(m cap:Nat):Bool:=jbm d&& (Nat.beq d.length cap&& (Nat.ble m cap&&Nat.ble m 1000))
def jf2:Nat→E→E
 | 0,L=>if L.getD 0 0≠57 then L.set 0 (IntKind.u8.wrap (L.getD 0 0+1))else L
 | i+1,L=>if L.getD (i+1) 0≠57 then L.set (i+1) (IntKind.u8.wrap (L.getD (i+1) 0+1))else jf2 i (L.set (i+1) 48)
def noN(L:E)(i:Nat):Bool:=(L.take (i+1)).any fun c=> !(c==57)
theorem je1{d:U}{m cap:Nat}:brOK d m cap=true↔BrP d m cap:=by
 simp only[brOK,jaf,Nat.ble_eq,Nat.beq_eq];exact⟨fun⟨h1,h2,h3,h4⟩=>⟨h1,h2,h3,h4⟩,fun⟨h1,h2,h3,h4⟩=>⟨h1,h2,h3,h4⟩⟩
theorem BrP.plain{d:U}{m cap:Nat}(h:BrP d m cap):jav d=true:=isB_plain h.bytes
theorem BrP.good{d:U}{m cap:Nat}(h:BrP d m cap)(ps:List (Nat×Nat)):(jat ps d&&true&&true)=true:=by rw[goodL_plain h.plain];rfl
theorem BrP.rlb{d:U}{m cap:Nat}(h:BrP d m cap)(ps:List (Nat×Nat)):rlbL ps d=d:=rlbL_plain ps h.plain
theorem BrP.zlen{d:U}{m cap:Nat}(h:BrP d m cap):(zc d m).length=m:=by
 have h1:=h.len;have h2:=h.le;simp only[zc,List.length_map,List.length_take];omega
theorem BrP.at{d:U}{m cap:Nat}(h:BrP d m cap){i:Int}(h0:0≤i)(hi:i<m):jam .u8 d i.toNat=true∧jaj d i.toNat=(zc d m).getD i.toNat 0:=by
 have h1:=h.len;have h2:=h.le;obtain⟨q1,q2⟩:=atB h.bytes (j:=i.toNat) (by omega);refine⟨q1,?_⟩;rw[q2,zc,List.getD_eq_getElem?_getD,List.getD_eq_getElem?_getD,List.getElem?_map,List.getElem?_map,List.getElem?_take_of_lt (by omega)]
theorem BrP.set{d:U}{m cap:Nat}(h:BrP d m cap)(k:Nat)(x:Int):BrP (d.set k (.int .u8 x)) m cap∧zc (d.set k (.int .u8 x)) m=(zc d m).set k x:=by
 refine⟨⟨jhq.2 fun v hv=> ?_,by rw[List.length_set];exact h.len,h.le,h.lim⟩,?_⟩
 ·rcases List.mem_or_eq_of_mem_set hv with q | q
  ·exact jhq.1 h.bytes v q
  ·exact⟨x,q⟩
 ·rw[zc,zc,List.take_set,List.map_set];rfl
theorem BrP.str{d:U}{m cap:Nat}(h:BrP d m cap):jcw d 0 m=true∧jb9 d 0 m=sz (zc d m):=by
 have hz:=h.zlen;have hb:jbm (d.take m)=true:=jhq.2 fun v hv=>jhq.1 h.bytes v (List.mem_of_mem_take hv)
 have e:d=cz (zc d m)++d.drop m:=by rw[zc,jjh hb,List.take_append_drop]
 have h1:=bytesOK_cz (zc d m) (d.drop m);have h2:=bytesOf_cz (zc d m) (d.drop m);rw[←e,hz]at h1 h2;exact⟨h1,h2⟩
def EN:Env:=Env.nil
theorem ok_EN:jao Tryz.prog EN:=ja7
theorem strFit_of{n:Nat}(h:n≤9223372036854775807):jeh n=true:=Nat.ble_eq_true_of_le h
theorem noN_step{L:E}{k:Nat}(q:L.getD (k+1) 0=57)(h:noN L (k+1)=true)(hl:k+1<L.length):noN (L.set (k+1) 48) k=true:=by
 simp only[noN,List.any_eq_true]at h ⊢;obtain⟨c,hc,hn⟩:=h;refine⟨c,?_,hn⟩;rw[List.take_set_of_le (by omega)];rw[List.take_succ_eq_append_getElem hl]at hc;rcases List.mem_append.1 hc with hc | hc
 ·exact hc
 ·rw[List.getD_eq_getElem?_getD,List.getElem?_eq_getElem hl]at q;simp only[List.mem_singleton,Option.getD_some]at hc q;rw[hc,q]at hn;cases hn
def V180_0:Y×U×Nat×Nat×Int→U:=fun(r,d,m,cap,i)=> [S r,.slice (some ⟨3,0,some 1⟩) m cap,I i]
def B180_0:Y×U×Nat×Nat×Int→F:=fun(r,d,m,cap,i)=> [some ⟨d,itTy+1+5,true⟩]
def S180_0:LSpecA (Y×U×Nat×Nat×Int) where
 live:=[2,3,4]
 mid:=[3]
 n:=120
 ap:=[]
 dec vs bs:=match vs,bs with
  | [.string r,.slice (some ⟨3,0,some 1⟩) m cap,.int .i64 i],[some ⟨d,ty,true⟩]=>match Nat.beq ty (itTy+1+5)with | true=>some (r,d,m,cap,i) | false=>none
  | _,_=>none
 pre:=fun(r,d,m,cap,i)=>brOK d m cap&& (decide (0≤i∧i<m) &&noN (zc d m) i.toNat)
 fin:=fun(r,d,m,cap,i) Z=>∀d' i',brOK d' m cap=true→Z .ret [S (sz (jf2 i.toNat (zc d m))),.slice (some ⟨3,0,some 1⟩) m cap,I i'] [some ⟨d',itTy+1+5,true⟩]
theorem r180_0(r:Y)(d:U)(m:Nat)(cap:Nat)(i:Int)(jk:Tmps)(R:Exit→U→F→Prop):(jbz Tryz.prog EN noL Tryz.f241.ntmps (ja9 Tryz.f241 0) (tl S180_0.live (V180_0 (r,d,m,cap,i)) jk) (ml S180_0.mid (B180_0 (r,d,m,cap,i))) S180_0.n fun e t' m' _=>S180_0.out R e t' m')=(b4 (jam .u8 d (co i)) i m (bif a8 i d !=57 then bif cw i m then bif jam .u8 d (co i)then bif cw i m then bif Nat.ble (co i+1) d.length then bif jcw (setL d (co i) [gv (a8 i d+1)]) 0 m then bif ck [] (setL d (co i) [gv (a8 i d+1)])then R .ret [S (jb9 (setL d (co i) [gv (a8 i d+1)]) 0 m),am 3 0 m cap,ak i] (bk (rlbL [] (setL d (co i) [gv (a8 i d+1)])) 4611686018427387910)else False else False else False else False else False else False else bif cw i m then bif Nat.ble (co i+1) d.length then ax (ck [] (setL d (co i) [au 48])) R (bk (rlbL [] (setL d (co i) [au 48])) 4611686018427387910) [S r,am 3 0 m cap,I (b9 i 1)]else False else False)):=by kernel_rfl
theorem l180_0:LOKf Tryz.prog (oneL 0 S180_0.hA) Tryz.f241:=by
 refine jbk (h:=S180_0.hA) (by kernel_rfl) (jb1 ok_EN hmix (by kernel_rfl) (ja6 _) S180_0 V180_0 B180_0 (fun(r,d,m,cap,i)=>i.toNat) ?_ ?_ ?_)
 ·intro vs bs s h;simp only[S180_0]at h;split at h
  all_goals first | (cases h;exact⟨rfl,rfl⟩) | cases h | (split at h<;>first | (rename_i hq;cases h;have hq:=jah hq;subst hq;exact⟨rfl,rfl⟩) | cases h)
 ·exact fun⟨r,d,m,cap,i⟩ hp=>by
   simp only[S180_0,jaf]at hp;simp[V180_0,B180_0,S180_0,jaz,jbn,idsL,ids,jar (je1.1 hp.1).plain]
 ·intro⟨r,d,m,cap,i⟩ jk Z hp hf;rw[r180_0];delta cw b4 ax b9 am bk au co ck gv a8 ak;simp only[S180_0]at hp hf;simp only[jaf,jae]at hp;obtain⟨hv,⟨h0,hi⟩,hn⟩:=hp;have hv:=je1.1 hv;obtain⟨a1,a2⟩:=hv.at h0 hi;have hlen:=hv.len;have hle:=hv.le;have hlim:=hv.lim;have hz:=hv.zlen;rw[Nat.mul_one,Nat.zero_add];refine c_t (jaa ⟨h0,hi⟩) (c_t a1 (cond_intro (fun q=> ?_) (fun q=> ?_)))
  ·have q:jaj d i.toNat≠57:=by simpa using q
   obtain⟨b1,b2⟩:=hv.set i.toNat (IntKind.u8.wrap (jaj d i.toNat+1));have es:setL d i.toNat [.int .u8 (IntKind.u8.wrap (jaj d i.toNat+1))]=d.set i.toNat (.int .u8 (IntKind.u8.wrap (jaj d i.toNat+1))):=rfl;rw[es,b1.rlb];obtain⟨s1,s2⟩:=b1.str;refine c_t (jaa ⟨h0,hi⟩) (c_t a1 (c_t (jaa ⟨h0,hi⟩) (c_t (Nat.ble_eq_true_of_le (by omega)) (c_t s1 (c_t (b1.good _) ?_)))));rw[s2,b2]
   have e:jf2 i.toNat (zc d m)=(zc d m).set i.toNat (IntKind.u8.wrap (jaj d i.toNat+1)):=by
    rw[a2]at q ⊢;cases hk:i.toNat with
    | zero=>rw[hk]at q;simp only[jf2];rw[if_pos q]
    | succ k=>rw[hk]at q;simp only[jf2];rw[if_pos q]
   have:=hf _ i (je1.2 b1);rw[e]at this;exact this
  ·have q:jaj d i.toNat=57:=by simpa using q
   obtain⟨b1,b2⟩:=hv.set i.toNat 48;have es:setL d i.toNat [.int .u8 48]=d.set i.toNat (.int .u8 48):=rfl;rw[es,b1.rlb];rw[a2]at q
   obtain⟨k,hk⟩:∃k,i.toNat=k+1:=by
    cases hk:i.toNat with
    | zero=>
     rw[hk]at q hn;simp only[noN]at hn;cases hL:zc d m with
     | nil=>rw[hL]at hz;simp at hz;omega
     | cons c r=>rw[hL]at q hn;simp at hn q;exact absurd q hn
    | succ k=>exact⟨k,rfl⟩
   refine c_t (jaa ⟨h0,hi⟩) (c_t (Nat.ble_eq_true_of_le (by omega)) (c_t (b1.good _) ?_));have e1:(i-1).toNat=k:=by omega
   rw[w64 (n:=i-1) (by omega)];refine⟨(r,d.set i.toNat (.int .u8 48),m,cap,i-1),rfl,rfl,?_,by simp only;omega,fun d' i' h1=> ?_⟩
   ·simp only[S180_0,jaf,jae];refine⟨je1.2 b1,by omega,?_⟩;rw[b2,e1,hk];exact noN_step (by rw[hk]at hn q;exact q) (by rw[hk]at hn;exact hn) (by omega)
   ·rw[b2,e1];have:=hf d' i' h1;rw[hk]at this q ⊢;simp only[jf2]at this;rw[if_neg (fun h=>h q)]at this;exact this
def s180(s:Y):Bool×Value:=(decide (s.size≤900),.string (sz (jf2 s.size (48::bz s))))
theorem fn180:Fn1 Tryz.prog 241 Tryz.f241:= .m Tryz.func241
def j7(a:Y):Nat:=(ByteArray.mk #[48]++a).size
theorem v180(s:Y)(R:Value→Prop):ja4 Tryz.prog EN (oneL 0 S180_0.hA) Tryz.f241 [Enc.enc s] (fun _=>none) 0 (fun v _ _=>R v)=(bif jeh ((ByteArray.mk #[48]).size+s.size)then∀a:Nat,∀b:U,ji5 (⟨#[48]⟩++s) a b=true→(bif ii [] b 120 then bif Ff.S180_0.toLSpec.pre (ByteArray.mk #[],(rlbL [] b,(j7 s,(a,b9 (natO (j7 s)) 1))))then∀c:U,Int→Ff.brOK c (j7 s) a=true→e6 (bu c 120) (S (sz (Ff.jf2 (b9 (natO (j7 s)) 1).toNat (zc (rlbL [] b) (j7 s))))) R else False else False)else False):=by kernel_rfl
theorem ok180:jal Tryz.prog 241 (sp1 s180):=by
 refine jcr ok_EN hmix fn180 l180_0 jag fun s hc=> ?_
 rw[jb5,v180];delta e6 j7 b9 bu ck ii;have hc:(s.size≤900):=jab hc
 try dsimp only[s180]
 refine c_t (strFit_of (by show 1+s.size≤_;omega)) fun cap d hd=> ?_
 simp only[ji5,jaf,Nat.beq_eq,Nat.ble_eq,jae]at hd;obtain⟨k1,k2,k3,k4⟩:=hd;have zS:(ByteArray.mk #[48]++s).size=s.size+1:=by rw[ByteArray.size_append];show 1+s.size=_;omega
 have B:BrP d (ByteArray.mk #[48]++s).size cap:=⟨k3,k1,k2,by omega⟩
 have kz:zc d (ByteArray.mk #[48]++s).size=48::bz s:=by
  rw[zc,show iv=cInt from by funext v;cases v<;>rfl,k4];show bz (ByteArray.mk #[48]++s)=_;rw[bz_append];rfl
 have ei:IntKind.wrap .i64 (natO (ByteArray.mk #[48]++s).size-1)=(s.size:Int):=by
  rw[ja3,zS,w64 (by omega)];omega
 rw[B.rlb,kz,ei];refine c_t (by rw[B.good,jbe B.plain];rfl) (c_t ?_ fun d' i' hd'=>c_t (by rw[jbe (je1.1 hd').plain];rfl) fun x=> ?_)
 ·simp only[S180_0,jaf,jae];refine⟨je1.2 B,by rw[zS];omega,?_⟩;rw[kz];simp[noN]
 ·rw[Int.toNat_natCast]
end Go.Ff
end
noncomputable section
set_option maxHeartbeats 3200000
namespace Go.Ff
open Go Go.Ab Go.Proofs Go.Shelf Go.Px Go.Cv Go.Cx
open Go.Fx (Ty Vl)
attribute [local instance 5000] tabsB
structure Fo where
 k:Int
 w:Int
 d:Int
 s:Y
instance:Enc Fo where
 enc t:= .agg ⟨[.int .i64 t.k,.int .i64 t.w,.int .i64 t.d,.string t.s]⟩
 dec | .agg ⟨[.int .i64 k,.int .i64 w,.int .i64 d,.string s]⟩=>some ⟨k,w,d,s⟩ | _=>none
 dec_some:=by
  intro v a h;split at h
  ·cases h;rfl
  ·cases h
 plain_enc _:=rfl
def F3:Env:=Env.nil.add 122 (sp1 Px.s33)
theorem ok_F3:jao Tryz.prog F3:=jak ja7 (jj3 Px.ok33)
def jb6(f:Fo):Bool:=decide (1≤f.k∧f.k≤7∧0≤f.w∧f.w≤255∧0≤f.d∧f.d≤9∧f.d≤f.w∧(0<f.d→f.k=3)) && (bif decide (f.k=4)then decide (pE (bz f.s)=0)else decide (f.s.size=0))
def s44(f:Fo):Bool×Value:=(decide (f.s.size≤9223372036854775807),B (jb6 f))
theorem fn44:Fn1 Tryz.prog 77 Tryz.f77:= .m Tryz.func77
def k8(a b:Bool)(d:Ff.Fo)(c:Value→Prop):Prop:=bif a then bif b then c (B false)else bif Ff.Fo.k d==4 then az (aw (Ff.Fo.s d)) (B (pE (bz (Ff.Fo.s d))==0)) c else c (B (fx (Ff.Fo.s d) ⟨#[]⟩))else False
def l3(b:Bool)(a:Ff.Fo):Bool:=iy (al (Ff.Fo.w a) 0) (aq (Ff.Fo.w a) 255 || (al (Ff.Fo.d a) 0 || (aq (Ff.Fo.d a) 9 || (aq (Ff.Fo.d a) (Ff.Fo.w a) || b)))) (Ff.Fo.k a) 1 7
theorem v44(f:Fo)(R:Value→Prop):ja4 Tryz.prog F3 noL Tryz.f77 [Enc.enc f] (fun _=>none) 0 (fun v _ _=>R v)=(k8 (l3 (aq (Ff.Fo.d f) 0 || true) f) (l3 (aq (Ff.Fo.d f) 0&&Ff.Fo.k f !=3) f) f R):=by kernel_rfl
theorem ok44:jal Tryz.prog 77 (sp1 s44):=by
 refine jcr ok_F3 hmix fn44 jai jag fun f hc=> ?_
 rw[jb5,v44];delta fx az aw k8 aq al iy l3;have hc:(f.s.size≤9223372036854775807):=jab hc
 try dsimp only[s44]
 refine c_t (by simp) (cond_intro (fun h=> ?_) (fun h=>cond_intro (fun q=>c_t (jaa hc) ?_) (fun q=> ?_)))
 ·have e:jb6 f=false:=by
   rw[jb6,Bool.and_eq_false_iff];refine .inl (jad fun⟨a,b,c,d,e,g,i,j⟩=> ?_);simp only[Bool.or_eq_true,jaf,jae,bne_iff_ne]at h;omega
  rw[e]
 ·have q:f.k=4:=by simpa using q
  simp only[Bool.or_eq_false_iff,Bool.and_eq_false_iff,decide_eq_false_iff_not,bne_eq_false_iff_eq]at h;rw[jb6,jaa (by omega),jaa q];congr 1
 ·have q:¬f.k=4:=by simpa using q
  simp only[Bool.or_eq_false_iff,Bool.and_eq_false_iff,decide_eq_false_iff_not,bne_eq_false_iff_eq]at h;rw[jb6,jaa (by omega),jad q,empty_iff];congr 1;rw[Bool.true_and,cond_false,Bool.eq_iff_iff,jae,jae,←jax];exact List.length_eq_zero_iff.symm
def s71(f:Fo):Bool×Value:=(true,B (decide (f.k≤4)))
theorem fn71:Fn1 Tryz.prog 106 Tryz.f106:= .m Tryz.func106
theorem v71(f:Fo)(R:Value→Prop):ja4 Tryz.prog F3 noL Tryz.f106 [Enc.enc f] (fun _=>none) 0 (fun v _ _=>R v)=(R (B (decide (Fo.k f≤4)))):=by kernel_rfl
theorem ok71:jal Tryz.prog 106 (sp1 s71):=by
 refine jcr ok_F3 hmix fn71 jai jag fun f hc=> ?_
 rw[jb5,v71]
 try dsimp only[s71]
def typE(t:Ty):Int:=if chk4 t≠0 then chk4 t else if t.k=6 then 5 else 0
def F4:Env:=(Env.nil.add 77 (sp1 s44)).add 106 (sp1 s71)
theorem ok_F4:jao Tryz.prog F4:=jak (jak ja7 ok44) ok71
def s37(f:Fo):Bool×Value:=(decide (f.s.size≤9223372036854775807),I (if jb6 f=true∧f.k≤4 then 0 else 130))
theorem fn37:Fn1 Tryz.prog 78 Tryz.f78:= .m Tryz.func78
theorem v37(f:Fo)(R:Value→Prop):ja4 Tryz.prog F4 noL Tryz.f78 [Enc.enc f] (fun _=>none) 0 (fun v _ _=>R v)=(bif decide ((Fo.s f).size≤9223372036854775807) && (!jb6 f || true)then bif !jb6 f || !decide (Fo.k f≤4)then R (I 130)else R (I 0)else False):=by kernel_rfl
theorem ok37:jal Tryz.prog 78 (sp1 s37):=by
 refine jcr ok_F4 hmix fn37 jai jag fun f hc=> ?_
 rw[jb5,v37];have hc:(f.s.size≤9223372036854775807):=jab hc
 try dsimp only[s37]
 refine c_t (by simp[hc]) (cond_intro (fun h=> ?_) (fun h=> ?_))
 ·rw[if_neg];rintro ⟨a,b⟩;simp[a,b]at h
 ·simp only[Bool.or_eq_false_iff,Bool.not_eq_false',jae]at h;rw[if_pos h]
def fitE(v:Vl)(t:Ty):Int:=if fit4 v t≠0 then fit4 v t else typE t
def c8(f:Fo)(v:Vl)(t:Ty):Prop:=((f.k=3∧0≤f.w∧f.w≤255∧0≤f.d∧f.d≤9∧t.k=1∧ -2147483648≤v.n∧v.n≤2147483648∧ -1000≤t.q∧t.q≤1000)∧f.s.size≤9223372036854775807∧t.s.size≤9223372036854775807∧v.s.size≤9223372036854775807∧jb6 f=true∧fitE v t=0)
instance (f:Fo)(v:Vl)(t:Ty):Decidable (c8 f v t):=by unfold c8;infer_instance
end Go.Ff
end
noncomputable section
namespace Go.Px
open Go Go.Ab Go.Proofs Go.Shelf Go.ChangeMaps Go.ChangeShapes Go.WideShapes Go.ChangeAt Go.RowKit Go.Joins
open Go.Proofs.YtiahilhlpmohoaaGreatDoor
theorem own:ownKnob Tryz.prog.godebug=none:=by kernel_rfl
def laidL:List (String×DataW Unit):=Rows.formatStarsRow.laid
theorem tab_is{P:Program}{W:World}{name:String}{k:IntKind}{zs:E}{g:Nat}{t e:TypeId}{n:Nat}(hr:Lib.VarReads P W name (Lib.tabData k zs))
  (hg:P.globalNamed name=some g) (hty:(P.globals[g]?).map (·.type)=some t) (ht:P.underlying t=some (.array n e)) (he:P.underlying e=some (.int k)) (hce:P.cellsOf e=1) (hct:P.cellsOf t=n):
  g<W.heap.size∧ ∃ty fr,W.heap[g]?=some (.cells ⟨zs.map fun z=>Value.int k z⟩ ty fr):=by
 obtain⟨g',t',cs,fuel,p,h1,h2,h3,h4⟩:=hr;obtain rfl:=Option.some.inj (hg.symm.trans h1);obtain rfl:=Option.some.inj (hty.symm.trans h2);have hc:=Lib.cells_of_tab ht he hce hct h4;unfold World.var? at h3;rw[hg,Option.bind_some]at h3;split at h3
 case h_2=>cases h3
 rename_i cs' ty fr hh;have h3:=Option.some.inj h3;refine⟨(Array.getElem?_eq_some_iff.1 hh).1,ty,fr,?_⟩;rw[hh,h3];congr 2;rw[←hc]
theorem rt : (Tryz.prog.cutTypes.find? (·.1 == "internal/reflectlite.rtype")).map (·.2) = some 304 := by kernel_rfl
theorem tsz:Tryz.prog.types.size=371:=by kernel_rfl
theorem oneRow:((List.range 371).filter fun t=>Tryz.prog.rowNamed t [101,114,114,111,114])=[157]:=by kernel_rfl
theorem hdl:typeHandle Tryz.prog 157= .pointer (some ⟨10,157,none⟩):=by kernel_rfl
theorem gE : Tryz.prog.globalNamed "errors.errorType" = some 0 := by kernel_rfl
theorem laid_h : laidL.filter (fun x => x.2.handleName?.isSome) = [("errors.errorType", Rows.laid_errors_errorType)] := by kernel_rfl
theorem laid_d : laidL.filter (fun x => x.2.handleName?.isNone) = ([("math/bits.deBruijn32tab", YtiahilhlpmohoaaGreatDoor.Rows.laid_math_bits_deBruijn32tab), ("math/bits.deBruijn64tab", YtiahilhlpmohoaaGreatDoor.Rows.laid_math_bits_deBruijn64tab), ("internal/strconv.uint64pow10", YtiahilhlpmohoaaGreatDoor.Rows.laid_internal_strconv_uint64pow10), ("unicode/utf8.acceptRanges", YtiahilhlpmohoaaGreatDoor.Rows.laid_unicode_utf8_acceptRanges), ("strconv.ErrRange", YtiahilhlpmohoaaGreatDoor.Rows.laid_strconv_ErrRange), ("strconv.ErrSyntax", YtiahilhlpmohoaaGreatDoor.Rows.laid_strconv_ErrSyntax), ("pliant/picture.punched", YtiahilhlpmohoaaGreatDoor.Rows.laid_pliant_picture_punched), ("unicode/utf8.first", YtiahilhlpmohoaaGreatDoor.Rows.laid_unicode_utf8_first)]) := by kernel_rfl
theorem handle_of_laid {W : World} (h : handlesMet Tryz.prog [("errors.errorType", Rows.laid_errors_errorType)] W) : 0 < W.heap.size ∧ ∃ ty fr, W.heap[0]? = some (.cells #[.iface 304 (.agg #[.pointer (some ⟨10, 157, none⟩)])] ty fr) := by
 obtain⟨name,u,ty,e1,e2,e3,e4,e5⟩:=h _ (List.mem_singleton.2 rfl);have en:name=[101,114,114,111,114]:=(Option.some.inj e1).symm;subst en;obtain rfl:=Option.some.inj (rt.symm.trans e2);have hm:ty∈(List.range 371).filter fun t=>Tryz.prog.rowNamed t [101,114,114,111,114]:=List.mem_filter.2 ⟨List.mem_range.2 (by rw[←tsz];exact e3),e4⟩
 rw[oneRow]at hm;obtain rfl:=List.mem_singleton.1 hm;rw[hdl]at e5;unfold World.var? at e5;rw[gE,Option.bind_some]at e5;split at e5
 case h_2=>cases e5
 rename_i cs' ty fr hh;have e5:=Option.some.inj e5;exact⟨(Array.getElem?_eq_some_iff.1 hh).1,ty,fr,by rw[hh,e5]⟩
set_option maxRecDepth 100000 in
theorem tabs_of_laid{W:World}(h:laidMetH Tryz.prog laidL W):TabsIn W.heap.size W:=by
 obtain⟨hd,hh⟩:=laidMetH_iff.1 h;rw[laid_h]at hh;rw[laid_d]at hd;intro b r hb
 have key:∀b:Nat,jjf b=some r→b=3∧r=punchedZ.map (fun n=>Value.int .u8 n)∨b=2∧r=pow10Z.map (fun n=>Value.int .u64 n)∨b=0∧r=[.iface 304 (.agg ⟨[.pointer (some ⟨10,157,none⟩)]⟩)]:=by
  intro b hb;unfold jjf at hb;split at hb
  ·cases hb;exact .inl ⟨rfl,rfl⟩
  ·cases hb;exact .inr (.inl ⟨rfl,rfl⟩)
  ·cases hb;exact .inr (.inr ⟨rfl,rfl⟩)
  ·cases hb
 have t5:Tryz.prog.cellsOf 5=1:=by kernel_rfl
 rcases key b hb with⟨rfl,rfl⟩ | ⟨rfl,rfl⟩ | ⟨rfl,rfl⟩
 ·have hr : Lib.VarReads Tryz.prog W "pliant/picture.punched" (Lib.tabData .u8 punchedZ) := Lib.laidMet.reads hd (.tail _ (.tail _ (.tail _ (.tail _ (.tail _ (.tail _ (.head _)))))))
  exact tab_is hr (g:=3) (t:=318) (n:=20) (e:=5) (by kernel_rfl) (by kernel_rfl) (by kernel_rfl) (by kernel_rfl) t5 (by kernel_rfl)
 ·have hr : Lib.VarReads Tryz.prog W "internal/strconv.uint64pow10" (Lib.tabData .u64 pow10Z) := Lib.laidMet.reads hd (.tail _ (.tail _ (.head _)))
  exact tab_is hr (g:=2) (t:=287) (n:=20) (e:=137) (by kernel_rfl) (by kernel_rfl) (by kernel_rfl) (by kernel_rfl) (by kernel_rfl) (by kernel_rfl)
 ·exact handle_of_laid hh
noncomputable def handleWorld (os : Os) : World :=
 let w0:=World.holding Tryz.prog os ⟨#[], #[],[]⟩
 {w0 with heap:=w0.heap.modify 0 fun
   | .cells _ t frozen=> .cells #[.iface 304 (.agg #[.pointer (some ⟨10,157,none⟩)])] t frozen
   | o=>o}
def laidD:List (String×DataW Unit):=laidL.filter fun x=>x.2.handleName?.isNone
noncomputable def laidWorld (os : Os) : World := (handleWorld os).layVars Tryz.prog laidD
theorem laidWorld_os(os:Os):(laidWorld os).os=os:=World.layVars_os _ _ _
theorem laidWorld_met(os:Os)(args:Array Value):laidMetH Tryz.prog laidL ((laidWorld os).forCall (fun _ _=>0) ⟨#[],args,[]⟩).memory:=by
 refine laidMetH_of_parts ?_ (by kernel_rfl);have e1:(laidD.filter fun x=>(laidD.map (·.1)).contains x.1)=laidD:=List.filter_eq_self.2 fun x hx=>List.contains_iff_mem.2 (List.mem_map.2 ⟨x,hx,rfl⟩)
 have e2:(laidD.filter fun x=> !(laidD.map (·.1)).contains x.1)=[]:=List.filter_eq_nil_iff.2 fun x hx=>by rw[List.contains_iff_mem.2 (List.mem_map.2 ⟨x,hx,rfl⟩)];simp
 have h:laidMet Tryz.prog laidD (laidWorld os):=laidMet_layVars (w0:=handleWorld os) (laidD.map (·.1)) [] (by rw[e1];rfl) (by rw[e1];kernel_rfl) (by rw[e1];kernel_rfl) (by rw[e2];exact LaidIn.none);exact h.of_heap (by simp[World.memory,World.forCall,Input.heap])
def jf6(P:Program)(t:TypeId)(α:Type) [Enc α](Q:α→Prop):Prop:=
 ∀{H:Type}{enc:TypeId×Value→H}{w:World}{base:Nat}{spare:Nat→Bool}{held:Bool}{r:Reach}{b0:Nat}{v:Value}{d:DataW H}{p:List MemPlace},Value.okWide P w r b0 t v→DataW.Trod enc P w base spare held t v d p→
  ∃a:α,v=Enc.enc a∧Q a∧p=[]∧ ∀(w':World)(b':Nat)(sp':Nat→Bool)(hd':Bool),DataW.Trod enc P w' b' sp' hd' t v d []
theorem opensP_string{P:Program}{t:TypeId}(ht:P.underlying t=some .string):jf6 P t Y fun s=>s.size≤9223372036854775807:=by
 intro H enc w base spare held r b0 v d p hv h;obtain⟨n,rfl,rfl,rfl,hw⟩:=open_string ht hv h;exact⟨n,rfl,Nat.le_trans hw (by decide),rfl,fun w' b' sp' hd'=>shut_string ht hw⟩
theorem oS:jf6 Tryz.prog 9 Y fun s=>s.size≤9223372036854775807:=opensP_string Tryz.underlying9
theorem opensP_int{P:Program}{t:TypeId}(ht:P.underlying t=some (.int .i64)):jf6 P t Int fun n=> -9223372036854775808≤n∧n≤9223372036854775807:=by
 intro H enc w base spare held r b0 v d p hv h;obtain⟨n,rfl,rfl,rfl,hw⟩:=open_int ht hv h;exact⟨n,rfl,by simpa[Lit.wf,IntKind.min,IntKind.max,IntKind.signed,IntKind.bits]using hw,rfl,fun w' b' sp' hd'=>shut_int ht hw⟩
theorem oI:jf6 Tryz.prog 3 Int fun n=> -9223372036854775808≤n∧n≤9223372036854775807:=opensP_int Tryz.underlying3
theorem opensP_bool{P:Program}{t:TypeId}(ht:P.underlying t=some .bool):jf6 P t Bool fun _=>True:=by
 intro H enc w base spare held r b0 v d p hv h;obtain⟨n,rfl,rfl,rfl⟩:=open_bool ht hv h;exact⟨n,rfl,trivial,rfl,fun w' b' sp' hd'=>shut_bool ht n⟩
theorem oB:jf6 Tryz.prog 4 Bool fun _=>True:=opensP_bool Tryz.underlying4
theorem opensP_leaves{P:Program}{α:Type} [Enc α]{t:TypeId}{fs:Array Field}{Q:α→Prop}(hs:P.underlying t=some (.struct fs))(hl:fs.toList.all (fun f=>jj6 P f.type)=true)
  (hc : ∀ cs : Array Value, cs.size = P.cellsOf t → (∀ (i : Nat) (f : Field), fs[i]? = some f → ∃ (H : Type) (enc : TypeId × Value → H) (w : World) (base : Nat) (spare : Nat → Bool) (held : Bool) (n : Nat) (y : DataW H × List MemPlace),
   DataW.trod enc P w base spare held n f.type ((cs.toList.drop f.offset).take (P.cellsOf f.type))=some y)→ ∃a:α,Value.agg cs=Enc.enc a∧Q a):jf6 P t α Q:=by
 intro H enc w base spare held r b0 v d p hv h;obtain⟨cs,rfl,hsz⟩:=okWide_struct hs hv;obtain⟨fuel,hf⟩:=h;simp only[Value.cells]at hf;obtain⟨hp,hany⟩:=leaves_any hs hl hf;obtain⟨xs,n,_,_,hlen,hxs,hg⟩:=DataW.trod_struct hs hf
 obtain⟨a,ha,hq⟩:=hc cs hsz fun i f hi=>by
  have hlt:i<xs.length:=by
   have:=(Array.getElem?_eq_some_iff.1 hi).1;omega
  exact⟨H,enc,w,base,spare,held,n,xs[i],by rw[hg i f hi,List.getElem?_eq_getElem hlt]⟩
 simp only at hp;subst hp;exact⟨a,ha,hq,rfl,fun w' b' sp' hd'=>⟨2,by simpa[Value.cells]using hany w' b' sp' hd'⟩⟩
def r64(n:Int):Prop:= -9223372036854775808≤n∧n≤9223372036854775807
def rS(s:Y):Prop:=s.size≤9223372036854775807
theorem r64_wf{n:Int}(h:(Lit.int .i64 n).wf=true):r64 n:=by simpa[Lit.wf,IntKind.min,IntKind.max,IntKind.signed,IntKind.bits,r64]using h
theorem array5{α:Type}{cs:Array α}(h:cs.size=5):∃c0 c1 c2 c3 c4,cs= #[c0,c1,c2,c3,c4]:=by
 obtain⟨l⟩:=cs
 match l,h with
 | [c0,c1,c2,c3,c4],_=>exact⟨c0,c1,c2,c3,c4,rfl⟩
theorem oT:jf6 Tryz.prog 45 Fx.Ty fun t=>r64 t.k∧r64 t.p∧r64 t.q∧rS t.s:=by
 refine opensP_leaves Tryz.underlying45 (by kernel_rfl) fun cs hsz hf=> ?_
 have hc:Tryz.prog.cellsOf 45=5:=by kernel_rfl
 have h3:Tryz.prog.cellsOf 3=1:=by kernel_rfl
 have h4:Tryz.prog.cellsOf 4=1:=by kernel_rfl
 have h9:Tryz.prog.cellsOf 9=1:=by kernel_rfl
 rw[hc]at hsz;obtain⟨c0,c1,c2,c3,c4,rfl⟩:=array5 hsz
 ·obtain ⟨H, enc, w, base, spare, held, n, y, h0⟩ := hf 0 { name := "Kind", type := 3, offset := 0, embedded := false, tag := "", pkgPath := "", byteOffset := 0 } rfl
  obtain ⟨H, enc, w, base, spare, held, n, y, h1⟩ := hf 1 { name := "P", type := 3, offset := 1, embedded := false, tag := "", pkgPath := "", byteOffset := 8 } rfl
  obtain ⟨H, enc, w, base, spare, held, n, y, h2⟩ := hf 2 { name := "Q", type := 3, offset := 2, embedded := false, tag := "", pkgPath := "", byteOffset := 16 } rfl
  obtain ⟨H, enc, w, base, spare, held, n, y, hv⟩ := hf 3 { name := "Vary", type := 4, offset := 3, embedded := false, tag := "", pkgPath := "", byteOffset := 24 } rfl
  obtain ⟨H, enc, w, base, spare, held, n, y, hs⟩ := hf 4 { name := "Pic", type := 9, offset := 4, embedded := false, tag := "", pkgPath := "", byteOffset := 32 } rfl
  obtain⟨k,e0,_,w0⟩:=DataW.trod_int Tryz.underlying3 h0;obtain⟨p,e1,_,w1⟩:=DataW.trod_int Tryz.underlying3 h1;obtain⟨q,e2,_,w2⟩:=DataW.trod_int Tryz.underlying3 h2;obtain⟨v,e3,_⟩:=DataW.trod_bool Tryz.underlying4 hv;obtain⟨s,e4,_,w4⟩:=DataW.trod_string Tryz.underlying9 hs;simp only[h3,h4,h9,List.drop_zero,List.drop_succ_cons,List.take_succ_cons,List.take_zero,List.cons.injEq,and_true]at e0 e1 e2 e3 e4;exact⟨⟨k,p,q,v,s⟩,by rw[e0,e1,e2,e3,e4];rfl,r64_wf w0,r64_wf w1,r64_wf w2,Nat.le_trans w4 (by decide)⟩
noncomputable def hAB (fn : Func) (s : ChangeSpec) (c : OpenClaim) : Bool := c.wf (OpenSpec.ofChange s) && fn.params.all (Tryz.prog.readableRec ·) && namedTie Tryz.prog c.named s.vars && (c.stops == []) && (c.knobs == [])
noncomputable def hRB (fn : Func) (s : ChangeSpec) (c : OpenClaim) : Bool := (c.maps == (fn.params.toList ++ s.plain.varTypes Tryz.prog).any (Tryz.prog.mapsRec ·)) && (c.ifaces == (fn.params.toList ++ s.plain.varTypes Tryz.prog).any (Tryz.prog.ifacesRec ·)) && (c.mapsOut == Tryz.prog.mapsAmong fn.resultTypes.toList) && (c.loops == (fn.params.toList ++ s.plain.varTypes Tryz.prog).any (Tryz.prog.loopsFrom ·))
noncomputable def hSB (fn : Func) (s : ChangeSpec) (c : OpenClaim) : Bool := (c.wideKeys == (fn.params.toList ++ s.plain.varTypes Tryz.prog ++ fn.resultTypes.toList).any (Tryz.prog.wideKeysFrom ·)) && s.vars.all (Tryz.prog.varReadable ·) && fn.resultTypes.all (fun t => Tryz.prog.readableRec t && decide (t<Tryz.prog.types.size)) && (c.ifacesOut == fn.resultTypes.toList.any (Tryz.prog.ifacesRec ·)) && (c.loopsOut == fn.resultTypes.toList.any (Tryz.prog.loopsFrom ·)) && c.shortTexts.isNone
noncomputable def hTB (fn : Func) (s : ChangeSpec) (c : OpenClaim) : Bool := (c.kinds == (if c.domain.isEmpty then [] else fn.params.toList.map fun t => match Tryz.prog.underlying t with | some (.int k) => some k | _ => none)) && (c.pinned == c.pinnedBy) && (c.veiled == (fn.params.toList ++ s.plain.varTypes Tryz.prog ++ fn.resultTypes.toList).any (Tryz.prog.veiledRec ·)) && c.veiledFits Tryz.prog fn.params.toList (fn.params.toList ++ s.plain.varTypes Tryz.prog ++ fn.resultTypes.toList)
set_option maxRecDepth 100000 in
theorem jf_mk{f:FuncId}{fn:Func}{s:ChangeSpec}{c:OpenClaim}(hA:hAB fn s c=true)(h1:(c.inPlace==Tryz.prog.inPlace f)=true)(h2:(c.unfollowed==Tryz.prog.unfollowed f)=true)(h3:(c.recurses==Tryz.prog.recurses f)=true)(h4:(c.named==Tryz.prog.varsNamed f)=true)
  (hR:hRB fn s c=true) (hS:hSB fn s c=true)
  (hk:(c.plainKeys==Tryz.prog.plainKeys)=true) (hl:(c.lifted==Tryz.prog.liftsFinal)=true) (hm:(Tryz.prog.make==some c.make)=true)
  (hT:hTB fn s c=true):joinedFacts Tryz.prog f fn s c=true:=by
 unfold joinedFacts;simp only[hAB,hRB,hSB,hTB,jaf]at hA hR hS hT;obtain⟨⟨⟨⟨a1,a2⟩,a3⟩,a4⟩,a5⟩:=hA;obtain⟨⟨⟨r1,r2⟩,r3⟩,r4⟩:=hR;obtain⟨⟨⟨⟨⟨s1,s2⟩,s3⟩,s4⟩,s5⟩,s6⟩:=hS;obtain⟨⟨⟨t1,t2⟩,t3⟩,t4⟩:=hT;rw[a1,a2,a3,a4,a5,h1,h2,h3,h4,r1,r2,r3,r4,s1,s2,s3,s4,s5,s6,t2,t3,t4,q_laid,q_maps,q_stop,q_knob,q_heard,q_enter,hk,hl,hm];simp only[Bool.true_and,Bool.and_true];exact t1
end Go.Px
end
noncomputable section
set_option maxHeartbeats 3200000
set_option maxRecDepth 100000
namespace Go.Fg
open Go Go.Ab Go.Proofs Go.Shelf Go.Px Go.Cv Go.Cx Go.Ff
open Go.Fx (Ty Vl)
attribute [local instance 5000] tabsB
def fcL:List Fo→U
 | []=> []
 | f::r=> .int .i64 f.k:: .int .i64 f.w:: .int .i64 f.d:: .string f.s::fcL r
def fosN:Nat→U→Option (List Fo)
 | 0,_=>some []
 | n+1,.int .i64 k:: .int .i64 w:: .int .i64 d:: .string s::r=>match fosN n r with | some l=>some (⟨k,w,d,s⟩::l) | none=>none
 | _,_=>none
def szF(f:Fo):Bool:=Nat.ble f.s.size 9223372036854775807
theorem jhb:∃d:U→Nat→Nat→List Fo,d=fun c off n=>(fosN n (c.drop off)).getD []:=⟨_,rfl⟩
def foA:U→Nat→Nat→List Fo:=Classical.choose jhb
theorem foA_eq(c:U)(off n:Nat):foA c off n=(fosN n (c.drop off)).getD []:=by rw[foA,Classical.choose_spec jhb]
def foOK(c:U)(off n:Nat):Bool:=(fosN n (c.drop off)).isSome&& (jav c&& (foA c off n).all szF)
theorem jcz:∀l:List Fo,(fcL l).length=l.length*4
 | []=>rfl
 | f::r=>by simp only[fcL,List.length_cons,jcz r];omega
theorem jhv:∀l r:List Fo,fcL (l++r)=fcL l++fcL r
 | [],_=>rfl
 | f::l,r=>by simp only[List.cons_append,fcL,jhv l r]
theorem jd0:∀l:List Fo,jav (fcL l)=true
 | []=>rfl
 | f::r=>by simp only[fcL,jav,plain,jd0 r,Bool.and_self]
theorem fcL_drop:∀(k:Nat)(l:List Fo),(fcL l).drop (k*4)=fcL (l.drop k)
 | 0,_=>by simp
 | k+1,[]=>by simp[fcL]
 | k+1,f::r=>by
  rw[show(k+1)*4=k*4+4 by omega];simp only[fcL,List.drop_succ_cons];exact fcL_drop k r
theorem fcL_take:∀(k:Nat)(l:List Fo),(fcL l).take (k*4)=fcL (l.take k)
 | 0,_=>by simp[fcL]
 | k+1,[]=>by simp[fcL]
 | k+1,f::r=>by
  rw[show(k+1)*4=k*4+4 by omega];simp only[fcL,List.take_succ_cons];rw[fcL_take k r]
theorem jiv:∀(l:List Fo)(r:U),fosN l.length (fcL l++r)=some l
 | [],r=>rfl
 | f::l,r=>by simp only[List.length_cons,fcL,List.cons_append,fosN,jiv l r]
theorem jht:∀{n:Nat}{c:U}{l:List Fo},fosN n c=some l↔l.length=n∧ ∃r,c=fcL l++r
 | 0,c,l=>by
  constructor
  ·intro h;cases h;exact⟨rfl,c,rfl⟩
  ·rintro ⟨h,r,rfl⟩;obtain rfl:=List.length_eq_zero_iff.1 h;rfl
 | n+1,c,l=>by
  constructor
  ·intro h;unfold fosN at h;split at h
   ·rename_i hm;cases hm
   ·rename_i m k w d s r hm;cases hm;split at h
    ·rename_i l' hl;cases h;obtain⟨h1,r',rfl⟩:=jht.1 hl;exact⟨by simp[h1],r',by simp[fcL]⟩
    ·cases h
   ·cases h
  ·rintro ⟨h,r,rfl⟩;rw[←h];exact jiv l r
theorem jfm{c:U}{off n:Nat}:foOK c off n=true↔(foA c off n).length=n∧(∃r,c.drop off=fcL (foA c off n)++r)∧jav c=true∧ ∀f∈foA c off n,f.s.size≤9223372036854775807:=by
 simp only[foOK,jaf,List.all_eq_true,szF,Nat.ble_eq];constructor
 ·rintro ⟨h1,h2,h3⟩;cases hv:fosN n (c.drop off)with
  | none=>rw[hv]at h1;cases h1
  | some l=>
   have e:foA c off n=l:=by simp[foA_eq,hv]
   obtain⟨q1,q2⟩:=jht.1 hv;rw[e]at h3 ⊢;exact⟨q1,q2,h2,h3⟩
 ·rintro ⟨h1,h2,h3,h4⟩;exact⟨by rw[jht.2 ⟨h1,h2⟩];rfl,h3,h4⟩
theorem foA_of{c:U}{off:Nat}{l:List Fo}{r:U}(h:c.drop off=fcL l++r):foA c off l.length=l:=by
 rw[foA_eq,h,jiv];rfl
theorem foOK_of{c:U}{off:Nat}{l:List Fo}{r:U}(h:c.drop off=fcL l++r)(hp:jav c=true)(hs:∀f∈l,f.s.size≤9223372036854775807):foOK c off l.length=true:=by
 rw[jfm,foA_of h];exact⟨rfl,⟨r,h⟩,hp,hs⟩
theorem foOK_own{l:List Fo}{r:U}(hp:jav r=true)(hs:∀f∈l,f.s.size≤9223372036854775807):foOK (fcL l++r) 0 l.length=true:=
 foOK_of (r:=r) (by simp) (jay.2 fun v hv=>(List.mem_append.1 hv).elim (jay.1 (jd0 l) v) (jay.1 hp v)) hs
theorem foA_own(l:List Fo)(r:U):foA (fcL l++r) 0 l.length=l:=foA_of (r:=r) (by simp)
theorem fcL_at:∀(l:List Fo)(r:U)(i:Nat)(f:Fo),l[i]?=some f→(fcL l++r)[i*4]?=some (.int .i64 f.k)∧(fcL l++r)[i*4+1]?=some (.int .i64 f.w)∧(fcL l++r)[i*4+2]?=some (.int .i64 f.d)∧(fcL l++r)[i*4+3]?=some (.string f.s)
 | [],_,_,_,h=>by simp at h
 | g::l,r,0,f,h=>by
  cases(by simpa using h:g=f);exact⟨rfl,rfl,rfl,rfl⟩
 | g::l,r,i+1,f,h=>by
  have:=fcL_at l r i f (by simpa using h);rw[show(i+1)*4=i*4+4 by omega,show i*4+4+1=i*4+1+4 by omega,show i*4+4+2=i*4+2+4 by omega,show i*4+4+3=i*4+3+4 by omega];simpa only[fcL,List.cons_append,List.getElem?_cons_succ]using this
theorem jcj{c:U}{off n:Nat}(h:foOK c off n=true):(foA c off n).length=n∧jav c=true∧ ∀(i:Nat),i<n→ ∃f,(foA c off n)[i]?=some f∧f.s.size≤9223372036854775807∧
  jam .i64 c (off+i*4)=true∧jam .i64 c (off+i*4+1)=true∧jam .i64 c (off+i*4+1+1)=true∧jbp c (off+i*4+1+1+1)=true∧
  jaj c (off+i*4)=f.k∧jaj c (off+i*4+1)=f.w∧jaj c (off+i*4+1+1)=f.d∧jb7 c (off+i*4+1+1+1)=f.s:=by
 obtain⟨h1,⟨r,h2⟩,h3,h4⟩:=jfm.1 h;refine⟨h1,h3,fun i hi=> ?_⟩;obtain⟨f,hf⟩:∃f,(foA c off n)[i]?=some f:=⟨_,List.getElem?_eq_getElem (by omega)⟩
 obtain⟨q1,q2,q3,q4⟩:=fcL_at _ r i f hf;rw[←h2,List.getElem?_drop]at q1 q2 q3 q4;refine⟨f,hf,h4 f (List.mem_of_getElem? hf),?_⟩;simp only[Nat.add_assoc]at*;simp only[jam,jbp,jaj,jb7,q1,q2,q3,q4,beq_self_eq_true,and_self]
theorem jeo{l:List Fo}{i:Nat}{f:Fo}(h:l[i]?=some f):l.drop i=f::l.drop (i+1):=by
 obtain⟨hi,rfl⟩:=List.getElem?_eq_some_iff.1 h;exact List.drop_eq_getElem_cons hi
theorem jcc{n:Nat}{c:U}(h:jav c=true):jaz n c=true:=by simp[jaz,jar h]
theorem jfa{c:U}{ty:TypeId}{o:Bool}(hp:jav c=true):jcu [some ⟨c,ty,o⟩]=vw c ty:=by
 funext k
 match k with
 | 0=>simp[jcu,jje,vw,hp]
 | k+1=>rfl
theorem jds{c:U}{ty:TypeId}{o:Bool}(hp:jav c=true):jcu [some ⟨c,ty,o⟩,none]=vw c ty:=by
 funext k
 match k with
 | 0=>simp[jcu,jje,vw,hp]
 | 1=>rfl
 | k+2=>rfl
theorem jcv{c:U}{off n:Nat}{x:Bool}(h:(foOK c off n&&x)=true):jav c=true:=by
 simp only[jaf]at h;exact(jcj h.1).2.1
def ixF(p:Fo→Bool):List Fo→Int→Int
 | [],_=> -1
 | f::r,i=>bif p f then i else ixF p r (i+1)
theorem ixF_any(p:Fo→Bool):∀(l:List Fo)(i:Int),0≤i→(decide (0≤ixF p l i))=l.any p
 | [],_,_=>rfl
 | f::r,i,h=>by
  unfold ixF;cases hp:p f
  ·simp only[cond_false,List.any_cons,hp,Bool.false_or];exact ixF_any p r (i+1) (by omega)
  ·simp[h,hp]
def ixV(p:Fo→Bool)(c:U)(off n:Nat)(i:Int):Int:=ixF p ((foA c off n).drop i.toNat) i
theorem jiq(p:Fo→Bool)(c:U)(off n:Nat):(decide (0≤ixV p c off n 0))=(foA c off n).any p:=by
 rw[ixV,Int.toNat_zero,List.drop_zero];exact ixF_any p _ 0 (by omega)
def altS(s s':Ab.Spec):Ab.Spec:=fun a b=>match s a b with | some x=>some x | none=>s' a b
theorem jfe{f:FuncId}{s s':Ab.Spec}(h:jal Tryz.prog f s)(h':jal Tryz.prog f s'):jal Tryz.prog f (altS s s'):=
 ⟨h.1, fun args v N w0 lk ι w hr hs hp => by
  simp only[altS]at hs;split at hs
  ·rename_i x he;exact h.2 args v N w0 lk ι w hr (by rw[he,hs]) hp
  ·exact h'.2 args v N w0 lk ι w hr hs hp⟩
def jdw(f:Fo):Bool:=decide (200<(f.s.size:Int))
def pBad(f:Fo):Bool:= !jb6 f
def isD(f:Fo):Bool:=decide (f.k≤4)
theorem ok_F3':jao Tryz.prog (Env.nil.add 77 (sp1 Ff.s44)):=jak ja7 Ff.ok44
def H0:Env:=Env.nil.add 77 (sp1 Ff.s44)
theorem ok_H0:jao Tryz.prog H0:=ok_F3'
def s42(f:Fo):Bool×Value:=(decide (f.s.size≤9223372036854775807),B (jdw f))
theorem fn42:Fn1 Tryz.prog 71 Tryz.f71:= .m Tryz.func71
theorem v42(f:Fo)(R:Value→Prop):ja4 Tryz.prog H0 noL Tryz.f71 [Enc.enc f] (fun _=>none) 0 (fun v _ _=>R v)=(R (B (decide ((((Fo.s f).size):Int)>200)))):=by kernel_rfl
theorem ok42:jal Tryz.prog 71 (sp1 s42):=by
 refine jcr ok_H0 hmix fn42 jai jag fun f hc=> ?_
 rw[jb5,v42];have hc:(f.s.size≤9223372036854775807):=jab hc
 try dsimp only[s42]
 rfl
def s43(f:Fo):Bool×Value:=(decide (f.s.size≤9223372036854775807),B (pBad f))
theorem fn43:Fn1 Tryz.prog 76 Tryz.f76:= .m Tryz.func76
theorem v43(f:Fo)(R:Value→Prop):ja4 Tryz.prog H0 noL Tryz.f76 [Enc.enc f] (fun _=>none) 0 (fun v _ _=>R v)=(bif decide ((Fo.s f).size≤9223372036854775807)then R (B !jb6 f)else False):=by kernel_rfl
theorem ok43:jal Tryz.prog 76 (sp1 s43):=by
 refine jcr ok_H0 hmix fn43 jai jag fun f hc=> ?_
 rw[jb5,v43];have hc:(f.s.size≤9223372036854775807):=jab hc
 try dsimp only[s43]
 rw[jaa hc,cond_true];rfl
attribute [local instance 5000] tabsB
namespace K42
def H1:Env:=H0.add 71 (sp1 s42)
theorem ok_H1:jao Tryz.prog H1:=jak ok_H0 ok42
def V77_0:U×Nat×Nat×Nat×Nat×Int×Int×Int→U:=fun(c,ty,off,n,cap,r,m,i)=> [.slice (some ⟨0,off,some 1⟩) n cap,.func (.func 71) ⟨[]⟩ ⟨[]⟩,I r,I m,I i]
def B77_0:U×Nat×Nat×Nat×Nat×Int×Int×Int→F:=fun(c,ty,off,n,cap,r,m,i)=> [some ⟨c,ty,false⟩]
def S77_0:LSpec (U×Nat×Nat×Nat×Nat×Int×Int×Int) where
 live:=[0,1,4,7,8]
 mid:=[0]
 n:=60
 dec vs bs:=match vs,bs with | [.slice (some ⟨0,off,some 1⟩) n cap,.func (.func 71) ⟨[]⟩ ⟨[]⟩,.int .i64 r,.int .i64 m,.int .i64 i],[some ⟨c,ty,false⟩]=>some (c,ty,off,n,cap,r,m,i) | _,_=>none
 pre:=fun(c,ty,off,n,cap,r,m,i)=>foOK c off n&&decide (n≤1000000∧m=n∧0≤i∧i≤n)
 fin:=fun(c,ty,off,n,cap,r,m,i) Z=>(bif (ixV jdw c off n i)== -1 then Z (.exit 0) [.slice (some ⟨0,off,some 1⟩) n cap,.func (.func 71) ⟨[]⟩ ⟨[]⟩,I r,I m,I n] [some ⟨c,ty,false⟩]else Z .ret [.slice (some ⟨0,off,some 1⟩) n cap,.func (.func 71) ⟨[]⟩ ⟨[]⟩,I (ixV jdw c off n i),I m,I (ixV jdw c off n i)] [some ⟨c,ty,false⟩])
def il(a:U)(b:Nat):F:=[some (.mk a b false)]
def cl(a b c:Nat):Value:= .slice (some (.mk 0 a (some 1))) b c
def cm(a:Int):Nat:=a.toNat*4
def dx(b:Int)(a:Nat):Nat:=a+Fg.K42.cm b+1
def gu(a:U)(b:Nat):Bool:=jam .i64 a b&& (jam .i64 a (b+1) && (jbp a (b+1+1) &&true))
def d9(c:Int)(a:U)(b:Nat):Bool:=jam .i64 a (b+Fg.K42.cm c) &&Fg.K42.gu a (Fg.K42.dx c b)
def j9(f:Bool)(g:Exit→U→F→Prop)(a b:Int)(c i j l:U)(d e h k:Nat):Prop:=bif al a b then b4 (Fg.K42.d9 a c d) a e (ek (aw (jb7 c (Fg.K42.dx a d+1+1))) f g (Fg.K42.il c h) i j (Fg.K42.cl d e k))else g (.exit 0) (Fg.K42.cl d e k::l) (Fg.K42.il c h)
def g9(a:FuncId)(b:Int)(c:U):U:= .func (.func a) ⟨[]⟩ ⟨[]⟩::ak b::c
def fk(c:Int)(a:U)(b:Nat):Ff.Fo:=Ff.Fo.mk (jaj a (b+Fg.K42.cm c)) (jaj a (Fg.K42.dx c b)) (jaj a (Fg.K42.dx c b+1)) (jb7 a (Fg.K42.dx c b+1+1))
theorem r77_0(c:U)(ty:Nat)(off:Nat)(n:Nat)(cap:Nat)(r:Int)(m:Int)(i:Int)(jk:Tmps)(R:Exit→U→F→Prop):(jbz Tryz.prog H1 noL Tryz.f120.ntmps (ja9 Tryz.f120 0) (tl S77_0.live (V77_0 (c,ty,off,n,cap,r,m,i)) jk) (ml S77_0.mid (B77_0 (c,ty,off,n,cap,r,m,i))) S77_0.n fun e t' m' _=>R e (List.map t' S77_0.live) (List.map m' S77_0.mid))=(Fg.K42.j9 (Fg.jdw (Fg.K42.fk i c off)) R i m c (Fg.K42.g9 71 i (ar m i)) (Fg.K42.cl off n cap::Fg.K42.g9 71 r (br m i)) (Fg.K42.g9 71 r (ar m i)) off n ty cap):=by kernel_rfl
theorem l77_0:LOKf Tryz.prog (oneL 0 S77_0.hQ) Tryz.f120:=by
 refine jbk (h:=S77_0.hQ) (by kernel_rfl) (jdy ok_H1 hmix (by kernel_rfl) (ja6 _) S77_0 V77_0 B77_0 (fun(c,ty,off,n,cap,r,m,i)=>(n-i).toNat) ?_ ?_ ?_)
 ·intro vs bs s h;simp only[S77_0]at h;split at h
  all_goals first | (cases h;exact⟨rfl,rfl⟩) | cases h | (split at h<;>first | (rename_i hq;cases h;have hq:=jah hq;subst hq;exact⟨rfl,rfl⟩) | (rename_i hq;cases h;simp only[cnd,jaf,Nat.beq_eq]at hq;obtain⟨rfl,rfl,rfl⟩:=hq;exact⟨rfl,rfl⟩) | cases h)
 ·exact fun k ⟨c,ty,off,n,cap,r,m,i⟩ ⟨c',ty',off',n',cap',r',m',i'⟩ hp h=>by
   simp only[S77_0,jaf]at hp;have hq:=jcc (n:=k) (jcj hp.1).2.1;simp_all[V77_0,B77_0,jbn,jaz,idsL,ids]
 ·intro⟨c,ty,off,n,cap,r,m,i⟩ jk Z hp hf;rw[r77_0];delta Fg.K42.il Fg.K42.cl cw b4 ek aw Fg.K42.cm Fg.K42.dx Fg.K42.gu Fg.K42.d9 al Fg.K42.j9 ak Fg.K42.g9 ar bq bp br Fg.K42.fk;simp only[S77_0]at hp hf;simp only[jaf,jae]at hp;obtain⟨ho,h1,rfl,h3,h4⟩:=hp;obtain⟨hl,hpl,hat⟩:=jcj ho;rw[ixV]at hf;apply cond_intro<;>intro h
  ·have h:=jab h;obtain⟨f,hf1,hsz,q1,q2,q3,q4,e1,e2,e3,e4⟩:=hat i.toNat (by omega);have hd:=jeo hf1;have hi:(i+1).toNat=i.toNat+1:=by omega
   rw[hd,ixF]at hf;rw[q1,q2,q3,q4,e1,e2,e3,e4];refine c_t (jaa (by omega)) (c_t rfl (c_t (jaa hsz) ?_));have hp':jdw ⟨f.k,f.w,f.d,f.s⟩=jdw f:=rfl;rw[hp'];cases hq:jdw f
   ·rw[hq,cond_false]at hf;refine c_f rfl ?_;rw[w64 (n:=i+1) (by omega)];refine⟨(c,ty,off,n,cap,r,n,i+1),rfl,rfl,?_,by simp only;omega,?_⟩
    ·simp only[S77_0,jaf,jae];exact⟨ho,h1,trivial,by omega,by omega⟩
    ·simp only[S77_0,ixV];rw[hi];exact hf
   ·rw[hq,cond_true,show(i== -1)=false by simp;omega]at hf;exact c_t rfl hf
  ·have h:=jac h;obtain rfl:i=n:=by omega
   rw[Int.toNat_natCast,List.drop_eq_nil_of_le (by omega)]at hf;exact hf
def s77n:Ab.Spec:=fun args bs=>match args,bs with
 | [.slice none 0 0,.func (.func 71) ⟨[]⟩ ⟨[]⟩],[none,none]=>some (true,I (-1))
 | _,_=>none
theorem fn77:Fn1 Tryz.prog 120 Tryz.f120:= .m Tryz.func120
theorem v77n_0(R:Value→Prop):ja4 Tryz.prog H1 noL Tryz.f120 [.slice none 0 0,.func (.func 71) ⟨[]⟩ ⟨[]⟩] (jcu [none,none]) 2 (fun v _ _=>R v)=(bif decide (0<natO 0)then False else R (I (-1))):=by kernel_rfl
theorem k77n_0(hc:(true)=true):jbf Tryz.prog H1 noL Tryz.f120 [.slice none 0 0,.func (.func 71) ⟨[]⟩ ⟨[]⟩] [none,none] 2 (I (-1)):=by
 rw[jbf,v77n_0];rw[ja3];rfl
theorem ok77n:jal Tryz.prog 120 s77n:=by
 refine jbt ok_H1 hmix fn77 jai fun args bs v hs=> ?_
 simp only[s77n]at hs;split at hs
 ·simp only[Option.some.injEq,Prod.mk.injEq]at hs;obtain⟨hc,rfl⟩:=hs;exact⟨_,2,rfl,rfl,jag,k77n_0 (by first | rfl | exact hc)⟩
 ·cases hs
def s77w:Ab.Spec:=fun args bs=>match args,bs with
 | [.slice (some ⟨_,off,some 1⟩) n cap,.func (.func 71) ⟨[]⟩ ⟨[]⟩],[some ⟨c,ty,o⟩,none]=>some ((foOK c off n&&decide (n≤1000000)),I (ixV jdw c off n 0))
 | _,_=>none
def ke(b c:Bool)(f:Int)(a:U)(d:Prop)(e:Value→Prop):Prop:=bif bu a 60 then bif b then bif c then d else e6 (bu a 60) (ak f) e else False else False
def kc(g:Ff.Fo→Bool)(a:LSpec (Prod U (Prod Nat (Prod Nat (Prod Nat (Prod Nat (Prod Int (Prod Int Int))))))))(b:U)(d e f:Nat)(c:TypeId)(h:Value→Prop):Prop:=Fg.K42.ke (a.pre (b,(c,(d,(e,(f,((0:Int),(natO e,(0:Int))))))))) (Fg.ixV g b d e 0== -(1:Int)) (Fg.ixV g b d e 0) b (e6 (bu b 60) (.int .i64 (-1)) h) h
theorem v77w_0(c:U)(ty:TypeId)(o:Bool)(off:Nat)(n:Nat)(cap:Nat)(R:Value→Prop):ja4 Tryz.prog H1 (oneL 0 S77_0.hQ) Tryz.f120 [.slice (some ⟨0,off,some 1⟩) n cap,.func (.func 71) ⟨[]⟩ ⟨[]⟩] (vw c ty) 2 (fun v _ _=>R v)=(Fg.K42.kc Fg.jdw Fg.K42.S77_0 c off n cap ty R):=by kernel_rfl
theorem k77w_0(c:U)(ty:TypeId)(o:Bool)(off:Nat)(n:Nat)(cap:Nat)(hc:((foOK c off n&&decide (n≤1000000)))=true):jbf Tryz.prog H1 (oneL 0 S77_0.hQ) Tryz.f120 [.slice (some ⟨0,off,some 1⟩) n cap,.func (.func 71) ⟨[]⟩ ⟨[]⟩] [some ⟨c,ty,o⟩,none] 2 (I (ixV jdw c off n 0)):=by
 rw[jbf,jds (o:=o) (jcv hc),v77w_0 (o:=o)];delta e6 ak bu Fg.K42.ke Fg.K42.kc;rw[ja3];simp only[jaf,jae]at hc;obtain⟨ho,hn⟩:=hc;have hi:jaz 60 c=true:=jcc (jcj ho).2.1;refine c_t (by simp[hi]) (c_t ?_ ?_)
 ·simp only[S77_0,jaf,jae];exact⟨ho,hn,trivial,by omega,by omega⟩
 ·skip
  apply cond_intro<;>intro h
  ·rw[eq_of_beq h];exact c_t (by simp[hi]) fun _=>rfl
  ·exact c_t (by simp[hi]) fun _=>rfl
theorem ok77w:jal Tryz.prog 120 s77w:=by
 refine jbt ok_H1 hmix fn77 l77_0 fun args bs v hs=> ?_
 simp only[s77w]at hs;split at hs
 ·simp only[Option.some.injEq,Prod.mk.injEq]at hs;obtain⟨hc,rfl⟩:=hs;exact⟨_,2,rfl,rfl,jag,k77w_0 _ _ _ _ _ _ (by first | rfl | exact hc)⟩
 ·cases hs
def s77:Ab.Spec:=altS s77n s77w
theorem ok77:jal Tryz.prog 120 s77:=jfe ok77n ok77w
def H2:Env:=H1.add 120 s77
theorem ok_H2:jao Tryz.prog H2:=jak ok_H1 ok77
def s41:Ab.Spec:=fun args bs=>match args,bs with
 | [.slice none 0 0,.func (.func 71) ⟨[]⟩ ⟨[]⟩],[none,none]=>some (true,B false)
 | [.slice (some ⟨_,off,some 1⟩) n cap,.func (.func 71) ⟨[]⟩ ⟨[]⟩],[some ⟨c,ty,o⟩,none]=>some ((foOK c off n&&decide (n≤1000000)),B ((foA c off n).any jdw))
 | _,_=>none
theorem fn41:Fn1 Tryz.prog 70 Tryz.f70:= .m Tryz.func70
theorem v41_0(R:Value→Prop):ja4 Tryz.prog H2 noL Tryz.f70 [.slice none 0 0,.func (.func 71) ⟨[]⟩ ⟨[]⟩] (jcu [none,none]) 2 (fun v _ _=>R v)=(R (B (decide (-1≥0)))):=by kernel_rfl
theorem v41_1(c:U)(ty:TypeId)(o:Bool)(off:Nat)(n:Nat)(cap:Nat)(R:Value→Prop):ja4 Tryz.prog H2 noL Tryz.f70 [.slice (some ⟨0,off,some 1⟩) n cap,.func (.func 71) ⟨[]⟩ ⟨[]⟩] (vw c ty) 2 (fun v _ _=>R v)=(bif foOK c off n&&decide (n≤1000000)then R (B (decide (ixV jdw c off n 0≥0)))else False):=by kernel_rfl
theorem k41_0(hc:(true)=true):jbf Tryz.prog H2 noL Tryz.f70 [.slice none 0 0,.func (.func 71) ⟨[]⟩ ⟨[]⟩] [none,none] 2 (B false):=by
 rw[jbf,v41_0];rfl
theorem k41_1(c:U)(ty:TypeId)(o:Bool)(off:Nat)(n:Nat)(cap:Nat)(hc:((foOK c off n&&decide (n≤1000000)))=true):jbf Tryz.prog H2 noL Tryz.f70 [.slice (some ⟨0,off,some 1⟩) n cap,.func (.func 71) ⟨[]⟩ ⟨[]⟩] [some ⟨c,ty,o⟩,none] 2 (B ((foA c off n).any jdw)):=by
 rw[jbf,jds (o:=o) (jcv hc),v41_1 (o:=o)];refine c_t hc ?_;rw[←jiq]
theorem ok41:jal Tryz.prog 70 s41:=by
 refine jbt ok_H2 hmix fn41 jai fun args bs v hs=> ?_
 simp only[s41]at hs;split at hs
 ·simp only[Option.some.injEq,Prod.mk.injEq]at hs;obtain⟨hc,rfl⟩:=hs;exact⟨_,2,rfl,rfl,jag,k41_0 (by first | rfl | exact hc)⟩
 ·simp only[Option.some.injEq,Prod.mk.injEq]at hs;obtain⟨hc,rfl⟩:=hs;exact⟨_,2,rfl,rfl,jag,k41_1 _ _ _ _ _ _ (by first | rfl | exact hc)⟩
 ·cases hs
def H3:Env:=H2.add 70 s41
theorem ok_H3:jao Tryz.prog H3:=jak ok_H2 ok41
def s11:Ab.Spec:=fun args bs=>match args,bs with
 | [.slice none 0 0],[none]=>some (true,B true)
 | [.slice (some ⟨_,off,some 1⟩) n cap],[some ⟨c,ty,o⟩]=>some ((foOK c off n&&true),B (decide ((n:Int)≤40) && !(foA c off n).any jdw))
 | _,_=>none
theorem fn11:Fn1 Tryz.prog 22 Tryz.f22:= .m Tryz.func22
theorem v11_0(R:Value→Prop):ja4 Tryz.prog H3 noL Tryz.f22 [.slice none 0 0] (jcu [none]) 1 (fun v _ _=>R v)=(bif decide (natO 0≤40) || true then R (B (decide (natO 0≤40) && !false))else False):=by kernel_rfl
def jl(a:U)(b c:Nat):Bool:=Fg.foOK a b c&&decide (c≤1000000) &&true
theorem v11_1(c:U)(ty:TypeId)(o:Bool)(off:Nat)(n:Nat)(cap:Nat)(R:Value→Prop):ja4 Tryz.prog H3 noL Tryz.f22 [.slice (some ⟨0,off,some 1⟩) n cap] (vw c ty) 1 (fun v _ _=>R v)=(az (bif decide (natO n≤40)then Fg.K42.jl c off n else true) (B (decide (natO n≤40) && !(Fg.foA c off n).any Fg.jdw)) R):=by kernel_rfl
theorem k11_0(hc:(true)=true):jbf Tryz.prog H3 noL Tryz.f22 [.slice none 0 0] [none] 1 (B true):=by
 rw[jbf,v11_0];rw[ja3];rfl
theorem k11_1(c:U)(ty:TypeId)(o:Bool)(off:Nat)(n:Nat)(cap:Nat)(hc:((foOK c off n&&true))=true):jbf Tryz.prog H3 noL Tryz.f22 [.slice (some ⟨0,off,some 1⟩) n cap] [some ⟨c,ty,o⟩] 1 (B (decide ((n:Int)≤40) && !(foA c off n).any jdw)):=by
 rw[jbf,jfa (o:=o) (jcv hc),v11_1 (o:=o)];delta az Fg.K42.jl;rw[ja3];simp only[jaf,and_true]at hc;rw[hc];refine c_t ?_ rfl;by_cases h:(n:Int)≤40
 ·rw[jaa h];simp;omega
 ·rw[jad h];rfl
theorem ok11:jal Tryz.prog 22 s11:=by
 refine jbt ok_H3 hmix fn11 jai fun args bs v hs=> ?_
 simp only[s11]at hs;split at hs
 ·simp only[Option.some.injEq,Prod.mk.injEq]at hs;obtain⟨hc,rfl⟩:=hs;exact⟨_,1,rfl,rfl,jag,k11_0 (by first | rfl | exact hc)⟩
 ·simp only[Option.some.injEq,Prod.mk.injEq]at hs;obtain⟨hc,rfl⟩:=hs;exact⟨_,1,rfl,rfl,jag,k11_1 _ _ _ _ _ _ (by first | rfl | exact hc)⟩
 ·cases hs
end K42
attribute [local instance 5000] tabsB
namespace K43
def H1:Env:=H0.add 76 (sp1 s43)
theorem ok_H1:jao Tryz.prog H1:=jak ok_H0 ok43
def V77_0:U×Nat×Nat×Nat×Nat×Int×Int×Int→U:=fun(c,ty,off,n,cap,r,m,i)=> [.slice (some ⟨0,off,some 1⟩) n cap,.func (.func 76) ⟨[]⟩ ⟨[]⟩,I r,I m,I i]
def B77_0:U×Nat×Nat×Nat×Nat×Int×Int×Int→F:=fun(c,ty,off,n,cap,r,m,i)=> [some ⟨c,ty,false⟩]
def S77_0:LSpec (U×Nat×Nat×Nat×Nat×Int×Int×Int) where
 live:=[0,1,4,7,8]
 mid:=[0]
 n:=60
 dec vs bs:=match vs,bs with | [.slice (some ⟨0,off,some 1⟩) n cap,.func (.func 76) ⟨[]⟩ ⟨[]⟩,.int .i64 r,.int .i64 m,.int .i64 i],[some ⟨c,ty,false⟩]=>some (c,ty,off,n,cap,r,m,i) | _,_=>none
 pre:=fun(c,ty,off,n,cap,r,m,i)=>foOK c off n&&decide (n≤1000000∧m=n∧0≤i∧i≤n)
 fin:=fun(c,ty,off,n,cap,r,m,i) Z=>(bif (ixV pBad c off n i)== -1 then Z (.exit 0) [.slice (some ⟨0,off,some 1⟩) n cap,.func (.func 76) ⟨[]⟩ ⟨[]⟩,I r,I m,I n] [some ⟨c,ty,false⟩]else Z .ret [.slice (some ⟨0,off,some 1⟩) n cap,.func (.func 76) ⟨[]⟩ ⟨[]⟩,I (ixV pBad c off n i),I m,I (ixV pBad c off n i)] [some ⟨c,ty,false⟩])
theorem r77b_0(c:U)(ty:Nat)(off:Nat)(n:Nat)(cap:Nat)(r:Int)(m:Int)(i:Int)(jk:Tmps)(R:Exit→U→F→Prop):(jbz Tryz.prog H1 noL Tryz.f120.ntmps (ja9 Tryz.f120 0) (tl S77_0.live (V77_0 (c,ty,off,n,cap,r,m,i)) jk) (ml S77_0.mid (B77_0 (c,ty,off,n,cap,r,m,i))) S77_0.n fun e t' m' _=>R e (List.map t' S77_0.live) (List.map m' S77_0.mid))=(Fg.K42.j9 (Fg.pBad (Fg.K42.fk i c off)) R i m c (Fg.K42.g9 76 i (ar m i)) (Fg.K42.cl off n cap::Fg.K42.g9 76 r (br m i)) (Fg.K42.g9 76 r (ar m i)) off n ty cap):=by kernel_rfl
theorem l77_0:LOKf Tryz.prog (oneL 0 S77_0.hQ) Tryz.f120:=by
 refine jbk (h:=S77_0.hQ) (by kernel_rfl) (jdy ok_H1 hmix (by kernel_rfl) (ja6 _) S77_0 V77_0 B77_0 (fun(c,ty,off,n,cap,r,m,i)=>(n-i).toNat) ?_ ?_ ?_)
 ·intro vs bs s h;simp only[S77_0]at h;split at h
  all_goals first | (cases h;exact⟨rfl,rfl⟩) | cases h | (split at h<;>first | (rename_i hq;cases h;have hq:=jah hq;subst hq;exact⟨rfl,rfl⟩) | (rename_i hq;cases h;simp only[cnd,jaf,Nat.beq_eq]at hq;obtain⟨rfl,rfl,rfl⟩:=hq;exact⟨rfl,rfl⟩) | cases h)
 ·exact fun k ⟨c,ty,off,n,cap,r,m,i⟩ ⟨c',ty',off',n',cap',r',m',i'⟩ hp h=>by
   simp only[S77_0,jaf]at hp;have hq:=jcc (n:=k) (jcj hp.1).2.1;simp_all[V77_0,B77_0,jbn,jaz,idsL,ids]
 ·intro⟨c,ty,off,n,cap,r,m,i⟩ jk Z hp hf;rw[r77b_0];delta Fg.K42.il Fg.K42.cl cw b4 ek aw Fg.K42.cm Fg.K42.dx Fg.K42.gu Fg.K42.d9 al Fg.K42.j9 ak Fg.K42.g9 ar bq bp br Fg.K42.fk;simp only[S77_0]at hp hf;simp only[jaf,jae]at hp;obtain⟨ho,h1,rfl,h3,h4⟩:=hp;obtain⟨hl,hpl,hat⟩:=jcj ho;rw[ixV]at hf;apply cond_intro<;>intro h
  ·have h:=jab h;obtain⟨f,hf1,hsz,q1,q2,q3,q4,e1,e2,e3,e4⟩:=hat i.toNat (by omega);have hd:=jeo hf1;have hi:(i+1).toNat=i.toNat+1:=by omega
   rw[hd,ixF]at hf;rw[q1,q2,q3,q4,e1,e2,e3,e4];refine c_t (jaa (by omega)) (c_t rfl (c_t (jaa hsz) ?_));have hp':pBad ⟨f.k,f.w,f.d,f.s⟩=pBad f:=rfl;rw[hp'];cases hq:pBad f
   ·rw[hq,cond_false]at hf;refine c_f rfl ?_;rw[w64 (n:=i+1) (by omega)];refine⟨(c,ty,off,n,cap,r,n,i+1),rfl,rfl,?_,by simp only;omega,?_⟩
    ·simp only[S77_0,jaf,jae];exact⟨ho,h1,trivial,by omega,by omega⟩
    ·simp only[S77_0,ixV];rw[hi];exact hf
   ·rw[hq,cond_true,show(i== -1)=false by simp;omega]at hf;exact c_t rfl hf
  ·have h:=jac h;obtain rfl:i=n:=by omega
   rw[Int.toNat_natCast,List.drop_eq_nil_of_le (by omega)]at hf;exact hf
def s77n:Ab.Spec:=fun args bs=>match args,bs with
 | [.slice none 0 0,.func (.func 76) ⟨[]⟩ ⟨[]⟩],[none,none]=>some (true,I (-1))
 | _,_=>none
theorem fn77:Fn1 Tryz.prog 120 Tryz.f120:= .m Tryz.func120
theorem v77nb_0(R:Value→Prop):ja4 Tryz.prog H1 noL Tryz.f120 [.slice none 0 0,.func (.func 76) ⟨[]⟩ ⟨[]⟩] (jcu [none,none]) 2 (fun v _ _=>R v)=(bif decide (0<natO 0)then False else R (I (-1))):=by kernel_rfl
theorem k77nb_0(hc:(true)=true):jbf Tryz.prog H1 noL Tryz.f120 [.slice none 0 0,.func (.func 76) ⟨[]⟩ ⟨[]⟩] [none,none] 2 (I (-1)):=by
 rw[jbf,v77nb_0];rw[ja3];rfl
theorem ok77n:jal Tryz.prog 120 s77n:=by
 refine jbt ok_H1 hmix fn77 jai fun args bs v hs=> ?_
 simp only[s77n]at hs;split at hs
 ·simp only[Option.some.injEq,Prod.mk.injEq]at hs;obtain⟨hc,rfl⟩:=hs;exact⟨_,2,rfl,rfl,jag,k77nb_0 (by first | rfl | exact hc)⟩
 ·cases hs
def s77w:Ab.Spec:=fun args bs=>match args,bs with
 | [.slice (some ⟨_,off,some 1⟩) n cap,.func (.func 76) ⟨[]⟩ ⟨[]⟩],[some ⟨c,ty,o⟩,none]=>some ((foOK c off n&&decide (n≤1000000)),I (ixV pBad c off n 0))
 | _,_=>none
theorem v77wb_0(c:U)(ty:TypeId)(o:Bool)(off:Nat)(n:Nat)(cap:Nat)(R:Value→Prop):ja4 Tryz.prog H1 (oneL 0 S77_0.hQ) Tryz.f120 [.slice (some ⟨0,off,some 1⟩) n cap,.func (.func 76) ⟨[]⟩ ⟨[]⟩] (vw c ty) 2 (fun v _ _=>R v)=(Fg.K42.kc Fg.pBad Fg.K43.S77_0 c off n cap ty R):=by kernel_rfl
theorem k77wb_0(c:U)(ty:TypeId)(o:Bool)(off:Nat)(n:Nat)(cap:Nat)(hc:((foOK c off n&&decide (n≤1000000)))=true):jbf Tryz.prog H1 (oneL 0 S77_0.hQ) Tryz.f120 [.slice (some ⟨0,off,some 1⟩) n cap,.func (.func 76) ⟨[]⟩ ⟨[]⟩] [some ⟨c,ty,o⟩,none] 2 (I (ixV pBad c off n 0)):=by
 rw[jbf,jds (o:=o) (jcv hc),v77wb_0 (o:=o)];delta e6 ak bu Fg.K42.ke Fg.K42.kc;rw[ja3];simp only[jaf,jae]at hc;obtain⟨ho,hn⟩:=hc;have hi:jaz 60 c=true:=jcc (jcj ho).2.1;refine c_t (by simp[hi]) (c_t ?_ ?_)
 ·simp only[S77_0,jaf,jae];exact⟨ho,hn,trivial,by omega,by omega⟩
 ·skip
  apply cond_intro<;>intro h
  ·rw[eq_of_beq h];exact c_t (by simp[hi]) fun _=>rfl
  ·exact c_t (by simp[hi]) fun _=>rfl
theorem ok77w:jal Tryz.prog 120 s77w:=by
 refine jbt ok_H1 hmix fn77 l77_0 fun args bs v hs=> ?_
 simp only[s77w]at hs;split at hs
 ·simp only[Option.some.injEq,Prod.mk.injEq]at hs;obtain⟨hc,rfl⟩:=hs;exact⟨_,2,rfl,rfl,jag,k77wb_0 _ _ _ _ _ _ (by first | rfl | exact hc)⟩
 ·cases hs
def s77:Ab.Spec:=altS s77n s77w
theorem ok77:jal Tryz.prog 120 s77:=jfe ok77n ok77w
def H2:Env:=H1.add 120 s77
theorem ok_H2:jao Tryz.prog H2:=jak ok_H1 ok77
def s41:Ab.Spec:=fun args bs=>match args,bs with
 | [.slice none 0 0,.func (.func 76) ⟨[]⟩ ⟨[]⟩],[none,none]=>some (true,B false)
 | [.slice (some ⟨_,off,some 1⟩) n cap,.func (.func 76) ⟨[]⟩ ⟨[]⟩],[some ⟨c,ty,o⟩,none]=>some ((foOK c off n&&decide (n≤1000000)),B ((foA c off n).any pBad))
 | _,_=>none
theorem fn41:Fn1 Tryz.prog 70 Tryz.f70:= .m Tryz.func70
theorem v41b_0(R:Value→Prop):ja4 Tryz.prog H2 noL Tryz.f70 [.slice none 0 0,.func (.func 76) ⟨[]⟩ ⟨[]⟩] (jcu [none,none]) 2 (fun v _ _=>R v)=(R (B (decide (-1≥0)))):=by kernel_rfl
theorem v41b_1(c:U)(ty:TypeId)(o:Bool)(off:Nat)(n:Nat)(cap:Nat)(R:Value→Prop):ja4 Tryz.prog H2 noL Tryz.f70 [.slice (some ⟨0,off,some 1⟩) n cap,.func (.func 76) ⟨[]⟩ ⟨[]⟩] (vw c ty) 2 (fun v _ _=>R v)=(bif foOK c off n&&decide (n≤1000000)then R (B (decide (ixV pBad c off n 0≥0)))else False):=by kernel_rfl
theorem k41b_0(hc:(true)=true):jbf Tryz.prog H2 noL Tryz.f70 [.slice none 0 0,.func (.func 76) ⟨[]⟩ ⟨[]⟩] [none,none] 2 (B false):=by
 rw[jbf,v41b_0];rfl
theorem k41b_1(c:U)(ty:TypeId)(o:Bool)(off:Nat)(n:Nat)(cap:Nat)(hc:((foOK c off n&&decide (n≤1000000)))=true):jbf Tryz.prog H2 noL Tryz.f70 [.slice (some ⟨0,off,some 1⟩) n cap,.func (.func 76) ⟨[]⟩ ⟨[]⟩] [some ⟨c,ty,o⟩,none] 2 (B ((foA c off n).any pBad)):=by
 rw[jbf,jds (o:=o) (jcv hc),v41b_1 (o:=o)];refine c_t hc ?_;rw[←jiq]
theorem ok41:jal Tryz.prog 70 s41:=by
 refine jbt ok_H2 hmix fn41 jai fun args bs v hs=> ?_
 simp only[s41]at hs;split at hs
 ·simp only[Option.some.injEq,Prod.mk.injEq]at hs;obtain⟨hc,rfl⟩:=hs;exact⟨_,2,rfl,rfl,jag,k41b_0 (by first | rfl | exact hc)⟩
 ·simp only[Option.some.injEq,Prod.mk.injEq]at hs;obtain⟨hc,rfl⟩:=hs;exact⟨_,2,rfl,rfl,jag,k41b_1 _ _ _ _ _ _ (by first | rfl | exact hc)⟩
 ·cases hs
def H3:Env:=H2.add 70 s41
theorem ok_H3:jao Tryz.prog H3:=jak ok_H2 ok41
def s12:Ab.Spec:=fun args bs=>match args,bs with
 | [.slice none 0 0],[none]=>some (true,I 0)
 | [.slice (some ⟨_,off,some 1⟩) n cap],[some ⟨c,ty,o⟩]=>some ((foOK c off n&&true),I (bif decide (16<(n:Int)) || (foA c off n).any pBad then 130 else 0))
 | _,_=>none
theorem fn12:Fn1 Tryz.prog 24 Tryz.f24:= .m Tryz.func24
theorem v12_0(R:Value→Prop):ja4 Tryz.prog H3 noL Tryz.f24 [.slice none 0 0] (jcu [none]) 1 (fun v _ _=>R v)=(cu (aq (natO 0) 16) true (aq (natO 0) 16&&true) (R (ak 130)) (R (ak 0))):=by kernel_rfl
theorem v12_1(c:U)(ty:TypeId)(o:Bool)(off:Nat)(n:Nat)(cap:Nat)(R:Value→Prop):ja4 Tryz.prog H3 noL Tryz.f24 [.slice (some ⟨0,off,some 1⟩) n cap] (vw c ty) 1 (fun v _ _=>R v)=(cu (aq (natO n) 16) (Fg.K42.jl c off n) (aq (natO n) 16 || (Fg.foA c off n).any Fg.pBad) (R (ak 130)) (R (ak 0))):=by kernel_rfl
theorem k12_0(hc:(true)=true):jbf Tryz.prog H3 noL Tryz.f24 [.slice none 0 0] [none] 1 (I 0):=by
 rw[jbf,v12_0];delta cu ak aq;rw[ja3];rfl
theorem k12_1(c:U)(ty:TypeId)(o:Bool)(off:Nat)(n:Nat)(cap:Nat)(hc:((foOK c off n&&true))=true):jbf Tryz.prog H3 noL Tryz.f24 [.slice (some ⟨0,off,some 1⟩) n cap] [some ⟨c,ty,o⟩] 1 (I (bif decide (16<(n:Int)) || (foA c off n).any pBad then 130 else 0)):=by
 rw[jbf,jfa (o:=o) (jcv hc),v12_1 (o:=o)];delta cu ak aq Fg.K42.jl;rw[ja3];simp only[jaf,and_true]at hc;rw[hc];refine c_t ?_ (cond_intro (fun h=> ?_) (fun h=> ?_))
 ·by_cases h:(n:Int)>16
  ·rw[jaa h];rfl
  ·simp;omega
 ·rw[show decide (16<(n:Int))=decide ((n:Int)>16)from rfl,h,cond_true]
 ·rw[show decide (16<(n:Int))=decide ((n:Int)>16)from rfl,h,cond_false]
theorem ok12:jal Tryz.prog 24 s12:=by
 refine jbt ok_H3 hmix fn12 jai fun args bs v hs=> ?_
 simp only[s12]at hs;split at hs
 ·simp only[Option.some.injEq,Prod.mk.injEq]at hs;obtain⟨hc,rfl⟩:=hs;exact⟨_,1,rfl,rfl,jag,k12_0 (by first | rfl | exact hc)⟩
 ·simp only[Option.some.injEq,Prod.mk.injEq]at hs;obtain⟨hc,rfl⟩:=hs;exact⟨_,1,rfl,rfl,jag,k12_1 _ _ _ _ _ _ (by first | rfl | exact hc)⟩
 ·cases hs
end K43
attribute [local instance 5000] tabsB
namespace K71
def H1:Env:=H0.add 106 (sp1 Ff.s71)
theorem ok_H1:jao Tryz.prog H1:=jak ok_H0 Ff.ok71
def V77_0:U×Nat×Nat×Nat×Nat×Int×Int×Int→U:=fun(c,ty,off,n,cap,r,m,i)=> [.slice (some ⟨0,off,some 1⟩) n cap,.func (.func 106) ⟨[]⟩ ⟨[]⟩,I r,I m,I i]
def B77_0:U×Nat×Nat×Nat×Nat×Int×Int×Int→F:=fun(c,ty,off,n,cap,r,m,i)=> [some ⟨c,ty,false⟩]
def S77_0:LSpec (U×Nat×Nat×Nat×Nat×Int×Int×Int) where
 live:=[0,1,4,7,8]
 mid:=[0]
 n:=60
 dec vs bs:=match vs,bs with | [.slice (some ⟨0,off,some 1⟩) n cap,.func (.func 106) ⟨[]⟩ ⟨[]⟩,.int .i64 r,.int .i64 m,.int .i64 i],[some ⟨c,ty,false⟩]=>some (c,ty,off,n,cap,r,m,i) | _,_=>none
 pre:=fun(c,ty,off,n,cap,r,m,i)=>foOK c off n&&decide (n≤1000000∧m=n∧0≤i∧i≤n)
 fin:=fun(c,ty,off,n,cap,r,m,i) Z=>(bif (ixV isD c off n i)== -1 then Z (.exit 0) [.slice (some ⟨0,off,some 1⟩) n cap,.func (.func 106) ⟨[]⟩ ⟨[]⟩,I r,I m,I n] [some ⟨c,ty,false⟩]else Z .ret [.slice (some ⟨0,off,some 1⟩) n cap,.func (.func 106) ⟨[]⟩ ⟨[]⟩,I (ixV isD c off n i),I m,I (ixV isD c off n i)] [some ⟨c,ty,false⟩])
theorem r77c_0(c:U)(ty:Nat)(off:Nat)(n:Nat)(cap:Nat)(r:Int)(m:Int)(i:Int)(jk:Tmps)(R:Exit→U→F→Prop):(jbz Tryz.prog H1 noL Tryz.f120.ntmps (ja9 Tryz.f120 0) (tl S77_0.live (V77_0 (c,ty,off,n,cap,r,m,i)) jk) (ml S77_0.mid (B77_0 (c,ty,off,n,cap,r,m,i))) S77_0.n fun e t' m' _=>R e (List.map t' S77_0.live) (List.map m' S77_0.mid))=(bif al i m then bif cw i n then ek (Fg.K42.d9 i c off) (decide (jaj c (off+Fg.K42.cm i)≤4)) R (Fg.K42.il c ty) (Fg.K42.g9 106 i (ar m i)) (Fg.K42.cl off n cap::Fg.K42.g9 106 r (br m i)) (Fg.K42.cl off n cap)else False else R (.exit 0) (Fg.K42.cl off n cap::Fg.K42.g9 106 r (ar m i)) (Fg.K42.il c ty)):=by kernel_rfl
theorem l77_0:LOKf Tryz.prog (oneL 0 S77_0.hQ) Tryz.f120:=by
 refine jbk (h:=S77_0.hQ) (by kernel_rfl) (jdy ok_H1 hmix (by kernel_rfl) (ja6 _) S77_0 V77_0 B77_0 (fun(c,ty,off,n,cap,r,m,i)=>(n-i).toNat) ?_ ?_ ?_)
 ·intro vs bs s h;simp only[S77_0]at h;split at h
  all_goals first | (cases h;exact⟨rfl,rfl⟩) | cases h | (split at h<;>first | (rename_i hq;cases h;have hq:=jah hq;subst hq;exact⟨rfl,rfl⟩) | (rename_i hq;cases h;simp only[cnd,jaf,Nat.beq_eq]at hq;obtain⟨rfl,rfl,rfl⟩:=hq;exact⟨rfl,rfl⟩) | cases h)
 ·exact fun k ⟨c,ty,off,n,cap,r,m,i⟩ ⟨c',ty',off',n',cap',r',m',i'⟩ hp h=>by
   simp only[S77_0,jaf]at hp;have hq:=jcc (n:=k) (jcj hp.1).2.1;simp_all[V77_0,B77_0,jbn,jaz,idsL,ids]
 ·intro⟨c,ty,off,n,cap,r,m,i⟩ jk Z hp hf;rw[r77c_0];delta Fg.K42.il ak Fg.K42.g9 ar Fg.K42.cl ek bq bp br Fg.K42.cm Fg.K42.gu Fg.K42.dx Fg.K42.d9 cw al;simp only[S77_0]at hp hf;simp only[jaf,jae]at hp;obtain⟨ho,h1,rfl,h3,h4⟩:=hp;obtain⟨hl,hpl,hat⟩:=jcj ho;rw[ixV]at hf;apply cond_intro<;>intro h
  ·have h:=jab h;obtain⟨f,hf1,hsz,q1,q2,q3,q4,e1,e2,e3,e4⟩:=hat i.toNat (by omega);have hd:=jeo hf1;have hi:(i+1).toNat=i.toNat+1:=by omega
   rw[hd,ixF]at hf;rw[q1,q2,q3,q4,e1];refine c_t (jaa (by omega)) (c_t rfl ?_);have hp':decide (f.k≤4)=isD f:=rfl;rw[hp'];cases hq:isD f
   ·rw[hq,cond_false]at hf;refine c_f rfl ?_;rw[w64 (n:=i+1) (by omega)];refine⟨(c,ty,off,n,cap,r,n,i+1),rfl,rfl,?_,by simp only;omega,?_⟩
    ·simp only[S77_0,jaf,jae];exact⟨ho,h1,trivial,by omega,by omega⟩
    ·simp only[S77_0,ixV];rw[hi];exact hf
   ·rw[hq,cond_true,show(i== -1)=false by simp;omega]at hf;exact c_t rfl hf
  ·have h:=jac h;obtain rfl:i=n:=by omega
   rw[Int.toNat_natCast,List.drop_eq_nil_of_le (by omega)]at hf;exact hf
def s77n:Ab.Spec:=fun args bs=>match args,bs with
 | [.slice none 0 0,.func (.func 106) ⟨[]⟩ ⟨[]⟩],[none,none]=>some (true,I (-1))
 | _,_=>none
theorem fn77:Fn1 Tryz.prog 120 Tryz.f120:= .m Tryz.func120
theorem v77nc_0(R:Value→Prop):ja4 Tryz.prog H1 noL Tryz.f120 [.slice none 0 0,.func (.func 106) ⟨[]⟩ ⟨[]⟩] (jcu [none,none]) 2 (fun v _ _=>R v)=(bif decide (0<natO 0)then False else R (I (-1))):=by kernel_rfl
theorem k77nc_0(hc:(true)=true):jbf Tryz.prog H1 noL Tryz.f120 [.slice none 0 0,.func (.func 106) ⟨[]⟩ ⟨[]⟩] [none,none] 2 (I (-1)):=by
 rw[jbf,v77nc_0];rw[ja3];rfl
theorem ok77n:jal Tryz.prog 120 s77n:=by
 refine jbt ok_H1 hmix fn77 jai fun args bs v hs=> ?_
 simp only[s77n]at hs;split at hs
 ·simp only[Option.some.injEq,Prod.mk.injEq]at hs;obtain⟨hc,rfl⟩:=hs;exact⟨_,2,rfl,rfl,jag,k77nc_0 (by first | rfl | exact hc)⟩
 ·cases hs
def s77w:Ab.Spec:=fun args bs=>match args,bs with
 | [.slice (some ⟨_,off,some 1⟩) n cap,.func (.func 106) ⟨[]⟩ ⟨[]⟩],[some ⟨c,ty,o⟩,none]=>some ((foOK c off n&&decide (n≤1000000)),I (ixV isD c off n 0))
 | _,_=>none
theorem v77wc_0(c:U)(ty:TypeId)(o:Bool)(off:Nat)(n:Nat)(cap:Nat)(R:Value→Prop):ja4 Tryz.prog H1 (oneL 0 S77_0.hQ) Tryz.f120 [.slice (some ⟨0,off,some 1⟩) n cap,.func (.func 106) ⟨[]⟩ ⟨[]⟩] (vw c ty) 2 (fun v _ _=>R v)=(Fg.K42.kc Fg.isD Fg.K71.S77_0 c off n cap ty R):=by kernel_rfl
theorem k77wc_0(c:U)(ty:TypeId)(o:Bool)(off:Nat)(n:Nat)(cap:Nat)(hc:((foOK c off n&&decide (n≤1000000)))=true):jbf Tryz.prog H1 (oneL 0 S77_0.hQ) Tryz.f120 [.slice (some ⟨0,off,some 1⟩) n cap,.func (.func 106) ⟨[]⟩ ⟨[]⟩] [some ⟨c,ty,o⟩,none] 2 (I (ixV isD c off n 0)):=by
 rw[jbf,jds (o:=o) (jcv hc),v77wc_0 (o:=o)];delta e6 ak bu Fg.K42.ke Fg.K42.kc;rw[ja3];simp only[jaf,jae]at hc;obtain⟨ho,hn⟩:=hc;have hi:jaz 60 c=true:=jcc (jcj ho).2.1;refine c_t (by simp[hi]) (c_t ?_ ?_)
 ·simp only[S77_0,jaf,jae];exact⟨ho,hn,trivial,by omega,by omega⟩
 ·skip
  apply cond_intro<;>intro h
  ·rw[eq_of_beq h];exact c_t (by simp[hi]) fun _=>rfl
  ·exact c_t (by simp[hi]) fun _=>rfl
theorem ok77w:jal Tryz.prog 120 s77w:=by
 refine jbt ok_H1 hmix fn77 l77_0 fun args bs v hs=> ?_
 simp only[s77w]at hs;split at hs
 ·simp only[Option.some.injEq,Prod.mk.injEq]at hs;obtain⟨hc,rfl⟩:=hs;exact⟨_,2,rfl,rfl,jag,k77wc_0 _ _ _ _ _ _ (by first | rfl | exact hc)⟩
 ·cases hs
def s77:Ab.Spec:=altS s77n s77w
theorem ok77:jal Tryz.prog 120 s77:=jfe ok77n ok77w
def H2:Env:=H1.add 120 s77
theorem ok_H2:jao Tryz.prog H2:=jak ok_H1 ok77
def s41:Ab.Spec:=fun args bs=>match args,bs with
 | [.slice none 0 0,.func (.func 106) ⟨[]⟩ ⟨[]⟩],[none,none]=>some (true,B false)
 | [.slice (some ⟨_,off,some 1⟩) n cap,.func (.func 106) ⟨[]⟩ ⟨[]⟩],[some ⟨c,ty,o⟩,none]=>some ((foOK c off n&&decide (n≤1000000)),B ((foA c off n).any isD))
 | _,_=>none
theorem fn41:Fn1 Tryz.prog 70 Tryz.f70:= .m Tryz.func70
theorem v41c_0(R:Value→Prop):ja4 Tryz.prog H2 noL Tryz.f70 [.slice none 0 0,.func (.func 106) ⟨[]⟩ ⟨[]⟩] (jcu [none,none]) 2 (fun v _ _=>R v)=(R (B (decide (-1≥0)))):=by kernel_rfl
theorem v41c_1(c:U)(ty:TypeId)(o:Bool)(off:Nat)(n:Nat)(cap:Nat)(R:Value→Prop):ja4 Tryz.prog H2 noL Tryz.f70 [.slice (some ⟨0,off,some 1⟩) n cap,.func (.func 106) ⟨[]⟩ ⟨[]⟩] (vw c ty) 2 (fun v _ _=>R v)=(bif foOK c off n&&decide (n≤1000000)then R (B (decide (ixV isD c off n 0≥0)))else False):=by kernel_rfl
theorem k41c_0(hc:(true)=true):jbf Tryz.prog H2 noL Tryz.f70 [.slice none 0 0,.func (.func 106) ⟨[]⟩ ⟨[]⟩] [none,none] 2 (B false):=by
 rw[jbf,v41c_0];rfl
theorem k41c_1(c:U)(ty:TypeId)(o:Bool)(off:Nat)(n:Nat)(cap:Nat)(hc:((foOK c off n&&decide (n≤1000000)))=true):jbf Tryz.prog H2 noL Tryz.f70 [.slice (some ⟨0,off,some 1⟩) n cap,.func (.func 106) ⟨[]⟩ ⟨[]⟩] [some ⟨c,ty,o⟩,none] 2 (B ((foA c off n).any isD)):=by
 rw[jbf,jds (o:=o) (jcv hc),v41c_1 (o:=o)];refine c_t hc ?_;rw[←jiq]
theorem ok41:jal Tryz.prog 70 s41:=by
 refine jbt ok_H2 hmix fn41 jai fun args bs v hs=> ?_
 simp only[s41]at hs;split at hs
 ·simp only[Option.some.injEq,Prod.mk.injEq]at hs;obtain⟨hc,rfl⟩:=hs;exact⟨_,2,rfl,rfl,jag,k41c_0 (by first | rfl | exact hc)⟩
 ·simp only[Option.some.injEq,Prod.mk.injEq]at hs;obtain⟨hc,rfl⟩:=hs;exact⟨_,2,rfl,rfl,jag,k41c_1 _ _ _ _ _ _ (by first | rfl | exact hc)⟩
 ·cases hs
def H3:Env:=H2.add 70 s41
theorem ok_H3:jao Tryz.prog H3:=jak ok_H2 ok41
def s45:Ab.Spec:=fun args bs=>match args,bs with
 | [.slice none 0 0],[none]=>some (true,B true)
 | [.slice (some ⟨_,off,some 1⟩) n cap],[some ⟨c,ty,o⟩]=>some ((foOK c off n&&decide (n≤1000000)),B (decide ((n:Int)=0) || (foA c off n).any isD))
 | _,_=>none
theorem fn45:Fn1 Tryz.prog 56 Tryz.f56:= .m Tryz.func56
theorem v45_0(R:Value→Prop):ja4 Tryz.prog H3 noL Tryz.f56 [.slice none 0 0] (jcu [none]) 1 (fun v _ _=>R v)=(bif natO 0==0 || true then R (B (natO 0==0&&true))else False):=by kernel_rfl
theorem v45_1(c:U)(ty:TypeId)(o:Bool)(off:Nat)(n:Nat)(cap:Nat)(R:Value→Prop):ja4 Tryz.prog H3 noL Tryz.f56 [.slice (some ⟨0,off,some 1⟩) n cap] (vw c ty) 1 (fun v _ _=>R v)=(az (natO n==0 || Fg.K42.jl c off n) (B (natO n==0 || (Fg.foA c off n).any Fg.isD)) R):=by kernel_rfl
theorem k45_0(hc:(true)=true):jbf Tryz.prog H3 noL Tryz.f56 [.slice none 0 0] [none] 1 (B true):=by
 rw[jbf,v45_0];rw[ja3];rfl
theorem k45_1(c:U)(ty:TypeId)(o:Bool)(off:Nat)(n:Nat)(cap:Nat)(hc:((foOK c off n&&decide (n≤1000000)))=true):jbf Tryz.prog H3 noL Tryz.f56 [.slice (some ⟨0,off,some 1⟩) n cap] [some ⟨c,ty,o⟩] 1 (B (decide ((n:Int)=0) || (foA c off n).any isD)):=by
 rw[jbf,jfa (o:=o) (jcv hc),v45_1 (o:=o)];delta az Fg.K42.jl;rw[ja3,hc];refine c_t (by simp) ?_;rfl
theorem ok45:jal Tryz.prog 56 s45:=by
 refine jbt ok_H3 hmix fn45 jai fun args bs v hs=> ?_
 simp only[s45]at hs;split at hs
 ·simp only[Option.some.injEq,Prod.mk.injEq]at hs;obtain⟨hc,rfl⟩:=hs;exact⟨_,1,rfl,rfl,jag,k45_0 (by first | rfl | exact hc)⟩
 ·simp only[Option.some.injEq,Prod.mk.injEq]at hs;obtain⟨hc,rfl⟩:=hs;exact⟨_,1,rfl,rfl,jag,k45_1 _ _ _ _ _ _ (by first | rfl | exact hc)⟩
 ·cases hs
end K71
attribute [local instance 5000] tabsB
def fo1(f f':Fo):Bool:=f.k==f'.k&& (f.w==f'.w&& (f.d==f'.d&& (f.s.toList==f'.s.toList&&true)))
def foEq:List Fo→List Fo→Bool
 | [],[]=>true
 | f::r,f'::r'=>fo1 f f'&&foEq r r'
 | _,_=>false
def eqV(c:U)(off:Nat)(d:U)(off' n:Nat)(i:Int):Bool:=foEq ((foA c off n).drop i.toNat) ((foA d off' n).drop i.toNat)
def vwD(c d:U)(ty ty':TypeId):Lk:=fun k=>match Nat.beq k 0 with | true=>some ⟨c,ty,false⟩ | false=>match Nat.beq k 1 with | true=>some ⟨d,ty',false⟩ | false=>none
theorem tl_inj{a b:Y}(h:a.toList=b.toList):a=b:=by
 rw[Go.Lib.toList_data,Go.Lib.toList_data]at h;exact ByteArray.ext (Array.ext' h)
theorem fo1_iff{f f':Fo}:fo1 f f'=true↔f=f':=by
 obtain⟨a,b,c,d⟩:=f;obtain⟨a',b',c',d'⟩:=f';simp only[fo1,jaf,beq_iff_eq,and_true,Fo.mk.injEq];constructor
 ·rintro ⟨h1,h2,h3,h4⟩;exact⟨h1,h2,h3,tl_inj h4⟩
 ·rintro ⟨h1,h2,h3,h4⟩;exact⟨h1,h2,h3,by rw[h4]⟩
theorem foEq_iff:∀{l r:List Fo},foEq l r=true↔l=r
 | [],[]=>by simp[foEq]
 | [],_::_=>by simp[foEq]
 | _::_,[]=>by simp[foEq]
 | f::r,f'::r'=>by simp[foEq,foEq_iff (l:=r) (r:=r'),fo1_iff]
theorem viewL_vwD{c d:U}{ty ty':TypeId}{o o':Bool}(hp:jav c=true)(hp':jav d=true):jcu [some ⟨c,ty,o⟩,some ⟨d,ty',o'⟩]=vwD c d ty ty':=by
 funext k
 match k with
 | 0=>simp[jcu,jje,vwD,hp]
 | 1=>simp[jcu,jje,vwD,hp']
 | k+2=>rfl
theorem fo_plain2{c:U}{off n:Nat}{x y:Bool}(h:(x&& (foOK c off n&&y))=true):jav c=true:=by
 simp only[jaf]at h;exact(jcj h.2.1).2.1
def J0:Env:=Env.nil
theorem ok_J0:jao Tryz.prog J0:=ja7
def V14_0:U×Nat×Nat×Nat×Nat×U×Nat×Nat×Nat×Nat×Bool×Int×Int→U:=fun(c,ty,off,n,cap,d,ty2,off2,m,cap2,r,z,i)=> [.slice (some ⟨0,off,some 1⟩) n cap,.slice (some ⟨1,off2,some 1⟩) m cap2,B r,I z,I i]
def B14_0:U×Nat×Nat×Nat×Nat×U×Nat×Nat×Nat×Nat×Bool×Int×Int→F:=fun(c,ty,off,n,cap,d,ty2,off2,m,cap2,r,z,i)=> [some ⟨c,ty,false⟩,some ⟨d,ty2,false⟩]
def S14_0:LSpec (U×Nat×Nat×Nat×Nat×U×Nat×Nat×Nat×Nat×Bool×Int×Int) where
 live:=[0,1,4,12,13]
 mid:=[0,1]
 n:=60
 dec vs bs:=match vs,bs with | [.slice (some ⟨0,off,some 1⟩) n cap,.slice (some ⟨1,off2,some 1⟩) m cap2,.bool r,.int .i64 z,.int .i64 i],[some ⟨c,ty,false⟩,some ⟨d,ty2,false⟩]=>some (c,ty,off,n,cap,d,ty2,off2,m,cap2,r,z,i) | _,_=>none
 pre:=fun(c,ty,off,n,cap,d,ty2,off2,m,cap2,r,z,i)=>foOK c off n&& (foOK d off2 m&&decide (m=n∧n≤1000000∧z=n∧0≤i∧i≤n))
 fin:=fun(c,ty,off,n,cap,d,ty2,off2,m,cap2,r,z,i) Z=>(bif eqV c off d off2 n i then Z (.exit 0) [.slice (some ⟨0,off,some 1⟩) n cap,.slice (some ⟨1,off2,some 1⟩) m cap2,B r,I z,I z] [some ⟨c,ty,false⟩,some ⟨d,ty2,false⟩]else∀j:Int,Z .ret [.slice (some ⟨0,off,some 1⟩) n cap,.slice (some ⟨1,off2,some 1⟩) m cap2,B false,I z,I j] [some ⟨c,ty,false⟩,some ⟨d,ty2,false⟩])
theorem r14_0(c:U)(ty:Nat)(off:Nat)(n:Nat)(cap:Nat)(d:U)(ty2:Nat)(off2:Nat)(m:Nat)(cap2:Nat)(r:Bool)(z:Int)(i:Int)(jk:Tmps)(R:Exit→U→F→Prop):(jbz Tryz.prog J0 noL Tryz.f47.ntmps (ja9 Tryz.f47 0) (tl S14_0.live (V14_0 (c,ty,off,n,cap,d,ty2,off2,m,cap2,r,z,i)) jk) (ml S14_0.mid (B14_0 (c,ty,off,n,cap,d,ty2,off2,m,cap2,r,z,i))) S14_0.n fun e t' m' _=>R e (List.map t' S14_0.live) (List.map m' S14_0.mid))=(bif al i z then b4 (Fg.K42.d9 i c off) i n (bif cw i m then ek (Fg.K42.d9 i d off2) (!(jaj c (off+Fg.K42.cm i)==jaj d (off2+Fg.K42.cm i) && (jaj c (Fg.K42.dx i off)==jaj d (Fg.K42.dx i off2) && (jaj c (Fg.K42.dx i off+1)==jaj d (Fg.K42.dx i off2+1) && (fx (jb7 c (Fg.K42.dx i off+1+1)) (jb7 d (Fg.K42.dx i off2+1+1)) &&true))))) R (some (.mk c ty false)::Fg.K42.il d ty2) (am 1 off2 m cap2::B false::ar z i) (Fg.K42.cl off n cap::am 1 off2 m cap2::B r::br z i) (Fg.K42.cl off n cap)else False)else R (.exit 0) (Fg.K42.cl off n cap::am 1 off2 m cap2::B r::ar z i) (some (.mk c ty false)::Fg.K42.il d ty2)):=by kernel_rfl
theorem l14_0:LOKf Tryz.prog (oneL 0 S14_0.hQ) Tryz.f47:=by
 refine jbk (h:=S14_0.hQ) (by kernel_rfl) (jdy ok_J0 hmix (by kernel_rfl) (ja6 _) S14_0 V14_0 B14_0 (fun(c,ty,off,n,cap,d,ty2,off2,m,cap2,r,z,i)=>(n-i).toNat) ?_ ?_ ?_)
 ·intro vs bs s h;simp only[S14_0]at h;split at h
  all_goals first | (cases h;exact⟨rfl,rfl⟩) | cases h | (split at h<;>first | (rename_i hq;cases h;have hq:=jah hq;subst hq;exact⟨rfl,rfl⟩) | cases h)
 ·exact fun k ⟨c,ty,off,n,cap,d,ty2,off2,m,cap2,r,z,i⟩ ⟨c',ty',off',n',cap',d',ty2',off2',m',cap2',r',z',i'⟩ hp h=>by
   simp only[S14_0,jaf]at hp;have hq:=jcc (n:=k) (jcj hp.1).2.1;have hq':=jcc (n:=k) (jcj hp.2.1).2.1;simp_all[V14_0,B14_0,jbn,jaz,idsL,ids]
 ·intro⟨c,ty,off,n,cap,d,ty2,off2,m,cap2,r,z,i⟩ jk Z hp hf;rw[r14_0];delta Fg.K42.il ak ar am Fg.K42.cl cw b4 ek bq bp br fx Fg.K42.cm Fg.K42.dx Fg.K42.gu Fg.K42.d9 al;simp only[S14_0]at hp hf;simp only[jaf,jae]at hp;obtain⟨ho,ho',rfl,h1,rfl,h3,h4⟩:=hp;obtain⟨hl,hpl,hat⟩:=jcj ho;obtain⟨hl',hpl',hat'⟩:=jcj ho';rw[eqV]at hf;apply cond_intro<;>intro h
  ·have h:=jab h;obtain⟨f,hf1,hsz,q1,q2,q3,q4,e1,e2,e3,e4⟩:=hat i.toNat (by omega);obtain⟨f',hf1',hsz',q1',q2',q3',q4',e1',e2',e3',e4'⟩:=hat' i.toNat (by omega);have hi:(i+1).toNat=i.toNat+1:=by omega
   rw[jeo hf1,jeo hf1',foEq]at hf;rw[q1,q2,q3,q4,e1,e2,e3,e4,q1',q2',q3',q4',e1',e2',e3',e4'];refine c_t (jaa (by omega)) (c_t rfl (c_t (jaa (by omega)) (c_t rfl ?_)));have hp':(f.k==f'.k&& (f.w==f'.w&& (f.d==f'.d&& (f.s.toList==f'.s.toList&&true))))=fo1 f f':=rfl;rw[hp'];cases hq:fo1 f f'
   ·rw[hq,Bool.false_and,cond_false]at hf;exact c_t rfl (hf i)
   ·rw[hq,Bool.true_and]at hf;refine c_f rfl ?_;rw[w64 (n:=i+1) (by omega)];refine⟨(c,ty,off,m,cap,d,ty2,off2,m,cap2,r,m,i+1),rfl,rfl,?_,by simp only;omega,?_⟩
    ·simp only[S14_0,jaf,jae];exact⟨ho,ho',trivial,h1,trivial,by omega,by omega⟩
    ·simp only[S14_0,eqV];rw[hi];exact hf
  ·have h:=jac h;obtain rfl:i=m:=by omega
   rw[Int.toNat_natCast,List.drop_eq_nil_of_le (by omega),List.drop_eq_nil_of_le (by omega)]at hf;exact hf
def s14n:Ab.Spec:=fun args bs=>match args,bs with
 | [.slice none 0 0,.slice none 0 0],[none,none]=>some (true,B true)
 | _,_=>none
theorem fn14:Fn1 Tryz.prog 47 Tryz.f47:= .m Tryz.func47
theorem v14n_0(R:Value→Prop):ja4 Tryz.prog J0 noL Tryz.f47 [.slice none 0 0,.slice none 0 0] (jcu [none,none]) 2 (fun v _ _=>R v)=(bif natO 0 !=natO 0 then R (B false)else bif decide (0<natO 0)then False else R (B true)):=by kernel_rfl
theorem k14n_0(hc:(true)=true):jbf Tryz.prog J0 noL Tryz.f47 [.slice none 0 0,.slice none 0 0] [none,none] 2 (B true):=by
 rw[jbf,v14n_0];rw[ja3];rfl
theorem ok14n:jal Tryz.prog 47 s14n:=by
 refine jbt ok_J0 hmix fn14 jai fun args bs v hs=> ?_
 simp only[s14n]at hs;split at hs
 ·simp only[Option.some.injEq,Prod.mk.injEq]at hs;obtain⟨hc,rfl⟩:=hs;exact⟨_,2,rfl,rfl,jag,k14n_0 (by first | rfl | exact hc)⟩
 ·cases hs
def s14w:Ab.Spec:=fun args bs=>match args,bs with
 | [.slice (some ⟨_,off,some 1⟩) n cap,.slice (some ⟨_,off2,some 1⟩) m cap2],[some ⟨c,ty,o⟩,some ⟨d,ty2,o2⟩]=>some ((foOK c off n&& (foOK d off2 m&&decide (n≤1000000∧m≤1000000))),B (decide ((n:Int)=m) &&eqV c off d off2 n 0))
 | _,_=>none
theorem v14w_0(c:U)(d:U)(ty:TypeId)(ty2:TypeId)(o:Bool)(o2:Bool)(off:Nat)(n:Nat)(cap:Nat)(off2:Nat)(m:Nat)(cap2:Nat)(R:Value→Prop):ja4 Tryz.prog J0 (oneL 0 S14_0.hQ) Tryz.f47 [.slice (some ⟨0,off,some 1⟩) n cap,.slice (some ⟨1,off2,some 1⟩) m cap2] (vwD c d ty ty2) 2 (fun v _ _=>R v)=(bif natO n !=natO m then R (B false)else b8 (jaz 60 c) (bu d 60) (Fg.S14_0.pre (c,(ty,(off,(n,(cap,(d,(ty2,(off2,(m,(cap2,(false,(natO n,(0:Int)))))))))))))) (bif Fg.eqV c off d off2 n 0 then e6 (jaz 60 c&&bu d 60) (B true) R else Int→e6 (jaz 60 c&&bu d 60) (B false) R) False):=by kernel_rfl
theorem k14w_0(c:U)(d:U)(ty:TypeId)(ty2:TypeId)(o:Bool)(o2:Bool)(off:Nat)(n:Nat)(cap:Nat)(off2:Nat)(m:Nat)(cap2:Nat)(hc:((foOK c off n&& (foOK d off2 m&&decide (n≤1000000∧m≤1000000))))=true):jbf Tryz.prog J0 (oneL 0 S14_0.hQ) Tryz.f47 [.slice (some ⟨0,off,some 1⟩) n cap,.slice (some ⟨1,off2,some 1⟩) m cap2] [some ⟨c,ty,o⟩,some ⟨d,ty2,o2⟩] 2 (B (decide ((n:Int)=m) &&eqV c off d off2 n 0)):=by
 rw[jbf,viewL_vwD (o:=o) (jcv hc) (fo_plain2 hc),v14w_0 (o:=o) (o2:=o2)];delta b8 e6 bu;rw[ja3,ja3];simp only[jaf,jae]at hc;obtain⟨ho,ho',hn,hm⟩:=hc;have hi:jaz 60 c=true:=jcc (jcj ho).2.1;have hi':jaz 60 d=true:=jcc (jcj ho').2.1;apply cond_intro<;>intro h
 ·have h:¬(n:Int)=m:=by simpa using h
  rw[jad h,Bool.false_and]
 ·have h:(n:Int)=m:=by simpa using h
  obtain rfl:m=n:=by omega
  rw[jaa rfl,Bool.true_and];refine c_t (by simp[hi,hi']) (c_t ?_ (cond_intro (fun q=> ?_) (fun q=> ?_)))
  ·simp only[S14_0,jaf,jae];exact⟨ho,ho',trivial,hn,trivial,by omega,by omega⟩
  ·rw[q];exact c_t (by simp[hi,hi']) fun _=>rfl
  ·rw[q];exact fun _=>c_t (by simp[hi,hi']) fun _=>rfl
theorem ok14w:jal Tryz.prog 47 s14w:=by
 refine jbt ok_J0 hmix fn14 l14_0 fun args bs v hs=> ?_
 simp only[s14w]at hs;split at hs
 ·simp only[Option.some.injEq,Prod.mk.injEq]at hs;obtain⟨hc,rfl⟩:=hs;exact⟨_,2,rfl,rfl,jag,k14w_0 _ _ _ _ _ _ _ _ _ _ _ _ (by first | rfl | exact hc)⟩
 ·cases hs
def s14:Ab.Spec:=altS s14n s14w
theorem ok14:jal Tryz.prog 47 s14:=jfe ok14n ok14w
end Go.Fg
end
noncomputable section
namespace Go.Px
open Go Go.Ab Go.Proofs Go.Shelf Go.ChangeMaps Go.ChangeShapes Go.WideShapes Go.ChangeAt Go.RowKit Go.Joins Go.Ff Go.Fg
open Go.Proofs.YtiahilhlpmohoaaGreatDoor
theorem laid_ok:laidOutB Tryz.prog=true:=by kernel_rfl
theorem rd25:Tryz.prog.readableRec 25=true∧25<Tryz.prog.types.size:=⟨by kernel_rfl,jab (by kernel_rfl)⟩
theorem rd3:Tryz.prog.readableRec 3=true∧3<Tryz.prog.types.size:=⟨by kernel_rfl,jab (by kernel_rfl)⟩
theorem cel30:Tryz.prog.cellsOf 48=4:=by kernel_rfl
theorem cel3:Tryz.prog.cellsOf 3=1:=by kernel_rfl
theorem cel9:Tryz.prog.cellsOf 9=1:=by kernel_rfl
theorem list4{α:Type}{cs:List α}(h:cs.length=4):∃c0 c1 c2 c3,cs=[c0,c1,c2,c3]:=by
 match cs,h with
 | [c0,c1,c2,c3],_=>exact⟨c0,c1,c2,c3,rfl⟩
set_option maxRecDepth 100000 in
theorem fo_cells{cs:U}(hsz:cs.length=4)
  (hf : ∀ (i : Nat) (f : Field), (#[{ name := "Kind", type := 3, offset := 0, embedded := false, tag := "", pkgPath := "", byteOffset := 0 }, { name := "W", type := 3, offset := 1, embedded := false, tag := "", pkgPath := "", byteOffset := 8 }, { name := "D", type := 3, offset := 2, embedded := false, tag := "", pkgPath := "", byteOffset := 16 }, { name := "Pic", type := 9, offset := 3, embedded := false, tag := "", pkgPath := "", byteOffset := 24 }] : Array Field)[i]? = some f → ∃ (H : Type) (enc : TypeId × Value → H) (w : World) (base : Nat) (spare : Nat → Bool) (held : Bool) (n : Nat) (y : DataW H × List MemPlace),
   DataW.trod enc Tryz.prog w base spare held n f.type ((cs.drop f.offset).take (Tryz.prog.cellsOf f.type))=some y):∃a:Fo,cs=[.int .i64 a.k,.int .i64 a.w,.int .i64 a.d,.string a.s]∧a.s.size≤9223372036854775807:=by
 obtain⟨c0,c1,c2,c3,rfl⟩:=list4 hsz
 obtain ⟨H, enc, w, base, spare, held, n, y, h0⟩ := hf 0 { name := "Kind", type := 3, offset := 0, embedded := false, tag := "", pkgPath := "", byteOffset := 0 } rfl
 obtain ⟨H, enc, w, base, spare, held, n, y, h1⟩ := hf 1 { name := "W", type := 3, offset := 1, embedded := false, tag := "", pkgPath := "", byteOffset := 8 } rfl
 obtain ⟨H, enc, w, base, spare, held, n, y, h2⟩ := hf 2 { name := "D", type := 3, offset := 2, embedded := false, tag := "", pkgPath := "", byteOffset := 16 } rfl
 obtain ⟨H, enc, w, base, spare, held, n, y, hs⟩ := hf 3 { name := "Pic", type := 9, offset := 3, embedded := false, tag := "", pkgPath := "", byteOffset := 24 } rfl
 obtain⟨k,e0,_,_⟩:=DataW.trod_int Tryz.underlying3 h0;obtain⟨p,e1,_,_⟩:=DataW.trod_int Tryz.underlying3 h1;obtain⟨q,e2,_,_⟩:=DataW.trod_int Tryz.underlying3 h2;obtain⟨s,e3,_,w4⟩:=DataW.trod_string Tryz.underlying9 hs;simp only[cel3,cel9,List.drop_zero,List.drop_succ_cons,List.take_succ_cons,List.take_zero,List.cons.injEq,and_true]at e0 e1 e2 e3;exact⟨⟨k,p,q,s⟩,by rw[e0,e1,e2,e3],Nat.le_trans w4 (by decide)⟩
theorem slice_has{P:Program}{w:World}{base:Nat}{t e:TypeId}{a:Addr}{len cap:Nat}(ht:P.underlying t=some (.slice e))(h:Value.okWide P w .any base t (.slice (some a) len cap)):a.spot=none∧a.block<w.heap.size∧len≤cap:=by
 unfold Value.okWide at h;rw[ht]at h;simp only[Cell.okWide,ht,Cell.ok]at h;obtain⟨hc,_,_,hs,row,cells,hsh,_⟩:=h;refine⟨hs,?_,hc⟩;unfold World.shape? at hsh;split at hsh
 ·rename_i hq;exact(Array.getElem?_eq_some_iff.1 hq).1
 ·cases hsh
theorem fcL_get:∀(l:List Fo)(i:Nat)(v:Value),(fcL l)[i]?=some v→ ∃j q f,l[j]?=some f∧i=j*4+q∧[Value.int .i64 f.k,.int .i64 f.w,.int .i64 f.d,.string f.s][q]?=some v
 | [],i,v,h=>by simp[fcL]at h
 | f::r,0,v,h=>⟨0,0,f,rfl,rfl,by simpa[fcL]using h⟩
 | f::r,1,v,h=>⟨0,1,f,rfl,rfl,by simpa[fcL]using h⟩
 | f::r,2,v,h=>⟨0,2,f,rfl,rfl,by simpa[fcL]using h⟩
 | f::r,3,v,h=>⟨0,3,f,rfl,rfl,by simpa[fcL]using h⟩
 | f::r,i+4,v,h=>by
  obtain⟨j,q,g,h1,rfl,h2⟩:=fcL_get r i v (by simpa[fcL]using h);exact⟨j+1,q,g,by simpa using h1,by omega,h2⟩
def SlF(w:World)(v:Value):Prop:=v= .slice none 0 0∨ ∃(b off cap:Nat)(l:List Fo),v= .slice (some ⟨b,off,none⟩) l.length cap∧b<w.heap.size∧l.length≤cap∧(∀f∈l,f.s.size≤9223372036854775807)∧
 ∀i x,(fcL l)[i]?=some x→w.cell? ⟨b,off+i,none⟩=some x∧plain x=true
set_option maxRecDepth 100000 in
theorem open_formats{H:Type}{enc:TypeId×Value→H}{w:World}{base:Nat}{v:Value}{d:DataW H}{p:List MemPlace}(hv:Value.okWide Tryz.prog w .any base 25 v)
  (h:DataW.Trod enc Tryz.prog w 0 (fun _=>true) true 25 v d p):SlF w v:=by
 obtain⟨fuel,h⟩:=h;have hsl:=okWide_slice (e:=48) Tryz.underlying25 hv;obtain⟨a,len,cap,rfl⟩:=hsl
 replace h:DataW.trod enc Tryz.prog w 0 (fun _=>true) true fuel 25 [.slice a len cap]=some (d,p):=h
 rcases Go.Deep.open_slice Tryz.underlying25 h with⟨h1,_⟩ | ⟨a',len',cap',m,n,D,Pl,h1,hb,hl,hm,hmm,_,hx⟩
 ·simp only[List.cons.injEq,and_true]at h1;exact .inl h1
 ·simp only[List.cons.injEq,and_true]at h1;cases h1;obtain⟨hs,hlt,hcap⟩:=slice_has Tryz.underlying25 hv;obtain⟨b,off,sp⟩:=a';simp only at hs hlt;subst hs;have hlm:len≤m:=by rw[hmm];simp;omega
  have hT:∀i,i<len→ ∃t:Fo,t.s.size≤9223372036854775807∧ ∀q x,[Value.int .i64 t.k,.int .i64 t.w,.int .i64 t.d,.string t.s][q]?=some x→w.cell? ⟨b,off+(i*4+q),none⟩=some x:=fun i hi=>by
   obtain⟨cs,h1,h2⟩:=hx i (by omega);rw[cel30]at h1;obtain⟨_,hlen,hcell⟩:=World.cells?_some h1;obtain⟨xs,k,_,_,_,hxl,hf⟩:=DataW.trod_struct Tryz.underlying48 h2
   obtain⟨t,ht,hok⟩:=fo_cells hlen fun j f hj=>by
    have hlt:j<xs.length:=by
     have:=(Array.getElem?_eq_some_iff.1 hj).1;rw[hxl];exact this
    exact⟨H,enc,w,0,_,true,k,xs[j],by rw[hf j f hj,List.getElem?_eq_getElem hlt]⟩
   refine⟨t,hok,fun q x hq=> ?_⟩;have add:∀o q,(⟨b,o,none⟩:Addr).add q=⟨b,o+q,none⟩:=fun o q=>by unfold Addr.add;split<;>simp_all
   have hq5:q<4:=(List.getElem?_eq_some_iff.1 hq).1;have:=hcell q hq5;rw[add,add,ht,hq]at this;rw[←Nat.add_assoc];exact this
  haveI:Inhabited Fo:=⟨⟨0,0,0,⟨#[]⟩⟩⟩
  obtain⟨T,hT⟩:=Go.Deep.choose_lt hT;refine .inr ⟨b,off,cap,(List.range len).map T,?_,hlt,?_,?_,fun i x hi=> ?_⟩
  ·rw[List.length_map,List.length_range]
  ·rw[List.length_map,List.length_range];exact hcap
  ·intro f hf;obtain⟨i,hi,rfl⟩:=List.mem_map.1 hf;exact(hT i (List.mem_range.1 hi)).1
  ·refine⟨?_,jay.1 (jd0 _) x (List.mem_of_getElem? hi)⟩;obtain⟨j,q,f,hj,rfl,hq⟩:=fcL_get _ i x hi;rw[List.getElem?_map]at hj;cases hr:(List.range len)[j]? with
   | none=>rw[hr]at hj;cases hj
   | some k=>
    rw[hr]at hj;obtain⟨hjl,rfl⟩:=List.getElem?_eq_some_iff.1 hr;simp only[List.length_range]at hjl;simp only[Option.map_some,List.getElem_range,Option.some.injEq]at hj;subst hj;exact(hT j hjl).2 q x hq
end Go.Px
end
