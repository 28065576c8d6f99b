/-
  Part 2: the run and laws.
-/
import Derived.Test.YtpflidodnhbeoaaGreatDoorK1
set_option linter.unusedVariables false
set_option linter.unusedSimpArgs false
noncomputable section
namespace Go.Px
open Go Go.Ab Go.Proofs Go.Shelf
structure VwP (d:E)(m:Nat):Prop where
 bytes:jcc d=true
 len:d.length=m
 rng:IsB (d.map iv)
def vwOK(d:E)(m:Nat):Bool:=jcc d&& (Nat.beq d.length m&& (d.map iv).all fun c=>decide (0≤c∧c<256))
theorem jcx{d:E}{m:Nat}:vwOK d m=true↔VwP d m:=by
 simp only[vwOK,jaf,Nat.beq_eq,List.all_eq_true,jae];exact⟨fun⟨a,b,c⟩=>⟨a,b,c⟩,fun⟨a,b,c⟩=>⟨a,b,c⟩⟩
theorem isBytes_plain{d:E}(h:jcc d=true):ja5 d=true:=by
 rw[←jm7 h];exact jjr _
theorem VwP.plain{d:E}{m:Nat}(h:VwP d m):ja5 d=true:=isBytes_plain h.bytes
theorem jk5(s:Y):VwP (Lib.strCells s) s.size∧zc (Lib.strCells s) s.size=bz s:=by
 rw[strCells_eq]
 have e:(cz (bz s)).map iv=bz s:=by
  rw[cz,List.map_map];have:(iv∘fun n:Int=>Value.int .u8 n)=id:=by funext n;rfl
  rw[this,List.map_id]
 refine⟨⟨jel _,by simp,by rw[e];exact jd1 s⟩,?_⟩;rw[zc,List.take_of_length_le (by simp),e]
theorem VwP.zlen{d:E}{m:Nat}(h:VwP d m):(zc d m).length=m:=by
 simp only[zc,List.length_map,List.length_take,h.len];omega
theorem at_bytes:∀{d:E}{j:Nat},jcc d=true→j<d.length→jby .u8 d j=true∧jau d j=(d.map iv).getD j 0
 | .int .u8 n::r,0,_,_=>⟨rfl,rfl⟩
 | .int .u8 n::r,j+1,h,hj=>by
  have:=at_bytes (d:=r) (j:=j) (by simpa[jcc]using h) (by simpa using hj);simpa[jby,jau]using this
theorem VwP.at{d:E}{m:Nat}(h:VwP d m){j:Int}(h0:0≤j)(hj:j<m):jby .u8 d j.toNat=true∧(0≤jau d j.toNat∧jau d j.toNat<256)∧(zc d m).drop j.toNat=jau d j.toNat::(zc d m).drop (j+1).toNat:=by
 have hl:=h.len;obtain⟨q1,q2⟩:=at_bytes h.bytes (j:=j.toNat) (by omega);refine⟨q1,?_,?_⟩
 ·rw[q2,List.getD_eq_getElem?_getD];cases hh:(d.map iv)[j.toNat]? with
  | none=>simp
  | some c=>exact h.rng c (List.mem_of_getElem? hh)
 have e:zc d m=d.map iv:=by rw[zc,List.take_of_length_le (by omega)]
 rw[e,q2,jei _ _ (by rw[List.length_map];omega),show(j+1).toNat=j.toNat+1 by omega]
theorem VwP.good{d:E}{m:Nat}(h:VwP d m)(ps:List (Nat×Nat)):(jav ps d&&true&&true)=true:=by rw[goodL_plain h.plain];rfl
theorem VwP.rlb{d:E}{m:Nat}(h:VwP d m)(ps:List (Nat×Nat)):rlbL ps d=d:=rlbL_plain ps h.plain
theorem VwP.end{d:E}{m:Nat}(h:VwP d m){j:Int}(hj:(m:Int)≤j):(zc d m).drop j.toNat=[]:=List.drop_eq_nil_of_le (by rw[h.zlen];omega)
def k5:J:=[44,46,47,66,86]
theorem idx_neg(l:J)(c:Int):decide (idxZ l c<0)= !hasZ l c:=by
 have:=jgs c l;rw[←ja8]at this;cases h:hasZ l c with
 | true=>rw[h]at this;have:=this.2.2 rfl;simp;omega
 | false=>
  rw[h]at this;have:¬0≤idxZ l c:=fun q=>by have:=this.2.1 q;cases this
  simp;omega
theorem ch_at{i:Int}(h0:0≤i)(h:i<4):∃c,jau [Value.int IntKind.u8 36,Value.int IntKind.u8 83,Value.int IntKind.u8 43,Value.int IntKind.u8 45] (0+i.toNat*1)=c∧
  jby IntKind.u8 [Value.int IntKind.u8 36,Value.int IntKind.u8 83,Value.int IntKind.u8 43,Value.int IntKind.u8 45] (0+i.toNat*1)=true∧
  oneB (Utf8.encode c)=true∧(bz (Utf8.encode c)).getD 0 0=c∧(0<c∧c<128)∧List.drop i.toNat [36,83,43,45]=c::List.drop (i+1).toNat [36,83,43,45]:=by
 have:i=0∨i=1∨i=2∨i=3:=by omega
 rcases this with rfl | rfl | rfl | rfl
 ·exact⟨36,rfl,rfl,by kernel_rfl,by kernel_rfl,by omega,rfl⟩
 ·exact⟨83,rfl,rfl,by kernel_rfl,by kernel_rfl,by omega,rfl⟩
 ·exact⟨43,rfl,rfl,by kernel_rfl,by kernel_rfl,by omega,rfl⟩
 ·exact⟨45,rfl,rfl,by kernel_rfl,by kernel_rfl,by omega,rfl⟩
theorem jfy(c:Int):∀{l:J},c∈l→0≤idxZ l c∧idxZ l c<l.length
 | b::l,h=>by
  simp only[idxZ];by_cases hb:b=c
  ·rw[if_pos hb];simp only[List.length_cons];omega
  ·rw[if_neg hb];have:=jfy c (l:=l) (by rcases List.mem_cons.1 h with q | q;exact absurd q.symm hb;exact q);rw[if_neg (by omega)];simp only[List.length_cons];omega
theorem ji9(c:Int):∀{l:J},c∈l→idxZ l c≤jck l c
 | b::l,h=>by
  simp only[idxZ,jck];have:=ji4 l c;by_cases hl:c∈l
  ·have ih:=ji9 c hl;have i1:=jfy c hl;rw[if_neg (show¬jck l c= -1 by omega)];split
   ·omega
   ·split<;>omega
  ·have hb:b=c:=by rcases List.mem_cons.1 h with q | q;exact q.symm;exact absurd q hl
   rw[if_pos hb,if_pos hb];split<;>omega
theorem jjt{l:J}{c:Int}(h:¬(cntZ l c:Int)<2):c∈l:=by
 have:0<cntZ l c:=by omega
 unfold cntZ at this;obtain⟨x,hx⟩:=List.exists_mem_of_length_pos this;obtain⟨h1,h2⟩:=List.mem_filter.1 hx;exact eq_of_beq h2▸h1
def drP(c:Int)(l:J):Bool:=l.all fun x=>x==c || hasZ k5 x
def drC(b:J)(c:Int):Bool:= !hasZ (b.take (idxZ b c).toNat) 86&&drP c ((b.take (jck b c+1).toNat).drop (idxZ b c).toNat)
def je5:J→J→Int→Int→Bool×Int×Int
 | [],_,d,f=>(true,d,f)
 | c::r,b,d,f=>bif decide ((cntZ b c:Int)<2)then je5 r b d f else bif d !=0 then(false,0,0)else bif drC b c then je5 r b c (idxZ b c)else(false,0,0)
def G20:Env:=(((Env.nil.add 272 (sp2 s141)).add 279 (sp2 s157)).add 129 (sp2 s132)).add 280 (sp2 s280)
theorem ok_G20:jax Tryz.prog G20:=jak (jak (jak (jak jan ok141) ok157) ok132) ok280
def V131_2:Y×Bool×Int×Int×Int×Y×Int×Int×Bool×E×Nat×Nat×Int×Int→E:=fun(b,r,c,L4,i,s,dr,f,cr,d,m,cap,L,j)=> [.pointer (some ⟨3,0,some 0⟩),S b,B r,C8 c,.slice (some ⟨300,0,some 1⟩) 4 4,I L4,I i,.slice (some ⟨390,0,some 1⟩) m cap,I L,I j]
def B131_2:Y×Bool×Int×Int×Int×Y×Int×Int×Bool×E×Nat×Nat×Int×Int→O:=fun(b,r,c,L4,i,s,dr,f,cr,d,m,cap,L,j)=> [some ⟨[S s,B true,I 0,I 0,I 0,B false,.slice none 0 0,C8 dr,I f,B cr,C8 32,I 0],156,true⟩,some ⟨[C8 36,C8 83,C8 43,C8 45],5,false⟩,some ⟨d,5,false⟩]
def S131_2:LSpecA (Y×Bool×Int×Int×Int×Y×Int×Int×Bool×E×Nat×Nat×Int×Int) where
 live:=[0,1,4,6,14,15,16,58,59,60]
 mid:=[3,300,390]
 n:=400
 ap:=[(.tmp 58,390)]
 dec vs bs:=match vs,bs with | [.pointer (some ⟨3,0,some 0⟩),.string b,.bool r,.int .u8 c,.slice (some ⟨300,0,some 1⟩) 4 4,.int .i64 L4,.int .i64 i,.slice (some ⟨390,0,some 1⟩) m cap,.int .i64 L,.int .i64 j],[some ⟨[.string s,.bool true,.int .i64 0,.int .i64 0,.int .i64 0,.bool false,.slice none 0 0,.int .u8 dr,.int .i64 f,.bool cr,.int .u8 32,.int .i64 0],156,true⟩,some ⟨[.int .u8 36,.int .u8 83,.int .u8 43,.int .u8 45],5,false⟩,some ⟨d,5,false⟩]=>some (b,r,c,L4,i,s,dr,f,cr,d,m,cap,L,j) | _,_=>none
 pre:=fun(b,r,c,L4,i,s,dr,f,cr,d,m,cap,L,j)=>vwOK d m&&decide (0≤j∧j≤m∧m≤100∧L=m)
 fin:=fun(b,r,c,L4,i,s,dr,f,cr,d,m,cap,L,j) Z=>(bif drP c ((zc d m).drop j.toNat)then Z (.exit 2) [.pointer (some ⟨3,0,some 0⟩),S b,B r,C8 c,.slice (some ⟨300,0,some 1⟩) 4 4,I L4,I i,.slice (some ⟨390,0,some 1⟩) m cap,I L,I m] [some ⟨[S s,B true,I 0,I 0,I 0,B false,.slice none 0 0,C8 dr,I f,B cr,C8 32,I 0],156,true⟩,some ⟨[C8 36,C8 83,C8 43,C8 45],5,false⟩,some ⟨d,5,false⟩]else∀j',Z .ret [.pointer (some ⟨3,0,some 0⟩),S b,B false,C8 c,.slice (some ⟨300,0,some 1⟩) 4 4,I L4,I i,.slice (some ⟨390,0,some 1⟩) m cap,I L,I j'] [some ⟨[S s,B true,I 0,I 0,I 0,B false,.slice none 0 0,C8 dr,I f,B cr,C8 32,I 0],156,true⟩,some ⟨[C8 36,C8 83,C8 43,C8 45],5,false⟩,some ⟨d,5,false⟩])
def kc(b:List (Prod Nat Nat))(c:E)(a:Nat):Option Blk:=some (.mk (rlbL ((a,a)::b) c) 5 false)
def im(b f l:Bool)(a:Y)(c d e j k m n:Int)(h i:Nat)(g:Option Addr):Option Blk:=some (.mk (ax a [ak c,ak d,ak e,.bool f,.slice g h i,ao j,ak k,.bool l,ao m,ak n] (.bool b)) 156 true)
def io(b:Int)(a:E):Int:=jau a (dp b)
theorem r131_2(b:Y)(r:Bool)(c:Int)(L4:Int)(i:Int)(s:Y)(dr:Int)(f:Int)(cr:Bool)(d:E)(m:Nat)(cap:Nat)(L:Int)(j:Int)(jk:Tmps)(R:Exit→E→O→Prop):(jbv Tryz.prog G20 noL Tryz.f244.ntmps (ja9 Tryz.f244 2) (tl S131_2.live (V131_2 (b,r,c,L4,i,s,dr,f,cr,d,m,cap,L,j)) jk) (ml S131_2.mid (B131_2 (b,r,c,L4,i,s,dr,f,cr,d,m,cap,L,j))) S131_2.n fun e t' m' _=>S131_2.out R e t' m')=(d5 (b7 j L) (cl j (m:Int)) (f9 d 390 390) (bif jby .u8 d (dp j)then bif bk (io j d !=c) (cl (io j d) 256&&true) true then lp (io j d !=c&&a7 (idxZ (bz ⟨#[44,46,47,66,86]⟩) (io j d)) 0) (f9 d 390 390) R [ct false (jo 36 83 43 45) 5,kc [] d 390] (ao c::a9 300 4 4::ak L4::ak i::fp L j 390 m cap) (ao c::a9 300 4 4::ak L4::ak i::a9 390 m cap::bv L j) (im true false cr s 0 0 0 dr f 32 0 0 0 none) (av 3) (S b) (B false) (av 3) (S b) (B r)else False else False) False (R (.exit 2) (av 3::dq r b (a9 300 4 4::ak L4::ak i::fp L j 390 m cap) (ao c)) [im true false cr s 0 0 0 dr f 32 0 0 0 none,ct false (jo 36 83 43 45) 5,kc [] d 390])):=by kernel_rfl
theorem l131_2:∀t m n K,S131_2.hA t m n K→Ab.Sem Tryz.prog Tryz.f244.ntmps (.loop (ja9 Tryz.f244 2)) t m n K:=by
 refine jbr ok_G20 hmix (by kernel_rfl) (ja7 _) S131_2 V131_2 B131_2 (fun(b,r,c,L4,i,s,dr,f,cr,d,m,cap,L,j)=>(m-j).toNat) ?_ ?_ ?_
 ·intro vs bs s h;simp only[S131_2]at h;split at h
  all_goals first | (cases h;exact⟨rfl,rfl⟩) | cases h | (split at h<;>first | (rename_i hq;cases h;have hq:=jah hq;subst hq;exact⟨rfl,rfl⟩) | cases h)
 ·exact fun⟨b,r,c,L4,i,s,dr,f,cr,d,m,cap,L,j⟩ hp=>by
   simp only[S131_2,jaf]at hp;simp[V131_2,B131_2,S131_2,ja0,jbz,idsL,ids,jaq (jcx.1 hp.1).plain]
 ·intro⟨b,r,c,L4,i,s,dr,f,cr,d,m,cap,L,j⟩ jk Z hp hf;rw[r131_2];delta cq ar d5 kc ct ao jo ax ak im dq bw dv a9 fp av b9 lp aw ay bv f9 a7 dp io bk cl b7;simp only[S131_2]at hp hf;simp only[jaf,jae]at hp;obtain⟨hv,hp⟩:=hp;have hV:=hv;have hv:=jcx.1 hv;have k:bz ⟨#[44,46,47,66,86]⟩=k5:=rfl;rw[k,Nat.mul_one,Nat.zero_add];simp only[hv.rlb];apply cond_intro<;>intro h
  ·have h:=jab h;obtain⟨a1,a2,a3⟩:=hv.at hp.1 (by omega);rw[a3]at hf;rw[jaa a2,idx_neg];have e:drP c (jau d j.toNat::List.drop (j+1).toNat (zc d m))=((jau d j.toNat==c || hasZ k5 (jau d j.toNat)) &&drP c (List.drop (j+1).toNat (zc d m))):=rfl;rw[e]at hf;refine c_t (jaa (by omega)) (c_t a1 (c_t (by cases(jau d j.toNat !=c) <;>rfl) (cond_intro (fun q=>c_t (hv.good _) ?_) (fun q=>c_t (hv.good _) ?_))))
   ·have q':(jau d j.toNat==c || hasZ k5 (jau d j.toNat))=false:=by
     simp only[jaf,bne_iff_ne,Bool.not_eq_true']at q;rw[q.2,Bool.or_false];simpa using q.1
    rw[q',Bool.false_and,cond_false]at hf;exact hf j
   ·have q':(jau d j.toNat==c || hasZ k5 (jau d j.toNat))=true:=by
     cases h1:(jau d j.toNat==c)with
     | true=>rfl
     | false=>
      have h2:(jau d j.toNat !=c)=true:=by rw[bne,h1];rfl
      rw[h2,Bool.true_and,Bool.not_eq_false']at q;rw[q];rfl
    rw[q',Bool.true_and]at hf;rw[w64 (by omega)];exact⟨(b,r,c,L4,i,s,dr,f,cr,d,m,cap,L,j+1),rfl,rfl,by simp only[S131_2,jaf,jae];exact⟨hV,by omega⟩,by simp only;omega,hf⟩
  ·have h:=jac h;rw[hv.end (by omega),drP,List.all_nil,cond_true]at hf;obtain rfl:j=m:=by omega
   exact c_t (hv.good _) hf
theorem lk131:LOK Tryz.prog (oneL 2 S131_2.hA) Tryz.f244.ntmps (ja9 Tryz.f244 0):=lok_one (by kernel_rfl) l131_2
def V131_0:Y×Bool×Int×Int×Y×Int×Int×Bool→E:=fun(b,r,L4,i,s,dr,f,cr)=> [.pointer (some ⟨3,0,some 0⟩),S b,B r,.slice (some ⟨300,0,some 1⟩) 4 4,I L4,I i]
def B131_0:Y×Bool×Int×Int×Y×Int×Int×Bool→O:=fun(b,r,L4,i,s,dr,f,cr)=> [some ⟨[S s,B true,I 0,I 0,I 0,B false,.slice none 0 0,C8 dr,I f,B cr,C8 32,I 0],156,true⟩,some ⟨[C8 36,C8 83,C8 43,C8 45],5,false⟩]
def S131_0:LSpecA (Y×Bool×Int×Int×Y×Int×Int×Bool) where
 live:=[0,1,4,14,15,16]
 mid:=[3,300]
 n:=310
 ap:=[(.tmp 14,300)]
 dec vs bs:=match vs,bs with | [.pointer (some ⟨3,0,some 0⟩),.string b,.bool r,.slice (some ⟨300,0,some 1⟩) 4 4,.int .i64 L4,.int .i64 i],[some ⟨[.string s,.bool true,.int .i64 0,.int .i64 0,.int .i64 0,.bool false,.slice none 0 0,.int .u8 dr,.int .i64 f,.bool cr,.int .u8 32,.int .i64 0],156,true⟩,some ⟨[.int .u8 36,.int .u8 83,.int .u8 43,.int .u8 45],5,false⟩]=>some (b,r,L4,i,s,dr,f,cr) | _,_=>none
 pre:=fun(b,r,L4,i,s,dr,f,cr)=>decide (L4=4∧0≤i∧i≤4∧b.size≤100∧0≤dr∧dr<256)
 fin:=fun(b,r,L4,i,s,dr,f,cr) Z=>(bif (je5 (List.drop i.toNat [36,83,43,45]) (bz b) dr f).1 then∀dr' f',je5 (List.drop i.toNat [36,83,43,45]) (bz b) dr f=(true,dr',f')→Z (.exit 0) [.pointer (some ⟨3,0,some 0⟩),S b,B r,.slice (some ⟨300,0,some 1⟩) 4 4,I L4,I 4] [some ⟨[S s,B true,I 0,I 0,I 0,B false,.slice none 0 0,C8 (dr'),I (f'),B cr,C8 32,I 0],156,true⟩,some ⟨[C8 36,C8 83,C8 43,C8 45],5,false⟩]else∀i' dr' f',Z .ret [.pointer (some ⟨3,0,some 0⟩),S b,B false,.slice (some ⟨300,0,some 1⟩) 4 4,I L4,I i'] [some ⟨[S s,B true,I 0,I 0,I 0,B false,.slice none 0 0,C8 (dr'),I (f'),B cr,C8 32,I 0],156,true⟩,some ⟨[C8 36,C8 83,C8 43,C8 45],5,false⟩])
def jh(a b:Nat):Prop:=a.ble b=true
def ol(f g:Bool)(a:Y)(b c d e:Nat)(h i:Prop):Prop:=jh a.size b→(bif jf [(c,d)] (Lib.strCells a) e then bif f then bif g then h else Int→i else False else False)
def qb(a:Bool)(b:Y)(c d:Int):O:=[im true false a b 0 0 0 c d 32 0 0 0 none,ct false (jo 36 83 43 45) 5]
def qa(e:Bool)(b f:Y)(a:Exit→E→O→Prop)(c d g h:Int):Prop:=a .ret (av 3:: .string b:: .bool false::fp c d 300 4 4) (qb e f g h)
def ke(a:Int):Int:=jau (jo 36 83 43 45) (dp a)
def lz(a:Y)(b:Int):Int:=idxZ (bz a) (ke b)
def je(c:Y)(a b:Nat):E:=rlbL [(a,b)] (Lib.strCells c)
def mt(a:Y)(b:Int):Y:=a.extract (lz a b).toNat (d8 (jck (bz a) (ke b)) 1).toNat
def kt(c:Y)(a b:Nat):J:=gv 0 [(a,b)] (Lib.strCells c) c.size
def ja(a:UInt8):Int:=(bz ⟨#[a]⟩).getD 0 (0:Int)
theorem r131_0(b:Y)(r:Bool)(L4:Int)(i:Int)(s:Y)(dr:Int)(f:Int)(cr:Bool)(jk:Tmps)(R:Exit→E→O→Prop):(jbv Tryz.prog G20 (oneL 2 S131_2.hA) Tryz.f244.ntmps (ja9 Tryz.f244 0) (tl S131_0.live (V131_0 (b,r,L4,i,s,dr,f,cr)) jk) (ml S131_0.mid (B131_0 (b,r,L4,i,s,dr,f,cr))) S131_0.n fun e t' m' _=>S131_0.out R e t' m')=(ez (cl i 4) R i L4 (qb cr s dr f) (av 3::dq r b (bw L4 i) (a9 300 4 4)) 0 (bif jby .u8 (jo 36 83 43 45) (dp i)then bif oneB (Utf8.encode (ke i))then bif a7 (cntZ (bz b) ((bz (Utf8.encode (ke i))).getD 0 (0:Int)):Int) 2 then R .normal (av 3::dq r b (bv L4 i) (a9 300 4 4)) (qb cr s dr f)else bif dr !=0 then qa cr b s R L4 i dr f else lh (ft b) (ke i) 256 (bif gz 0 0 (lz b i) (lz b i) (aq b)then bif hasZ (bz (j1 b (lz b i))) (ja 86)then qa cr b s R L4 i (ke i) (lz b i)else bif gz 0 (lz b i) (d8 (jck (bz b) (ke i)) 1) (d8 (jck (bz b) (ke i)) 1) (aq b)then∀a:Nat,ol (S131_2.toLSpec.pre (b,(r,(ke i,(L4,(i,(s,(ke i,(lz b i,(cr,(je (mt b i) 355 390,((mt b i).size,(a,(natO (mt b i).size,(0:Int))))))))))))))) (drP (ke i) (kt (mt b i) 355 390)) (mt b i) a 355 390 400 (ik (je (mt b i) 355 390) 400 (R .normal (av 3::dq r b (bv L4 i) (a9 300 4 4)) [im true false cr s 0 0 0 (ke i) (lz b i) 32 0 0 0 none,ct false (jo 36 83 43 45) 5])) (ik (je (mt b i) 355 390) 400 (qa cr b s R L4 i (ke i) (lz b i)))else False else False) False else False else False)):=by kernel_rfl
theorem l131_0:∀t m n K,S131_0.hA t m n K→Ab.Sem Tryz.prog Tryz.f244.ntmps (.loop (ja9 Tryz.f244 0)) t m n K:=by
 refine jbr ok_G20 hmix (by kernel_rfl) lk131 S131_0 V131_0 B131_0 (fun(b,r,L4,i,s,dr,f,cr)=>(4-i).toNat) ?_ ?_ ?_
 ·intro vs bs s h;simp only[S131_0]at h;split at h
  all_goals first | (cases h;exact⟨rfl,rfl⟩) | cases h | (split at h<;>first | (rename_i hq;cases h;have hq:=jah hq;subst hq;exact⟨rfl,rfl⟩) | cases h)
 ·exact fun⟨b,r,L4,i,s,dr,f,cr⟩ hp=>by
   simp[V131_0,B131_0,S131_0,ja0,jbz,idsL,ids]
 ·intro⟨b,r,L4,i,s,dr,f,cr⟩ jk Z hp hf;rw[r131_0];delta cq b7 ez cl lh gm jf jh ol ik ct ao jo ax ak im qb bw dv a9 fp av qa dp ke lz je d8 mt dq aw ay bv gv kt gz aq ja j1 ft a7;simp only[S131_0]at hp hf;simp only[jae]at hp;have hL4:=hp.1;apply cond_intro<;>intro h
  ·have h:=jab h;obtain⟨c,c1,c2,c3,c4,c5,c6⟩:=ch_at hp.2.1 (by omega);rw[c1,c2,c4,c3,w64 (n:=i+1) (by omega)];rw[c6,je5]at hf;clear c1 c2 c3 c4 c6;refine c_t (jaa (by omega)) (c_t rfl (c_t rfl (cond_intro (fun q=> ?_) (fun q=> ?_))))
   ·rw[q,cond_true]at hf;exact⟨(b,r,L4,i+1,s,dr,f,cr),rfl,rfl,by simp only[S131_0,jae];omega,by simp only;omega,hf⟩
   ·rw[q,cond_false]at hf;have q:=jac q;have hm:=jjt q;have i1:=jfy c hm;have i2:=ji9 c hm;have i3:=ji4 (bz b) c;rw[jap]at i1 i3;refine cond_intro (fun e=> ?_) (fun e=>c_t (jaa (by omega)) (c_t (jaa (by omega)) (c_t (jaa (by omega)) ?_)))
    ·rw[e]at hf;exact hf i dr f
    ·rw[e,cond_false]at hf;have k6:(bz ⟨#[86]⟩).getD 0 0=86:=rfl;have ex:bz (b.extract 0 (idxZ (bz b) c).toNat)=(bz b).take (idxZ (bz b) c).toNat:=by rw[jcb];simp
     have ex2:bz (b.extract (idxZ (bz b) c).toNat (jck (bz b) c+1).toNat)=((bz b).take (jck (bz b) c+1).toNat).drop (idxZ (bz b) c).toNat:=jcb _ _ _;rw[k6,ex,w64 (n:=jck (bz b) c+1) (by omega)];refine cond_intro (fun e=> ?_) (fun e=>c_t (jaa (by omega)) (fun cap hcap=> ?_))
     ·rw[drC,e]at hf;exact hf i _ _
     ·obtain⟨v1,v2⟩:=jk5 (b.extract (idxZ (bz b) c).toNat (jck (bz b) c+1).toNat);have v3:=jcx.2 v1
      have hsz:(b.extract (idxZ (bz b) c).toNat (jck (bz b) c+1).toNat).size≤100:=by
       rw[←jap,ex2,List.length_drop,List.length_take,jap];omega
      have g1:=v1.good;have g2:=v1.rlb;have g3:=jbi v1.plain;rw[ex2]at v2;rw[drC,e,Bool.not_false,Bool.true_and,←v2]at hf;simp only[g2];clear ex2;generalize b.extract (idxZ (bz b) c).toNat (jck (bz b) c+1).toNat=y at*;generalize Lib.strCells y=d at*;refine c_t (by rw[g1,g3];rfl) (c_t ?_ (cond_intro (fun a=>c_t (by rw[g3];rfl) fun x=> ?_) (fun a j'=>c_t (by rw[g3];rfl) fun x=> ?_)))
      ·simp only[S131_2,jaf,jae];exact⟨v3,by omega,by omega,hsz,jb6 _⟩
      ·have a:drP c (zc d y.size)=true:=a;rw[a,cond_true]at hf;exact⟨(b,r,L4,i+1,s,c,idxZ (bz b) c,cr),rfl,rfl,by simp only[S131_0,jae];omega,by simp only;omega,hf⟩
      ·have a:drP c (zc d y.size)=false:=a;rw[a]at hf;exact hf i _ _
  ·have h:=jac h;obtain rfl:i=4:=by omega
   subst hL4;exact hf dr f rfl
theorem fn131:Fn1 Tryz.prog 244 Tryz.f244:= .m Tryz.func244
theorem lok131:LOKf Tryz.prog (oneL 0 S131_0.hA) Tryz.f244:=jbo (by kernel_rfl) l131_0
theorem fn160:Fn1 Tryz.prog 281 Tryz.f281:= .m Tryz.func281
def G21:Env:=Env.nil.add 272 (sp2 s141)
theorem ok_G21:jax Tryz.prog G21:=jak jan ok141
def G22:Env:=Env.nil.addG 281 (inlQ Tryz.prog G21 noL Tryz.f281)
theorem ok_G22:jax Tryz.prog G22:=jam jan (jar ok_G21 hmix fn160 jai)
def ci(l:J):E:=l.map fun n=> .int .i64 n
@[simp] theorem ci_length (l:J):(ci l).length=l.length:=by simp[ci]
theorem ci_append(a b:J):ci (a++b)=ci a++ci b:=by simp[ci]
theorem ci_plain:∀l:J,ja5 (ci l)=true
 | []=>rfl
 | c::r=>by simpa[ci,ja5,plain]using ci_plain r
def jfb:E→Bool
 | []=>true
 | .int .i64 _::r=>jfb r
 | _=>false
theorem ci_isInts:∀l:J,jfb (ci l)=true
 | []=>rfl
 | c::r=>by simpa[ci,jfb]using ci_isInts r
theorem jnq:∀{l:E},jfb l=true→ci (l.map iv)=l
 | [],_=>rfl
 | .int .i64 n::r,h=>by
  have:=jnq (l:=r) (by simpa[jfb]using h);simp only[ci]at this;simp only[List.map_cons,ci,iv,this]
def jbu(c:E)(n cap:Nat):Bool:=jfb (c.take n) && (ja5 c&& (Nat.beq c.length cap&& (Nat.ble n cap&&Nat.ble cap 9223372036854775807)))
structure RowI (c:E)(n cap:Nat):Prop where
 bytes:jfb (c.take n)=true
 plain:ja5 c=true
 len:c.length=cap
 le:n≤cap
 cap:cap≤9223372036854775807
theorem jaw{c:E}{n cap:Nat}:jbu c n cap=true↔RowI c n cap:=by
 simp only[jbu,jaf,Nat.ble_eq,Nat.beq_eq];exact⟨fun⟨h1,h2,h3,h4,h5⟩=>⟨h1,h2,h3,h4,h5⟩,fun⟨h1,h2,h3,h4,h5⟩=>⟨h1,h2,h3,h4,h5⟩⟩
theorem jbj{c:E}{n cap:Nat}(h:RowI c n cap):(zc c n).length=n:=by
 have h1:=h.len;have h2:=h.le;simp only[zc,List.length_map,List.length_take];omega
theorem RowI.eq{c:E}{n cap:Nat}(h:RowI c n cap):c=ci (zc c n)++c.drop n:=by
 rw[zc,jnq h.bytes,List.take_append_drop]
theorem RowI.take{c:E}{n cap:Nat}(h:RowI c n cap):c.take n=ci (zc c n):=(jnq h.bytes).symm
theorem rowI_mk(L:J){tail:E}{cap:Nat}(ht:ja5 tail=true)(hl:L.length+tail.length=cap)(hc:cap≤9223372036854775807):RowI (ci L++tail) L.length cap∧zc (ci L++tail) L.length=L:=by
 have e:(ci L++tail).take L.length=ci L:=by rw[List.take_append_of_le_length (by simp),List.take_of_length_le (by simp)]
 refine⟨⟨by rw[e];exact ci_isInts L,plainL_append.2 ⟨ci_plain L,ht⟩,by simp[hl],by omega,hc⟩,?_⟩;show List.map iv ((ci L++tail).take L.length)=L;rw[e];simp only[ci,List.map_map];have:(iv∘fun n:Int=>Value.int .i64 n)=id:=by funext n;rfl
 rw[this,List.map_id]
theorem RowI.app{c:E}{n cap:Nat}(h:RowI c n cap)(M:J){tail:E}{cap':Nat}(ht:jay tail cap' (n+M.length) 1=true):
  RowI (c.take n++ci M++tail) (n+M.length) cap'∧zc (c.take n++ci M++tail) (n+M.length)=zc c n++M:=by
 obtain⟨t1,t2,t3,t4⟩:=je6 ht;have hz:=jbj h;have:=rowI_mk (zc c n++M) (tail:=tail) (cap:=cap') t1 (by simp only[List.length_append,hz];omega) t4;simp only[List.length_append,hz,ci_append]at this;rw[h.take];exact this
theorem RowI.app1{c:E}{n cap:Nat}(h:RowI c n cap)(x:Int){tail:E}{cap':Nat}(ht:jay tail cap' (n+1) 1=true):
  RowI (c.take (n*1)++ [.int .i64 x]++tail) (n+1) cap'∧zc (c.take (n*1)++ [.int .i64 x]++tail) (n+1)=zc c n++ [x]:=by
 rw[Nat.mul_one];exact h.app [x] ht
theorem RowI.ask{c:E}{n cap:Nat}(h:RowI c n cap){k:Nat}(hk:n+k≤1000000):
  (Nat.beq c.length (cap*1) &&Nat.ble n cap&&Nat.ble cap 9223372036854775807&&true&&jbx (n+k) 8)=true:=by
 have h1:=h.len;have h2:=h.le;have h3:=h.cap;simp only[jbx,jaf,Nat.ble_eq,Nat.beq_eq,Nat.mul_one];exact⟨⟨⟨⟨h1,h2⟩,h3⟩,trivial⟩,by omega,by omega⟩
theorem jfi(M:J){tail:E}{cap':Nat}(ht:jay tail cap' M.length 1=true):RowI (ci M++tail) M.length cap'∧zc (ci M++tail) M.length=M:=by
 obtain⟨t1,t2,t3,t4⟩:=je6 ht;exact rowI_mk M t1 (by omega) t4
theorem RowI.good{c:E}{n cap:Nat}(h:RowI c n cap)(ps:List (Nat×Nat)):jav ps c=true:=goodL_plain h.plain
theorem RowI.rlb{c:E}{n cap:Nat}(h:RowI c n cap)(ps:List (Nat×Nat)):rlbL ps c=c:=rlbL_plain ps h.plain
def Rw.bi:Rw→Option Blk
 | .nil=>none
 | .own d _ _=>some ⟨d,251,true⟩
def Rw.oki:Rw→Bool
 | .nil=>true
 | .own d m cap=>jbu d m cap
theorem jg5{b:Bool}{P Q P' Q':Prop}(h:bif b then P else Q)(h1:P→P')(h2:Q→Q'):bif b then P' else Q':=by
 cases b
 ·exact h2 h
 ·exact h1 h
theorem jkq(l:J)(c:Int):decide (idxZ l c≥0)=hasZ l c:=by
 have:=idx_neg l c;rw[Bool.eq_iff_iff,jae]at*;cases h:hasZ l c with
 | true=>
  rw[h]at this;have h2:¬idxZ l c<0:=fun q=>by have:=this.1 q;cases this
  simp;omega
 | false=>
  rw[h]at this;have h2:idxZ l c<0:=this.2 rfl;simp;omega
def roP(dr f c i:Int):Int:=bif hasZ [57,89,84,73,82] c then 0 else bif c==90 || (c==42 || (c==dr&&i !=f))then 1 else bif c==86 then 2 else bif c==36 then 5 else bif c==83 || (c==43 || c==45)then 4 else 3
def jbk(dr f:Int):J→Int→J
 | [],_=> []
 | c::r,i=>roP dr f c i::jbk dr f r (i+1)
structure PlS where
 pts:Int
 bh:Bool
 w:Int
 dg:Int
 q:Int
 fm:Int
def plGo:J→PlS→Bool×PlS
 | [],a=>(true,a)
 | r::rs,a=>bif r==2 then plGo rs ⟨a.pts+1,a.bh,a.w,a.dg,a.q,a.fm⟩else bif r==0 then plGo rs ⟨a.pts,a.bh,a.w+1,a.dg+1,a.q+a.pts,a.fm+1⟩
  else bif r==1 then(bif decide (a.fm>0)then(false,a)else plGo rs ⟨a.pts,a.bh || decide (a.pts>0),a.w+1,a.dg+1,a.q+a.pts,a.fm⟩)else plGo rs ⟨a.pts,a.bh,a.w+1,a.dg,a.q,a.fm⟩
def V133_0:Y×Bool×Int×Bool×E×Nat×Nat×Int×Int×Y×Int×Int×Int×Rw×Int×Int×Bool×Int→E:=fun(b,r,pts,bh,d,m,cap,L,i,s,w,dg,q,o,dr,f,cr,fm)=> [.pointer (some ⟨3,0,some 0⟩),S b,B r,I (pts),B (bh),.slice (some ⟨400,0,some 1⟩) m cap,I L,I (i)]
def B133_0:Y×Bool×Int×Bool×E×Nat×Nat×Int×Int×Y×Int×Int×Int×Rw×Int×Int×Bool×Int→O:=fun(b,r,pts,bh,d,m,cap,L,i,s,w,dg,q,o,dr,f,cr,fm)=> [some ⟨[.string s,.bool true,.int .i64 (w),.int .i64 (dg),.int .i64 (q),.bool false,o.v 401,.int .u8 dr,.int .i64 f,.bool cr,.int .u8 32,.int .i64 (fm)],156,true⟩,some ⟨d,5,false⟩,o.bi]
def S133_0:LSpecA (Y×Bool×Int×Bool×E×Nat×Nat×Int×Int×Y×Int×Int×Int×Rw×Int×Int×Bool×Int) where
 live:=[0,1,4,5,6,11,12,13]
 mid:=[3,400,401]
 n:=410
 ap:=[(.tmp 11,400),(.cell 3 6,401)]
 dec vs bs:=match vs,bs with
  | [.pointer (some ⟨3,0,some 0⟩),.string b,.bool r,.int .i64 pts,.bool bh,.slice (some ⟨400,0,some 1⟩) m cap,.int .i64 L,.int .i64 i],[some ⟨[.string s,.bool true,.int .i64 w,.int .i64 dg,.int .i64 q,.bool false,.slice none 0 0,.int .u8 dr,.int .i64 f,.bool cr,.int .u8 32,.int .i64 fm],156,true⟩,some ⟨d,5,false⟩,none]=>some (b,r,pts,bh,d,m,cap,L,i,s,w,dg,q,.nil,dr,f,cr,fm)
  | [.pointer (some ⟨3,0,some 0⟩),.string b,.bool r,.int .i64 pts,.bool bh,.slice (some ⟨400,0,some 1⟩) m cap,.int .i64 L,.int .i64 i],[some ⟨[.string s,.bool true,.int .i64 w,.int .i64 dg,.int .i64 q,.bool false,.slice (some ⟨401,0,some 1⟩) m2 cap2,.int .u8 dr,.int .i64 f,.bool cr,.int .u8 32,.int .i64 fm],156,true⟩,some ⟨d,5,false⟩,some ⟨d2,251,true⟩]=>some (b,r,pts,bh,d,m,cap,L,i,s,w,dg,q,.own d2 m2 cap2,dr,f,cr,fm)
  | _,_=>none
 pre:=fun(b,r,pts,bh,d,m,cap,L,i,s,w,dg,q,o,dr,f,cr,fm)=>o.oki&& (vwOK d m&&decide (0≤i∧i≤m∧m≤100∧L=m∧0≤pts∧pts≤i∧0≤w∧w≤i∧0≤dg∧dg≤i∧0≤fm∧fm≤i∧0≤q∧q≤i*100∧o.z.length≤i))
 fin:=fun(b,r,pts,bh,d,m,cap,L,i,s,w,dg,q,o,dr,f,cr,fm) Z=>(bif (plGo (jbk dr f ((zc d m).drop i.toNat) i) ⟨pts,bh,w,dg,q,fm⟩).1 then(o.is=false→(zc d m).drop i.toNat=[]→Z (.exit 0) [.pointer (some ⟨3,0,some 0⟩),S b,B r,I (pts),B (bh),.slice (some ⟨400,0,some 1⟩) m cap,I L,I (m)] [some ⟨[.string s,.bool true,.int .i64 (w),.int .i64 (dg),.int .i64 (q),.bool false,.slice none 0 0,.int .u8 dr,.int .i64 f,.bool cr,.int .u8 32,.int .i64 (fm)],156,true⟩,some ⟨d,5,false⟩,none])∧ ∀pts' bh' w' dg' q' fm' d' m' cap',jbu d' m' cap'=true→zc d' m'=o.z++jbk dr f ((zc d m).drop i.toNat) i→plGo (jbk dr f ((zc d m).drop i.toNat) i) ⟨pts,bh,w,dg,q,fm⟩=(true,⟨pts',bh',w',dg',q',fm'⟩)→Z (.exit 0) [.pointer (some ⟨3,0,some 0⟩),S b,B r,I (pts'),B (bh'),.slice (some ⟨400,0,some 1⟩) m cap,I L,I (m)] [some ⟨[.string s,.bool true,.int .i64 (w'),.int .i64 (dg'),.int .i64 (q'),.bool false,.slice (some ⟨401,0,some 1⟩) m' cap',.int .u8 dr,.int .i64 f,.bool cr,.int .u8 32,.int .i64 (fm')],156,true⟩,some ⟨d,5,false⟩,some ⟨d',251,true⟩]else∀pts' bh' i' w' dg' q' fm' d' m' cap',jbu d' m' cap'=true→Z .ret [.pointer (some ⟨3,0,some 0⟩),S b,B false,I (pts'),B (bh'),.slice (some ⟨400,0,some 1⟩) m cap,I L,I (i')] [some ⟨[.string s,.bool true,.int .i64 (w'),.int .i64 (dg'),.int .i64 (q'),.bool false,.slice (some ⟨401,0,some 1⟩) m' cap',.int .u8 dr,.int .i64 f,.bool cr,.int .u8 32,.int .i64 (fm')],156,true⟩,some ⟨d,5,false⟩,some ⟨d',251,true⟩])
def l0(a:Bool)(b:Y)(h:Int)(g:E)(d e f:Nat)(c:Value):E:=av 3::dq a b (c::a9 d e f::g) (ak h)
def ew(a c:Int)(b:E):Bool:=io a b==c
def qc(b d e:Int)(a:E)(c f g h i j:Prop):Prop:=bif jby .u8 a (dp b)then lh (decide (idxZ (bz ⟨#[57,89,84,73,82]⟩) (io b a)≥0)) (io b a) 256 c (az (ew b 90 a) (ew b 42 a || (ew b d a || true)) (ew b 90 a || (ew b 42 a || ew b d a&&b !=e)) f (bif ew b 86 a then g else bif ew b 36 a then h else f8 (ew b 83 a) (ew b 43 a || true) (ew b 83 a || (ew b 43 a || ew b 45 a)) i j))else False
def kf(a:List (Prod Nat Nat))(b:E):Option Blk:=some (.mk (rlbL a b) 251 true)
def rn(b c:E)(a:Nat):O:=[kc [(a,401)] b 400,kf [(400,400),(a,401)] c]
def kg(a:Bool)(b:Y)(c d e f g h:Int)(i j:Nat):Option Blk:=im true false a b c d e f g 32 h i j (dv 401 1)
def ku(a:Bool)(b:Y)(c d e f g h:Int)(k l:E)(i j m:Nat):O:=kg a b c d e f g h i j::rn k l m
def jp(c:List (Prod Nat Nat))(d e:E)(a b:Nat):Bool:=jav ((a,b)::c) d&& (jav ((a,b)::c) e&&true)
def qd(c:Int)(b d:E)(a:Nat):Bool:=jp [(a,401)] b (ak c::d) 400 400&&true
def oo(g:Bool)(h:Y)(f:Exit→E→O→Prop)(b i j k l m n:Int)(d o:E)(e:Nat):Prop:=∀a:Nat,∀c:E,cw c a 1→b9 (qd b d c e) f (ku g h i j k l m n d (ak b::c) 1 a e) o
def la(a h:Bool)(b:Y)(c d e:Int)(f g:Nat):E:=l0 a b c (bv d e) 400 f g (.bool h)
theorem r133_0n(b:Y)(r:Bool)(pts:Int)(bh:Bool)(d:E)(m:Nat)(cap:Nat)(L:Int)(i:Int)(s:Y)(w:Int)(dg:Int)(q:Int)(dr:Int)(f:Int)(cr:Bool)(fm:Int)(jk:Tmps)(R:Exit→E→O→Prop):(jbv Tryz.prog G22 noL Tryz.f245.ntmps (ja9 Tryz.f245 0) (tl S133_0.live (V133_0 (b,r,pts,bh,d,m,cap,L,i,s,w,dg,q,.nil,dr,f,cr,fm)) jk) (ml S133_0.mid (B133_0 (b,r,pts,bh,d,m,cap,L,i,s,w,dg,q,.nil,dr,f,cr,fm))) S133_0.n fun e t' m' _=>S133_0.out R e t' m')=(d5 (b7 i L) (cl i (m:Int)) (f9 d 400 400) (qc i dr f d (oo cr s R 0 (aw w) (aw dg) (d8 q pts) dr f (aw fm) d (la r bh b pts L i m cap) 434) (∀a:Nat,∀c:E,cw c a 1→(bif dy fm 0 then bif qd 1 d c 457 then R .ret (av 3::dq false b (B bh::fp L i 400 m cap) (ak pts)) (ku cr s w dg q dr f fm d (ak 1::c) 1 a 457)else False else bif bh || true then b9 (qd 1 d c 457) R (ku cr s (aw w) (aw dg) (d8 q pts) dr f fm d (ak 1::c) 1 a 457) (la r (bh || dy pts 0) b pts L i m cap)else False)) (oo cr s R 2 w dg q dr f fm d (av 3::dq r b (B bh::a9 400 m cap::bv L i) (ay pts)) 460) (oo cr s R 5 (aw w) dg q dr f fm d (la r bh b pts L i m cap) 463) (oo cr s R 4 (aw w) dg q dr f fm d (la r bh b pts L i m cap) 474) (oo cr s R 3 (aw w) dg q dr f fm d (la r bh b pts L i m cap) 474)) False (R (.exit 0) (l0 r b pts (bw L i) 400 m cap (B bh)) [im true false cr s w dg q dr f 32 fm 0 0 none,kc [] d 400,none])):=by kernel_rfl
def md(c:Int)(b d:E)(a:Nat):E:=gq b a++ [ak c]++d
def mw(e:Int)(b d f:E)(a c:Nat):Bool:=jp [(a,401)] b (md e d f c) 400 400&&true
theorem r133_0o(b:Y)(r:Bool)(pts:Int)(bh:Bool)(d:E)(m:Nat)(cap:Nat)(L:Int)(i:Int)(s:Y)(w:Int)(dg:Int)(q:Int)(d2:E)(m2:Nat)(cap2:Nat)(dr:Int)(f:Int)(cr:Bool)(fm:Int)(jk:Tmps)(R:Exit→E→O→Prop):(jbv Tryz.prog G22 noL Tryz.f245.ntmps (ja9 Tryz.f245 0) (tl S133_0.live (V133_0 (b,r,pts,bh,d,m,cap,L,i,s,w,dg,q,.own d2 m2 cap2,dr,f,cr,fm)) jk) (ml S133_0.mid (B133_0 (b,r,pts,bh,d,m,cap,L,i,s,w,dg,q,.own d2 m2 cap2,dr,f,cr,fm))) S133_0.n fun e t' m' _=>S133_0.out R e t' m')=(d5 (b7 i L) (cl i (m:Int)) (jp [(401,401)] d d2 400 400&&true) (qc i dr f d (mc d2 cap2 m2 8 (∀a:Nat,∀c:E,cw c a (m2+1)→b9 (mw 0 d d2 c 434 m2) R (ku cr s (aw w) (aw dg) (d8 q pts) dr f (aw fm) d (md 0 d2 c m2) (m2+1) a 434) (la r bh b pts L i m cap))) (mc d2 cap2 m2 8 (∀a:Nat,∀c:E,cw c a (m2+1)→(bif dy fm 0 then bif mw 1 d d2 c 457 m2 then R .ret (av 3::dq false b (B bh::fp L i 400 m cap) (ak pts)) (ku cr s w dg q dr f fm d (md 1 d2 c m2) (m2+1) a 457)else False else bif bh || true then b9 (mw 1 d d2 c 457 m2) R (ku cr s (aw w) (aw dg) (d8 q pts) dr f fm d (md 1 d2 c m2) (m2+1) a 457) (la r (bh || dy pts 0) b pts L i m cap)else False))) (mc d2 cap2 m2 8 (∀a:Nat,∀c:E,cw c a (m2+1)→b9 (mw 2 d d2 c 460 m2) R (ku cr s w dg q dr f fm d (md 2 d2 c m2) (m2+1) a 460) (av 3::dq r b (B bh::a9 400 m cap::bv L i) (ay pts)))) (mc d2 cap2 m2 8 (∀a:Nat,∀c:E,cw c a (m2+1)→b9 (mw 5 d d2 c 463 m2) R (ku cr s (aw w) dg q dr f fm d (md 5 d2 c m2) (m2+1) a 463) (la r bh b pts L i m cap))) (mc d2 cap2 m2 8 (∀a:Nat,∀c:E,cw c a (m2+1)→b9 (mw 4 d d2 c 474 m2) R (ku cr s (aw w) dg q dr f fm d (md 4 d2 c m2) (m2+1) a 474) (la r bh b pts L i m cap))) (mc d2 cap2 m2 8 (∀a:Nat,∀c:E,cw c a (m2+1)→b9 (mw 3 d d2 c 474 m2) R (ku cr s (aw w) dg q dr f fm d (md 3 d2 c m2) (m2+1) a 474) (la r bh b pts L i m cap)))) False (R (.exit 0) (l0 r b pts (bw L i) 400 m cap (B bh)) (ku cr s w dg q dr f fm d d2 m2 cap2 401))):=by kernel_rfl
theorem l133_0:LOKf Tryz.prog (oneL 0 S133_0.hA) Tryz.f245:=by
 refine jbo (h:=S133_0.hA) (by kernel_rfl) (jbr ok_G22 hmix (by kernel_rfl) (ja7 _) S133_0 V133_0 B133_0 (fun(b,r,pts,bh,d,m,cap,L,i,s,w,dg,q,o,dr,f,cr,fm)=>(m-i).toNat) ?_ ?_ ?_)
 ·intro vs bs s h;simp only[S133_0]at h;split at h
  all_goals first | (cases h;exact⟨rfl,rfl⟩) | cases h | (split at h<;>first | (rename_i hq;cases h;have hq:=jah hq;subst hq;exact⟨rfl,rfl⟩) | cases h)
 ·exact fun⟨b,r,pts,bh,d,m,cap,L,i,s,w,dg,q,o,dr,f,cr,fm⟩ hp=>by
   simp only[S133_0,jaf]at hp;have hv:=jcx.1 hp.2.1;cases o with
   | nil=>simp[V133_0,B133_0,S133_0,ja0,jbz,idsL,ids,Rw.v,Rw.bi,jaq hv.plain]
   | own d2 m2 cap2=>simp[V133_0,B133_0,S133_0,ja0,jbz,idsL,ids,Rw.v,Rw.bi,jaq hv.plain,jaq (jaw.1 hp.1).plain]
 ·intro⟨b,r,pts,bh,d,m,cap,L,i,s,w,dg,q,o,dr,f,cr,fm⟩ jk Z hp hf;simp only[S133_0]at hp hf;cases o with
  | nil=>
   rw[r133_0n];delta cq ar d5 kc ax ak ao im dq dv a9 av l0 bw cl lh az f8 dp io ew qc b9 kf rn kg ku jp qd cw oo aw ay bv la dy d8 fp f9 b7;simp only[jaf,jae]at hp;obtain⟨-,hV,hp⟩:=hp;have hv:=jcx.1 hV;simp only[Rw.z,List.length_nil]at hp hf;have k1:bz ⟨#[57,89,84,73,82]⟩=[57,89,84,73,82]:=rfl;have e0:0+i.toNat*1=i.toNat:=by omega
   rw[k1,e0];apply cond_intro<;>intro h
   ·have h:=jab h;obtain⟨a1,a2,a3⟩:=hv.at hp.1 (by omega);rw[a3]at hf;rw[a1,w64 (n:=i+1) (by omega)];generalize jau d i.toNat=c at*;refine c_t (jaa (by omega)) (c_t rfl (c_t (jaa a2) ?_));rw[jkq];refine cond_intro (fun q0=> ?_) (fun q0=>c_t (by simp) (cond_intro (fun q1=> ?_) (fun q1=>cond_intro (fun q2=> ?_) (fun q2=>cond_intro (fun q3=> ?_) (fun q3=>c_t (by simp) (cond_intro (fun q4=> ?_) (fun q4=> ?_)))))))
    ·have e:roP dr f c i=0:=by
      unfold roP;rw[q0];rfl
     rw[jbk,e]at hf;intro cap1 tail ht;obtain⟨h1,h2⟩:RowI (Value.int IntKind.i64 0::tail) 1 cap1∧zc (Value.int IntKind.i64 0::tail) 1=[0]:=jfi [0] ht;have hl1:=jbj h1;generalize Value.int IntKind.i64 0::tail=d' at*;refine c_t (by rw[goodL_plain hv.plain,goodL_plain h1.plain];rfl) ?_;rw[hv.rlb,rlbL_plain _ h1.plain];rw[w64 (n:=w+1) (by omega)];rw[w64 (n:=dg+1) (by omega)];rw[w64 (n:=q+pts) (by omega)];rw[w64 (n:=fm+1) (by omega)];exact⟨(b,r,pts,bh,d,m,cap,L,i+1,s,w+1,dg+1,q+pts,.own d' (1) cap1,dr,f,cr,fm+1),rfl,rfl,by simp only[S133_0,jaf,jae];exact⟨jaw.2 h1,hV,by simp only[Rw.z,hl1];omega⟩,by simp only;omega,by simp only[S133_0];refine jg5 hf ?_ (fun g=>g);rintro ⟨-,g⟩;exact⟨fun q=>(by cases q),fun pts' bh' w' dg' q' fm' d'' m'' cap'' g1 g2 g3=>g pts' bh' w' dg' q' fm' d'' m'' cap'' g1 (by rw[g2];simp[Rw.z,h2]) g3⟩⟩
    ·have e:roP dr f c i=1:=by
      unfold roP;rw[q0,q1];rfl
     rw[jbk,e]at hf;intro cap1 tail ht;obtain⟨h1,h2⟩:RowI (Value.int IntKind.i64 1::tail) 1 cap1∧zc (Value.int IntKind.i64 1::tail) 1=[1]:=jfi [1] ht;have hl1:=jbj h1;generalize Value.int IntKind.i64 1::tail=d' at*;have e2:plGo (1::jbk dr f (List.drop (i+1).toNat (zc d m)) (i+1)) ⟨pts,bh,w,dg,q,fm⟩=bif decide (fm>0)then(false,⟨pts,bh,w,dg,q,fm⟩)else plGo (jbk dr f (List.drop (i+1).toNat (zc d m)) (i+1)) ⟨pts,bh || decide (pts>0),w+1,dg+1,q+pts,fm⟩:=rfl;rw[e2]at hf;refine cond_intro (fun z=>c_t (by rw[goodL_plain hv.plain,goodL_plain h1.plain];rfl) ?_) (fun z=>c_t (by simp) ?_)
     ·rw[hv.rlb,rlbL_plain _ h1.plain];rw[z,cond_true]at hf;exact hf _ _ _ _ _ _ _ d' _ _ (jaw.2 h1)
     ·rw[z,cond_false]at hf;refine c_t (by rw[goodL_plain hv.plain,goodL_plain h1.plain];rfl) ?_;rw[hv.rlb,rlbL_plain _ h1.plain];rw[w64 (n:=w+1) (by omega)];rw[w64 (n:=dg+1) (by omega)];rw[w64 (n:=q+pts) (by omega)];exact⟨(b,r,pts,bh || decide (pts>0),d,m,cap,L,i+1,s,w+1,dg+1,q+pts,.own d' (1) cap1,dr,f,cr,fm),rfl,rfl,by simp only[S133_0,jaf,jae];exact⟨jaw.2 h1,hV,by simp only[Rw.z,hl1];omega⟩,by simp only;omega,by simp only[S133_0];refine jg5 hf ?_ (fun g=>g);rintro ⟨-,g⟩;exact⟨fun q=>(by cases q),fun pts' bh' w' dg' q' fm' d'' m'' cap'' g1 g2 g3=>g pts' bh' w' dg' q' fm' d'' m'' cap'' g1 (by rw[g2];simp[Rw.z,h2]) g3⟩⟩
    ·have e:roP dr f c i=2:=by
      unfold roP;rw[q0,q1,q2];rfl
     rw[jbk,e]at hf;intro cap1 tail ht;obtain⟨h1,h2⟩:RowI (Value.int IntKind.i64 2::tail) 1 cap1∧zc (Value.int IntKind.i64 2::tail) 1=[2]:=jfi [2] ht;have hl1:=jbj h1;generalize Value.int IntKind.i64 2::tail=d' at*;refine c_t (by rw[goodL_plain hv.plain,goodL_plain h1.plain];rfl) ?_;rw[hv.rlb,rlbL_plain _ h1.plain];rw[w64 (n:=pts+1) (by omega)];exact⟨(b,r,pts+1,bh,d,m,cap,L,i+1,s,w,dg,q,.own d' (1) cap1,dr,f,cr,fm),rfl,rfl,by simp only[S133_0,jaf,jae];exact⟨jaw.2 h1,hV,by simp only[Rw.z,hl1];omega⟩,by simp only;omega,by simp only[S133_0];refine jg5 hf ?_ (fun g=>g);rintro ⟨-,g⟩;exact⟨fun q=>(by cases q),fun pts' bh' w' dg' q' fm' d'' m'' cap'' g1 g2 g3=>g pts' bh' w' dg' q' fm' d'' m'' cap'' g1 (by rw[g2];simp[Rw.z,h2]) g3⟩⟩
    ·have e:roP dr f c i=5:=by
      unfold roP;rw[q0,q1,q2,q3];rfl
     rw[jbk,e]at hf;intro cap1 tail ht;obtain⟨h1,h2⟩:RowI (Value.int IntKind.i64 5::tail) 1 cap1∧zc (Value.int IntKind.i64 5::tail) 1=[5]:=jfi [5] ht;have hl1:=jbj h1;generalize Value.int IntKind.i64 5::tail=d' at*;refine c_t (by rw[goodL_plain hv.plain,goodL_plain h1.plain];rfl) ?_;rw[hv.rlb,rlbL_plain _ h1.plain];rw[w64 (n:=w+1) (by omega)];exact⟨(b,r,pts,bh,d,m,cap,L,i+1,s,w+1,dg,q,.own d' (1) cap1,dr,f,cr,fm),rfl,rfl,by simp only[S133_0,jaf,jae];exact⟨jaw.2 h1,hV,by simp only[Rw.z,hl1];omega⟩,by simp only;omega,by simp only[S133_0];refine jg5 hf ?_ (fun g=>g);rintro ⟨-,g⟩;exact⟨fun q=>(by cases q),fun pts' bh' w' dg' q' fm' d'' m'' cap'' g1 g2 g3=>g pts' bh' w' dg' q' fm' d'' m'' cap'' g1 (by rw[g2];simp[Rw.z,h2]) g3⟩⟩
    ·have e:roP dr f c i=4:=by
      unfold roP;rw[q0,q1,q2,q3,q4];rfl
     rw[jbk,e]at hf;intro cap1 tail ht;obtain⟨h1,h2⟩:RowI (Value.int IntKind.i64 4::tail) 1 cap1∧zc (Value.int IntKind.i64 4::tail) 1=[4]:=jfi [4] ht;have hl1:=jbj h1;generalize Value.int IntKind.i64 4::tail=d' at*;refine c_t (by rw[goodL_plain hv.plain,goodL_plain h1.plain];rfl) ?_;rw[hv.rlb,rlbL_plain _ h1.plain];rw[w64 (n:=w+1) (by omega)];exact⟨(b,r,pts,bh,d,m,cap,L,i+1,s,w+1,dg,q,.own d' (1) cap1,dr,f,cr,fm),rfl,rfl,by simp only[S133_0,jaf,jae];exact⟨jaw.2 h1,hV,by simp only[Rw.z,hl1];omega⟩,by simp only;omega,by simp only[S133_0];refine jg5 hf ?_ (fun g=>g);rintro ⟨-,g⟩;exact⟨fun q=>(by cases q),fun pts' bh' w' dg' q' fm' d'' m'' cap'' g1 g2 g3=>g pts' bh' w' dg' q' fm' d'' m'' cap'' g1 (by rw[g2];simp[Rw.z,h2]) g3⟩⟩
    ·have e:roP dr f c i=3:=by
      unfold roP;rw[q0,q1,q2,q3,q4];rfl
     rw[jbk,e]at hf;intro cap1 tail ht;obtain⟨h1,h2⟩:RowI (Value.int IntKind.i64 3::tail) 1 cap1∧zc (Value.int IntKind.i64 3::tail) 1=[3]:=jfi [3] ht;have hl1:=jbj h1;generalize Value.int IntKind.i64 3::tail=d' at*;refine c_t (by rw[goodL_plain hv.plain,goodL_plain h1.plain];rfl) ?_;rw[hv.rlb,rlbL_plain _ h1.plain];rw[w64 (n:=w+1) (by omega)];exact⟨(b,r,pts,bh,d,m,cap,L,i+1,s,w+1,dg,q,.own d' (1) cap1,dr,f,cr,fm),rfl,rfl,by simp only[S133_0,jaf,jae];exact⟨jaw.2 h1,hV,by simp only[Rw.z,hl1];omega⟩,by simp only;omega,by simp only[S133_0];refine jg5 hf ?_ (fun g=>g);rintro ⟨-,g⟩;exact⟨fun q=>(by cases q),fun pts' bh' w' dg' q' fm' d'' m'' cap'' g1 g2 g3=>g pts' bh' w' dg' q' fm' d'' m'' cap'' g1 (by rw[g2];simp[Rw.z,h2]) g3⟩⟩
   ·have h:=jac h;rw[hv.end (by omega),jbk,plGo,cond_true]at hf;obtain rfl:i=m:=by omega
    refine c_t (by rw[goodL_plain hv.plain];rfl) ?_;rw[hv.rlb];exact hf.1 rfl rfl
  | own d2 m2 cap2=>
   rw[r133_0o];delta cq ar d5 kf kc rn ax ak ao im dv kg ku dq a9 av l0 bw cl lh az f8 dp io ew qc iq gn mc b9 aw ay bv la gq md jp mw cw dy d8 fp b7;simp only[jaf,jae]at hp;obtain⟨hR,hV,hp⟩:=hp;have hv:=jcx.1 hV;have hr:=jaw.1 hR;have hzl:=jbj hr;simp only[Rw.z,hzl]at hp hf;have k1:bz ⟨#[57,89,84,73,82]⟩=[57,89,84,73,82]:=rfl;have e0:0+i.toNat*1=i.toNat:=by omega
   rw[k1,e0];apply cond_intro<;>intro h
   ·have h:=jab h;obtain⟨a1,a2,a3⟩:=hv.at hp.1 (by omega);rw[a3]at hf;rw[a1,w64 (n:=i+1) (by omega)];generalize jau d i.toNat=c at*;refine c_t (jaa (by omega)) (c_t rfl (c_t (jaa a2) ?_));rw[jkq];refine cond_intro (fun q0=> ?_) (fun q0=>c_t (by simp) (cond_intro (fun q1=> ?_) (fun q1=>cond_intro (fun q2=> ?_) (fun q2=>cond_intro (fun q3=> ?_) (fun q3=>c_t (by simp) (cond_intro (fun q4=> ?_) (fun q4=> ?_)))))))
    ·have e:roP dr f c i=0:=by
      unfold roP;rw[q0];rfl
     rw[jbk,e]at hf;refine c_t (hr.ask (k:=1) (by omega)) (fun cap1 tail ht=> ?_);obtain⟨h1,h2⟩:=hr.app1 0 ht;have hl1:=jbj h1;generalize List.take (m2*1) d2++ [Value.int IntKind.i64 0]++tail=d' at*;refine c_t (by rw[goodL_plain hv.plain,goodL_plain h1.plain];rfl) ?_;rw[hv.rlb,rlbL_plain _ h1.plain];rw[w64 (n:=w+1) (by omega)];rw[w64 (n:=dg+1) (by omega)];rw[w64 (n:=q+pts) (by omega)];rw[w64 (n:=fm+1) (by omega)];exact⟨(b,r,pts,bh,d,m,cap,L,i+1,s,w+1,dg+1,q+pts,.own d' (m2+1) cap1,dr,f,cr,fm+1),rfl,rfl,by simp only[S133_0,jaf,jae];exact⟨jaw.2 h1,hV,by simp only[Rw.z,hl1];omega⟩,by simp only;omega,by simp only[S133_0];refine jg5 hf ?_ (fun g=>g);rintro ⟨-,g⟩;exact⟨fun q=>(by cases q),fun pts' bh' w' dg' q' fm' d'' m'' cap'' g1 g2 g3=>g pts' bh' w' dg' q' fm' d'' m'' cap'' g1 (by rw[g2];simp[Rw.z,h2]) g3⟩⟩
    ·have e:roP dr f c i=1:=by
      unfold roP;rw[q0,q1];rfl
     rw[jbk,e]at hf;refine c_t (hr.ask (k:=1) (by omega)) (fun cap1 tail ht=> ?_);obtain⟨h1,h2⟩:=hr.app1 1 ht;have hl1:=jbj h1;generalize List.take (m2*1) d2++ [Value.int IntKind.i64 1]++tail=d' at*;have e2:plGo (1::jbk dr f (List.drop (i+1).toNat (zc d m)) (i+1)) ⟨pts,bh,w,dg,q,fm⟩=bif decide (fm>0)then(false,⟨pts,bh,w,dg,q,fm⟩)else plGo (jbk dr f (List.drop (i+1).toNat (zc d m)) (i+1)) ⟨pts,bh || decide (pts>0),w+1,dg+1,q+pts,fm⟩:=rfl;rw[e2]at hf;refine cond_intro (fun z=>c_t (by rw[goodL_plain hv.plain,goodL_plain h1.plain];rfl) ?_) (fun z=>c_t (by simp) ?_)
     ·rw[hv.rlb,rlbL_plain _ h1.plain];rw[z,cond_true]at hf;exact hf _ _ _ _ _ _ _ d' _ _ (jaw.2 h1)
     ·rw[z,cond_false]at hf;refine c_t (by rw[goodL_plain hv.plain,goodL_plain h1.plain];rfl) ?_;rw[hv.rlb,rlbL_plain _ h1.plain];rw[w64 (n:=w+1) (by omega)];rw[w64 (n:=dg+1) (by omega)];rw[w64 (n:=q+pts) (by omega)];exact⟨(b,r,pts,bh || decide (pts>0),d,m,cap,L,i+1,s,w+1,dg+1,q+pts,.own d' (m2+1) cap1,dr,f,cr,fm),rfl,rfl,by simp only[S133_0,jaf,jae];exact⟨jaw.2 h1,hV,by simp only[Rw.z,hl1];omega⟩,by simp only;omega,by simp only[S133_0];refine jg5 hf ?_ (fun g=>g);rintro ⟨-,g⟩;exact⟨fun q=>(by cases q),fun pts' bh' w' dg' q' fm' d'' m'' cap'' g1 g2 g3=>g pts' bh' w' dg' q' fm' d'' m'' cap'' g1 (by rw[g2];simp[Rw.z,h2]) g3⟩⟩
    ·have e:roP dr f c i=2:=by
      unfold roP;rw[q0,q1,q2];rfl
     rw[jbk,e]at hf;refine c_t (hr.ask (k:=1) (by omega)) (fun cap1 tail ht=> ?_);obtain⟨h1,h2⟩:=hr.app1 2 ht;have hl1:=jbj h1;generalize List.take (m2*1) d2++ [Value.int IntKind.i64 2]++tail=d' at*;refine c_t (by rw[goodL_plain hv.plain,goodL_plain h1.plain];rfl) ?_;rw[hv.rlb,rlbL_plain _ h1.plain];rw[w64 (n:=pts+1) (by omega)];exact⟨(b,r,pts+1,bh,d,m,cap,L,i+1,s,w,dg,q,.own d' (m2+1) cap1,dr,f,cr,fm),rfl,rfl,by simp only[S133_0,jaf,jae];exact⟨jaw.2 h1,hV,by simp only[Rw.z,hl1];omega⟩,by simp only;omega,by simp only[S133_0];refine jg5 hf ?_ (fun g=>g);rintro ⟨-,g⟩;exact⟨fun q=>(by cases q),fun pts' bh' w' dg' q' fm' d'' m'' cap'' g1 g2 g3=>g pts' bh' w' dg' q' fm' d'' m'' cap'' g1 (by rw[g2];simp[Rw.z,h2]) g3⟩⟩
    ·have e:roP dr f c i=5:=by
      unfold roP;rw[q0,q1,q2,q3];rfl
     rw[jbk,e]at hf;refine c_t (hr.ask (k:=1) (by omega)) (fun cap1 tail ht=> ?_);obtain⟨h1,h2⟩:=hr.app1 5 ht;have hl1:=jbj h1;generalize List.take (m2*1) d2++ [Value.int IntKind.i64 5]++tail=d' at*;refine c_t (by rw[goodL_plain hv.plain,goodL_plain h1.plain];rfl) ?_;rw[hv.rlb,rlbL_plain _ h1.plain];rw[w64 (n:=w+1) (by omega)];exact⟨(b,r,pts,bh,d,m,cap,L,i+1,s,w+1,dg,q,.own d' (m2+1) cap1,dr,f,cr,fm),rfl,rfl,by simp only[S133_0,jaf,jae];exact⟨jaw.2 h1,hV,by simp only[Rw.z,hl1];omega⟩,by simp only;omega,by simp only[S133_0];refine jg5 hf ?_ (fun g=>g);rintro ⟨-,g⟩;exact⟨fun q=>(by cases q),fun pts' bh' w' dg' q' fm' d'' m'' cap'' g1 g2 g3=>g pts' bh' w' dg' q' fm' d'' m'' cap'' g1 (by rw[g2];simp[Rw.z,h2]) g3⟩⟩
    ·have e:roP dr f c i=4:=by
      unfold roP;rw[q0,q1,q2,q3,q4];rfl
     rw[jbk,e]at hf;refine c_t (hr.ask (k:=1) (by omega)) (fun cap1 tail ht=> ?_);obtain⟨h1,h2⟩:=hr.app1 4 ht;have hl1:=jbj h1;generalize List.take (m2*1) d2++ [Value.int IntKind.i64 4]++tail=d' at*;refine c_t (by rw[goodL_plain hv.plain,goodL_plain h1.plain];rfl) ?_;rw[hv.rlb,rlbL_plain _ h1.plain];rw[w64 (n:=w+1) (by omega)];exact⟨(b,r,pts,bh,d,m,cap,L,i+1,s,w+1,dg,q,.own d' (m2+1) cap1,dr,f,cr,fm),rfl,rfl,by simp only[S133_0,jaf,jae];exact⟨jaw.2 h1,hV,by simp only[Rw.z,hl1];omega⟩,by simp only;omega,by simp only[S133_0];refine jg5 hf ?_ (fun g=>g);rintro ⟨-,g⟩;exact⟨fun q=>(by cases q),fun pts' bh' w' dg' q' fm' d'' m'' cap'' g1 g2 g3=>g pts' bh' w' dg' q' fm' d'' m'' cap'' g1 (by rw[g2];simp[Rw.z,h2]) g3⟩⟩
    ·have e:roP dr f c i=3:=by
      unfold roP;rw[q0,q1,q2,q3,q4];rfl
     rw[jbk,e]at hf;refine c_t (hr.ask (k:=1) (by omega)) (fun cap1 tail ht=> ?_);obtain⟨h1,h2⟩:=hr.app1 3 ht;have hl1:=jbj h1;generalize List.take (m2*1) d2++ [Value.int IntKind.i64 3]++tail=d' at*;refine c_t (by rw[goodL_plain hv.plain,goodL_plain h1.plain];rfl) ?_;rw[hv.rlb,rlbL_plain _ h1.plain];rw[w64 (n:=w+1) (by omega)];exact⟨(b,r,pts,bh,d,m,cap,L,i+1,s,w+1,dg,q,.own d' (m2+1) cap1,dr,f,cr,fm),rfl,rfl,by simp only[S133_0,jaf,jae];exact⟨jaw.2 h1,hV,by simp only[Rw.z,hl1];omega⟩,by simp only;omega,by simp only[S133_0];refine jg5 hf ?_ (fun g=>g);rintro ⟨-,g⟩;exact⟨fun q=>(by cases q),fun pts' bh' w' dg' q' fm' d'' m'' cap'' g1 g2 g3=>g pts' bh' w' dg' q' fm' d'' m'' cap'' g1 (by rw[g2];simp[Rw.z,h2]) g3⟩⟩
   ·have h:=jac h;rw[hv.end (by omega),jbk,plGo,cond_true]at hf;obtain rfl:i=m:=by omega
    refine c_t (by rw[goodL_plain hv.plain,goodL_plain hr.plain];rfl) ?_;rw[hv.rlb,rlbL_plain _ hr.plain];exact hf.2 pts bh w dg q fm d2 m2 cap2 hR (by simp) rfl
theorem fn133:Fn1 Tryz.prog 245 Tryz.f245:= .m Tryz.func245
def G23:Env:=Env.nil.add 272 (sp2 s141)
theorem ok_G23:jax Tryz.prog G23:=jak jan ok141
theorem at_ints:∀{d:E}{n j:Nat},jfb (d.take n)=true→j<n→n≤d.length→jby .i64 d j=true∧jau d j=(d.map iv).getD j 0
 | .int .i64 k::r,n+1,0,_,_,_=>⟨rfl,rfl⟩
 | .int .i64 k::r,n+1,j+1,h,hj,hn=>by
  have:=at_ints (d:=r) (n:=n) (j:=j) (by simpa[jfb]using h) (by omega) (by simpa using hn);simpa[jby,jau]using this
 | [],n+1,j,_,hj,hn=>by simp at hn
 | .bool _::r,n+1,j,h,_,_ | .string _::r,n+1,j,h,_,_ | .float _ _::r,n+1,j,h,_,_ | .complex _ _ _::r,n+1,j,h,_,_ | .pointer _::r,n+1,j,h,_,_ | .slice _ _ _::r,n+1,j,h,_,_
 | .agg _::r,n+1,j,h,_,_ | .tuple _::r,n+1,j,h,_,_ | .iface _ _::r,n+1,j,h,_,_ | .func _ _ _::r,n+1,j,h,_,_ | .map _::r,n+1,j,h,_,_ | .chan _::r,n+1,j,h,_,_ | .nilFunc::r,n+1,j,h,_,_ | .nilIface::r,n+1,j,h,_,_=>by
  simp[jfb]at h
 | .int .i8 _::r,n+1,j,h,_,_ | .int .i16 _::r,n+1,j,h,_,_ | .int .i32 _::r,n+1,j,h,_,_ | .int .u8 _::r,n+1,j,h,_,_ | .int .u16 _::r,n+1,j,h,_,_ | .int .u32 _::r,n+1,j,h,_,_ | .int .u64 _::r,n+1,j,h,_,_=>by
  simp[jfb]at h
theorem RowI.at{d:E}{m cap:Nat}(h:RowI d m cap){j:Int}(h0:0≤j)(hj:j<m):jby .i64 d j.toNat=true∧(zc d m).drop j.toNat=jau d j.toNat::(zc d m).drop (j+1).toNat:=by
 have hl:=h.len;have hle:=h.le;obtain⟨q1,q2⟩:=at_ints h.bytes (j:=j.toNat) (by omega) (by omega);refine⟨q1,?_⟩;rw[jei (zc d m) _ (by rw[jbj h];omega),show(j+1).toNat=j.toNat+1 by omega,q2];congr 1;simp only[zc,List.getD_eq_getElem?_getD,List.getElem?_map,List.getElem?_take];rw[if_pos (by omega)]
theorem RowI.end{d:E}{m cap:Nat}(h:RowI d m cap){j:Int}(hj:(m:Int)≤j):(zc d m).drop j.toNat=[]:=List.drop_eq_nil_of_le (by rw[jbj h];omega)
def loGo(f:Int):J→Int→Int→Int
 | [],_,a=>a
 | r::rs,i,a=>loGo f rs (i+1) (bif r==0 || (r==1 || i==f)then imin a i else a)
def hiGo(f:Int):J→Int→Int→Int
 | [],_,a=>a
 | r::rs,i,a=>hiGo f rs (i+1) (bif r==0 || (r==1 || i==f)then imax a i else a)
def stP(f lo hi:Int):J→Int→Bool
 | [],_=>true
 | r::rs,i=> !((r==4 || r==5) && (i !=f&& (decide (i>lo) &&decide (i<hi)))) &&stP f lo hi rs (i+1)
def siGo:J→J→Int
 | c::cs,r::rs=>(bif r==4 || hasZ [84,73,82] c then 1 else 0)+siGo cs rs
 | _,_=>0
def V134_0:Y×Bool×Int×Int×Nat×Nat×Int×Int×Y×Int×Int×Int×E×Nat×Nat×Int×Int×Bool×Int→E:=fun(b,r,lo,hi,m3,cap3,L,i,s,w,dg,q,d2,m2,cap2,dr,f,cr,fm)=> [.pointer (some ⟨3,0,some 0⟩),S b,B r,I lo,I hi,.slice (some ⟨401,0,some 1⟩) m3 cap3,I L,I i]
def B134_0:Y×Bool×Int×Int×Nat×Nat×Int×Int×Y×Int×Int×Int×E×Nat×Nat×Int×Int×Bool×Int→O:=fun(b,r,lo,hi,m3,cap3,L,i,s,w,dg,q,d2,m2,cap2,dr,f,cr,fm)=> [some ⟨[.string s,.bool true,.int .i64 w,.int .i64 dg,.int .i64 q,.bool false,.slice (some ⟨401,0,some 1⟩) m2 cap2,.int .u8 dr,.int .i64 f,.bool cr,.int .u8 32,.int .i64 fm],156,true⟩,some ⟨d2,251,true⟩]
def S134_0:LSpecA (Y×Bool×Int×Int×Nat×Nat×Int×Int×Y×Int×Int×Int×E×Nat×Nat×Int×Int×Bool×Int) where
 live:=[0,1,4,5,6,16,17,18]
 mid:=[3,401]
 n:=520
 ap:=[]
 dec vs bs:=match vs,bs with | [.pointer (some ⟨3,0,some 0⟩),.string b,.bool r,.int .i64 lo,.int .i64 hi,.slice (some ⟨401,0,some 1⟩) m3 cap3,.int .i64 L,.int .i64 i],[some ⟨[.string s,.bool true,.int .i64 w,.int .i64 dg,.int .i64 q,.bool false,.slice (some ⟨401,0,some 1⟩) m2 cap2,.int .u8 dr,.int .i64 f,.bool cr,.int .u8 32,.int .i64 fm],156,true⟩,some ⟨d2,251,true⟩]=>some (b,r,lo,hi,m3,cap3,L,i,s,w,dg,q,d2,m2,cap2,dr,f,cr,fm) | _,_=>none
 pre:=fun(b,r,lo,hi,m3,cap3,L,i,s,w,dg,q,d2,m2,cap2,dr,f,cr,fm)=>jbu d2 m2 cap2&&decide (0≤i∧i≤m2∧m2≤1000∧L=m2∧m3=m2)
 fin:=fun(b,r,lo,hi,m3,cap3,L,i,s,w,dg,q,d2,m2,cap2,dr,f,cr,fm) Z=>∀lo' hi',loGo f ((zc d2 m2).drop i.toNat) i lo=lo'→hiGo f ((zc d2 m2).drop i.toNat) i hi=hi'→Z (.exit 0) [.pointer (some ⟨3,0,some 0⟩),S b,B r,I lo',I hi',.slice (some ⟨401,0,some 1⟩) m3 cap3,I L,I m2] [some ⟨[.string s,.bool true,.int .i64 w,.int .i64 dg,.int .i64 q,.bool false,.slice (some ⟨401,0,some 1⟩) m2 cap2,.int .u8 dr,.int .i64 f,.bool cr,.int .u8 32,.int .i64 fm],156,true⟩,some ⟨d2,251,true⟩]
def lb(f:Exit→E→O→Prop)(a b:Int)(k:O)(d h:E)(c g:Nat)(i j:Option Blk)(e:Prop):Prop:=d5 (b7 a b) (cl a (c:Int)) (ip d) (bif jby .i64 d (dp a)then e else False) False (f (.exit g) h (i::j::k))
theorem r134_0(b:Y)(r:Bool)(lo:Int)(hi:Int)(m3:Nat)(cap3:Nat)(L:Int)(i:Int)(s:Y)(w:Int)(dg:Int)(q:Int)(d2:E)(m2:Nat)(cap2:Nat)(dr:Int)(f:Int)(cr:Bool)(fm:Int)(jk:Tmps)(R:Exit→E→O→Prop):(jbv Tryz.prog G23 noL Tryz.f246.ntmps (ja9 Tryz.f246 0) (tl S134_0.live (V134_0 (b,r,lo,hi,m3,cap3,L,i,s,w,dg,q,d2,m2,cap2,dr,f,cr,fm)) jk) (ml S134_0.mid (B134_0 (b,r,lo,hi,m3,cap3,L,i,s,w,dg,q,d2,m2,cap2,dr,f,cr,fm))) S134_0.n fun e t' m' _=>S134_0.out R e t' m')=(lb R i L [] d2 (l0 r b lo (bw L i) 401 m3 cap3 (ak hi)) m3 0 (kg cr s w dg q dr f fm m2 cap2) (kf [] d2) (az (ew i 0 d2) (ew i 1 d2 || true) (ew i 0 d2 || (ew i 1 d2 || i==f)) (b9 (ip d2) R [kg cr s w dg q dr f fm m2 cap2,kf [] d2] (av 3::dq r b (I (imax hi i)::a9 401 m3 cap3::bv L i) (I (imin lo i)))) (b9 (ip d2) R [kg cr s w dg q dr f fm m2 cap2,kf [] d2] (l0 r b lo (bv L i) 401 m3 cap3 (ak hi))))):=by kernel_rfl
theorem l134_0:∀t m n K,S134_0.hA t m n K→Ab.Sem Tryz.prog Tryz.f246.ntmps (.loop (ja9 Tryz.f246 0)) t m n K:=by
 refine jbr ok_G23 hmix (by kernel_rfl) (ja7 _) S134_0 V134_0 B134_0 (fun(b,r,lo,hi,m3,cap3,L,i,s,w,dg,q,d2,m2,cap2,dr,f,cr,fm)=>(m2-i).toNat) ?_ ?_ ?_
 ·intro vs bs s h;simp only[S134_0]at h;split at h
  all_goals first | (cases h;exact⟨rfl,rfl⟩) | cases h | (split at h<;>first | (rename_i hq;cases h;have hq:=jah hq;subst hq;exact⟨rfl,rfl⟩) | cases h)
 ·exact fun⟨b,r,lo,hi,m3,cap3,L,i,s,w,dg,q,d2,m2,cap2,dr,f,cr,fm⟩ hp=>by
   simp only[S134_0,jaf]at hp;have hr:=jaw.1 hp.1;simp[V134_0,B134_0,S134_0,ja0,jbz,idsL,ids,jaq hr.plain]
 ·intro⟨b,r,lo,hi,m3,cap3,L,i,s,w,dg,q,d2,m2,cap2,dr,f,cr,fm⟩ jk Z hp hf;rw[r134_0];delta cq ar d5 dp ip cl b7 lb az b9 dq ak dv a9 av l0 aw ay bv kf ax ao im kg io ew bw;simp only[S134_0]at hp hf;simp only[jaf,jae]at hp;obtain⟨hR,hp⟩:=hp;have hr:=jaw.1 hR;have hzl:=jbj hr;have e0:0+i.toNat*1=i.toNat:=by omega
  rw[e0];simp only[hr.rlb];have hg:∀ps,(jav ps d2&&true&&true)=true:=fun ps=>by rw[hr.good];rfl
  apply cond_intro<;>intro h
  ·have h:=jab h;obtain⟨a1,a3⟩:=hr.at hp.1 (by omega);rw[a3,loGo,hiGo]at hf;rw[a1,w64 (n:=i+1) (by omega)];generalize jau d2 i.toNat=c at*;refine c_t (jaa (by omega)) (c_t rfl (c_t (by simp) (cond_intro (fun z=>c_t (hg _) ?_) (fun z=>c_t (hg _) ?_))))
   ·rw[z,cond_true,cond_true]at hf;exact⟨(b,r,imin lo i,imax hi i,m3,cap3,L,i+1,s,w,dg,q,d2,m2,cap2,dr,f,cr,fm),rfl,rfl,by simp only[S134_0,jaf,jae];exact⟨hR,by omega⟩,by simp only;omega,hf⟩
   ·rw[z,cond_false,cond_false]at hf;exact⟨(b,r,lo,hi,m3,cap3,L,i+1,s,w,dg,q,d2,m2,cap2,dr,f,cr,fm),rfl,rfl,by simp only[S134_0,jaf,jae];exact⟨hR,by omega⟩,by simp only;omega,hf⟩
  ·have h:=jac h;rw[hr.end (by omega),loGo,hiGo]at hf;obtain rfl:i=m2:=by omega
   exact c_t (hg _) (hf lo hi rfl rfl)
def V134_2:Y×Bool×Int×Int×Nat×Nat×Int×Int×Y×Int×Int×Int×E×Nat×Nat×Int×Int×Bool×Int→E:=fun(b,r,lo,hi,m3,cap3,L,i,s,w,dg,q,d2,m2,cap2,dr,f,cr,fm)=> [.pointer (some ⟨3,0,some 0⟩),S b,B r,I lo,I hi,.slice (some ⟨401,0,some 1⟩) m3 cap3,I L,I i]
def B134_2:Y×Bool×Int×Int×Nat×Nat×Int×Int×Y×Int×Int×Int×E×Nat×Nat×Int×Int×Bool×Int→O:=fun(b,r,lo,hi,m3,cap3,L,i,s,w,dg,q,d2,m2,cap2,dr,f,cr,fm)=> [some ⟨[.string s,.bool true,.int .i64 w,.int .i64 dg,.int .i64 q,.bool false,.slice (some ⟨401,0,some 1⟩) m2 cap2,.int .u8 dr,.int .i64 f,.bool cr,.int .u8 32,.int .i64 fm],156,true⟩,some ⟨d2,251,true⟩]
def S134_2:LSpecA (Y×Bool×Int×Int×Nat×Nat×Int×Int×Y×Int×Int×Int×E×Nat×Nat×Int×Int×Bool×Int) where
 live:=[0,1,4,5,6,47,48,49]
 mid:=[3,401]
 n:=560
 ap:=[]
 dec vs bs:=match vs,bs with | [.pointer (some ⟨3,0,some 0⟩),.string b,.bool r,.int .i64 lo,.int .i64 hi,.slice (some ⟨401,0,some 1⟩) m3 cap3,.int .i64 L,.int .i64 i],[some ⟨[.string s,.bool true,.int .i64 w,.int .i64 dg,.int .i64 q,.bool false,.slice (some ⟨401,0,some 1⟩) m2 cap2,.int .u8 dr,.int .i64 f,.bool cr,.int .u8 32,.int .i64 fm],156,true⟩,some ⟨d2,251,true⟩]=>some (b,r,lo,hi,m3,cap3,L,i,s,w,dg,q,d2,m2,cap2,dr,f,cr,fm) | _,_=>none
 pre:=fun(b,r,lo,hi,m3,cap3,L,i,s,w,dg,q,d2,m2,cap2,dr,f,cr,fm)=>jbu d2 m2 cap2&&decide (0≤i∧i≤m2∧m2≤1000∧L=m2∧m3=m2)
 fin:=fun(b,r,lo,hi,m3,cap3,L,i,s,w,dg,q,d2,m2,cap2,dr,f,cr,fm) Z=>(bif stP f lo hi ((zc d2 m2).drop i.toNat) i then Z (.exit 2) [.pointer (some ⟨3,0,some 0⟩),S b,B r,I lo,I hi,.slice (some ⟨401,0,some 1⟩) m3 cap3,I L,I m2] [some ⟨[.string s,.bool true,.int .i64 w,.int .i64 dg,.int .i64 q,.bool false,.slice (some ⟨401,0,some 1⟩) m2 cap2,.int .u8 dr,.int .i64 f,.bool cr,.int .u8 32,.int .i64 fm],156,true⟩,some ⟨d2,251,true⟩]else∀i',Z .ret [.pointer (some ⟨3,0,some 0⟩),S b,B false,I lo,I hi,.slice (some ⟨401,0,some 1⟩) m3 cap3,I L,I i'] [some ⟨[.string s,.bool true,.int .i64 w,.int .i64 dg,.int .i64 q,.bool false,.slice (some ⟨401,0,some 1⟩) m2 cap2,.int .u8 dr,.int .i64 f,.bool cr,.int .u8 32,.int .i64 fm],156,true⟩,some ⟨d2,251,true⟩])
theorem r134_2(b:Y)(r:Bool)(lo:Int)(hi:Int)(m3:Nat)(cap3:Nat)(L:Int)(i:Int)(s:Y)(w:Int)(dg:Int)(q:Int)(d2:E)(m2:Nat)(cap2:Nat)(dr:Int)(f:Int)(cr:Bool)(fm:Int)(jk:Tmps)(R:Exit→E→O→Prop):(jbv Tryz.prog G23 noL Tryz.f246.ntmps (ja9 Tryz.f246 2) (tl S134_2.live (V134_2 (b,r,lo,hi,m3,cap3,L,i,s,w,dg,q,d2,m2,cap2,dr,f,cr,fm)) jk) (ml S134_2.mid (B134_2 (b,r,lo,hi,m3,cap3,L,i,s,w,dg,q,d2,m2,cap2,dr,f,cr,fm))) S134_2.n fun e t' m' _=>S134_2.out R e t' m')=(lb R i L [] d2 (l0 r b lo (bw L i) 401 m3 cap3 (ak hi)) m3 2 (kg cr s w dg q dr f fm m2 cap2) (kf [] d2) (bif bk (ew i 4 d2) (bif i !=f then dy i lo || true else true) (bif ew i 5 d2 then bif i !=f then dy i lo || true else true else true)then lp (bk (ew i 4 d2) (i !=f&& (dy i lo&&b7 i hi)) (ew i 5 d2&& (i !=f&& (dy i lo&&b7 i hi)))) (ip d2) R [kf [] d2] (ak lo::ak hi::fp L i 401 m3 cap3) (ak lo::ak hi::a9 401 m3 cap3::bv L i) (kg cr s w dg q dr f fm m2 cap2) (av 3) (S b) (B false) (av 3) (S b) (B r)else False)):=by kernel_rfl
theorem l134_2:∀t m n K,S134_2.hA t m n K→Ab.Sem Tryz.prog Tryz.f246.ntmps (.loop (ja9 Tryz.f246 2)) t m n K:=by
 refine jbr ok_G23 hmix (by kernel_rfl) (ja7 _) S134_2 V134_2 B134_2 (fun(b,r,lo,hi,m3,cap3,L,i,s,w,dg,q,d2,m2,cap2,dr,f,cr,fm)=>(m2-i).toNat) ?_ ?_ ?_
 ·intro vs bs s h;simp only[S134_2]at h;split at h
  all_goals first | (cases h;exact⟨rfl,rfl⟩) | cases h | (split at h<;>first | (rename_i hq;cases h;have hq:=jah hq;subst hq;exact⟨rfl,rfl⟩) | cases h)
 ·exact fun⟨b,r,lo,hi,m3,cap3,L,i,s,w,dg,q,d2,m2,cap2,dr,f,cr,fm⟩ hp=>by
   simp only[S134_2,jaf]at hp;have hr:=jaw.1 hp.1;simp[V134_2,B134_2,S134_2,ja0,jbz,idsL,ids,jaq hr.plain]
 ·intro⟨b,r,lo,hi,m3,cap3,L,i,s,w,dg,q,d2,m2,cap2,dr,f,cr,fm⟩ jk Z hp hf;rw[r134_2];delta cq ar d5 dp ip cl b7 lb b9 lp dv av ax ak ao im kg aw ay bv a9 bw fp kf bk dy io ew dq l0;simp only[S134_2]at hp hf;simp only[jaf,jae]at hp;obtain⟨hR,hp⟩:=hp;have hr:=jaw.1 hR;have hzl:=jbj hr;have e0:0+i.toNat*1=i.toNat:=by omega
  rw[e0];simp only[hr.rlb];have hg:∀ps,(jav ps d2&&true&&true)=true:=fun ps=>by rw[hr.good];rfl
  apply cond_intro<;>intro h
  ·have h:=jab h;obtain⟨a1,a3⟩:=hr.at hp.1 (by omega);rw[a3,stP]at hf;rw[a1,w64 (n:=i+1) (by omega)];generalize jau d2 i.toNat=c at*;have e:(bif c==4 then i !=f&& (decide (i>lo) &&decide (i<hi))else c==5&& (i !=f&& (decide (i>lo) &&decide (i<hi))))=((c==4 || c==5) && (i !=f&& (decide (i>lo) &&decide (i<hi)))):=by cases c==4<;>rfl
   rw[e];refine c_t (jaa (by omega)) (c_t rfl (c_t (by simp) (cond_intro (fun z=>c_t (hg _) ?_) (fun z=>c_t (hg _) ?_))))
   ·rw[z,Bool.not_true,Bool.false_and,cond_false]at hf;exact hf i
   ·rw[z,Bool.not_false,Bool.true_and]at hf;exact⟨(b,r,lo,hi,m3,cap3,L,i+1,s,w,dg,q,d2,m2,cap2,dr,f,cr,fm),rfl,rfl,by simp only[S134_2,jaf,jae];exact⟨hR,by omega⟩,by simp only;omega,hf⟩
  ·have h:=jac h;rw[hr.end (by omega),stP,cond_true]at hf;obtain rfl:i=m2:=by omega
   exact c_t (hg _) hf
def V135_0:Y×Int×Int×E×Nat×Nat×Int×Int×Y×Int×Int×Int×E×Nat×Nat×Int×Int×Bool×Int→E:=fun(b,r,n,d,m,cap,L,i,s,w,dg,q,d2,m2,cap2,dr,f,cr,fm)=> [.pointer (some ⟨3,0,some 0⟩),S b,I r,I n,.slice (some ⟨600,0,some 1⟩) m cap,I L,I i]
def B135_0:Y×Int×Int×E×Nat×Nat×Int×Int×Y×Int×Int×Int×E×Nat×Nat×Int×Int×Bool×Int→O:=fun(b,r,n,d,m,cap,L,i,s,w,dg,q,d2,m2,cap2,dr,f,cr,fm)=> [some ⟨[.string s,.bool true,.int .i64 w,.int .i64 dg,.int .i64 q,.bool false,.slice (some ⟨401,0,some 1⟩) m2 cap2,.int .u8 dr,.int .i64 f,.bool cr,.int .u8 32,.int .i64 fm],156,true⟩,some ⟨d,5,false⟩,some ⟨d2,251,true⟩]
def S135_0:LSpecA (Y×Int×Int×E×Nat×Nat×Int×Int×Y×Int×Int×Int×E×Nat×Nat×Int×Int×Bool×Int) where
 live:=[0,1,4,5,9,10,11]
 mid:=[3,600,401]
 n:=610
 ap:=[(.tmp 9,600)]
 dec vs bs:=match vs,bs with | [.pointer (some ⟨3,0,some 0⟩),.string b,.int .i64 r,.int .i64 n,.slice (some ⟨600,0,some 1⟩) m cap,.int .i64 L,.int .i64 i],[some ⟨[.string s,.bool true,.int .i64 w,.int .i64 dg,.int .i64 q,.bool false,.slice (some ⟨401,0,some 1⟩) m2 cap2,.int .u8 dr,.int .i64 f,.bool cr,.int .u8 32,.int .i64 fm],156,true⟩,some ⟨d,5,false⟩,some ⟨d2,251,true⟩]=>some (b,r,n,d,m,cap,L,i,s,w,dg,q,d2,m2,cap2,dr,f,cr,fm) | _,_=>none
 pre:=fun(b,r,n,d,m,cap,L,i,s,w,dg,q,d2,m2,cap2,dr,f,cr,fm)=>jbu d2 m2 cap2&& (vwOK d m&&decide (0≤i∧i≤m∧m2=m∧m≤1000∧L=m∧0≤n∧n≤i))
 fin:=fun(b,r,n,d,m,cap,L,i,s,w,dg,q,d2,m2,cap2,dr,f,cr,fm) Z=>∀n',n+siGo ((zc d m).drop i.toNat) ((zc d2 m2).drop i.toNat)=n'→Z (.exit 0) [.pointer (some ⟨3,0,some 0⟩),S b,I r,I n',.slice (some ⟨600,0,some 1⟩) m cap,I L,I m] [some ⟨[.string s,.bool true,.int .i64 w,.int .i64 dg,.int .i64 q,.bool false,.slice (some ⟨401,0,some 1⟩) m2 cap2,.int .u8 dr,.int .i64 f,.bool cr,.int .u8 32,.int .i64 fm],156,true⟩,some ⟨d,5,false⟩,some ⟨d2,251,true⟩]
theorem r135_0(b:Y)(r:Int)(n:Int)(d:E)(m:Nat)(cap:Nat)(L:Int)(i:Int)(s:Y)(w:Int)(dg:Int)(q:Int)(d2:E)(m2:Nat)(cap2:Nat)(dr:Int)(f:Int)(cr:Bool)(fm:Int)(jk:Tmps)(R:Exit→E→O→Prop):(jbv Tryz.prog G23 noL Tryz.f247.ntmps (ja9 Tryz.f247 0) (tl S135_0.live (V135_0 (b,r,n,d,m,cap,L,i,s,w,dg,q,d2,m2,cap2,dr,f,cr,fm)) jk) (ml S135_0.mid (B135_0 (b,r,n,d,m,cap,L,i,s,w,dg,q,d2,m2,cap2,dr,f,cr,fm))) S135_0.n fun e t' m' _=>S135_0.out R e t' m')=(d5 (b7 i L) (cl i (m:Int)) (jp [] d d2 600 600&&true) (bif jby .u8 d (dp i)then i7 (cl i (m2:Int)) (jby .i64 d2 (dp i) && (ew i 4 d2 || cl (io i d) 256&&true)) (ew i 4 d2 || decide (idxZ (bz ⟨#[84,73,82]⟩) (io i d)≥0)) (b9 (jp [] d d2 600 600&&true) R [kg cr s w dg q dr f fm m2 cap2,kc [] d 600,kf [(600,600)] d2] (av 3::ax b (ay n::a9 600 m cap::bv L i) (ak r))) (b9 (jp [] d d2 600 600&&true) R [kg cr s w dg q dr f fm m2 cap2,kc [] d 600,kf [(600,600)] d2] (av 3::ax b (ak n::a9 600 m cap::bv L i) (ak r)))else False) False (R (.exit 0) (av 3::ax b (ak n::fp L i 600 m cap) (ak r)) [kg cr s w dg q dr f fm m2 cap2,kc [] d 600,kf [(600,600)] d2])):=by kernel_rfl
theorem l135_0:LOKf Tryz.prog (oneL 0 S135_0.hA) Tryz.f247:=by
 refine jbo (h:=S135_0.hA) (by kernel_rfl) (jbr ok_G23 hmix (by kernel_rfl) (ja7 _) S135_0 V135_0 B135_0 (fun(b,r,n,d,m,cap,L,i,s,w,dg,q,d2,m2,cap2,dr,f,cr,fm)=>(m-i).toNat) ?_ ?_ ?_)
 ·intro vs bs s h;simp only[S135_0]at h;split at h
  all_goals first | (cases h;exact⟨rfl,rfl⟩) | cases h | (split at h<;>first | (rename_i hq;cases h;have hq:=jah hq;subst hq;exact⟨rfl,rfl⟩) | cases h)
 ·exact fun⟨b,r,n,d,m,cap,L,i,s,w,dg,q,d2,m2,cap2,dr,f,cr,fm⟩ hp=>by
   simp only[S135_0,jaf]at hp;have hr:=jaw.1 hp.1;simp[V135_0,B135_0,S135_0,ja0,jbz,idsL,ids,jaq hr.plain,jaq (jcx.1 hp.2.1).plain]
 ·intro⟨b,r,n,d,m,cap,L,i,s,w,dg,q,d2,m2,cap2,dr,f,cr,fm⟩ jk Z hp hf;rw[r135_0];delta cq ar d5 kf kc ax ak ao im dv kg bw a9 fp av i7 b9 aw ay bv jp dp io ew cl b7;simp only[S135_0]at hp hf;simp only[jaf,jae]at hp;obtain⟨hR,hV,hp⟩:=hp;have hr:=jaw.1 hR;have hzl:=jbj hr;have hv:=jcx.1 hV;have e0:0+i.toNat*1=i.toNat:=by omega
  rw[e0];simp only[hr.rlb,hv.rlb];have hg:∀ps,(jav ps d&& (jav ps d2&&true) &&true)=true:=fun ps=>by rw[hr.good,goodL_plain hv.plain];rfl
  have k:bz ⟨#[84,73,82]⟩=[84,73,82]:=rfl;rw[k];apply cond_intro<;>intro h
  ·have h:=jab h;obtain⟨a1,a3⟩:=hr.at hp.1 (by omega);obtain⟨b1,b2,b3⟩:=hv.at hp.1 (by omega);rw[a3,b3,siGo]at hf;rw[a1,b1,w64 (n:=i+1) (by omega),jkq];generalize jau d2 i.toNat=c at*;generalize jau d i.toNat=x at*;refine c_t (jaa (by omega)) (c_t rfl (c_t (by rw[jaa (show 0≤i∧i<(m2:Int)by omega),jaa b2];simp) (cond_intro (fun z=>c_t (hg _) ?_) (fun z=>c_t (hg _) ?_))))
   ·rw[z,cond_true,←Int.add_assoc]at hf;rw[w64 (n:=n+1) (by omega)];exact⟨(b,r,n+1,d,m,cap,L,i+1,s,w,dg,q,d2,m2,cap2,dr,f,cr,fm),rfl,rfl,by simp only[S135_0,jaf,jae];exact⟨hR,hV,by omega⟩,by simp only;omega,hf⟩
   ·rw[z,cond_false,Int.zero_add]at hf;exact⟨(b,r,n,d,m,cap,L,i+1,s,w,dg,q,d2,m2,cap2,dr,f,cr,fm),rfl,rfl,by simp only[S135_0,jaf,jae];exact⟨hR,hV,by omega⟩,by simp only;omega,hf⟩
  ·have h:=jac h;rw[hv.end (by omega),siGo,Int.add_zero]at hf;obtain rfl:i=m:=by omega
   exact c_t (hg _) (hf n rfl);intro _ _ _ _ h1;cases h1
theorem fn134:Fn1 Tryz.prog 246 Tryz.f246:= .m Tryz.func246
theorem fn135:Fn1 Tryz.prog 247 Tryz.f247:= .m Tryz.func247
theorem lok134:LOKf Tryz.prog (twoL 0 S134_0.hA 2 S134_2.hA) Tryz.f246:=jga (by kernel_rfl) (by kernel_rfl) l134_0 l134_2
def G24:Env:=Env.nil.add 272 (sp2 s141)
theorem ok_G24:jax Tryz.prog G24:=jak jan ok141
def G25:Env:=((((((Env.nil.add 129 (sp2 s132)).add 130 (sp2 s130)).add 203 (sp2 s102)).addG 244 (inlQ Tryz.prog G20 (oneL 0 S131_0.hA) Tryz.f244)).addG 245 (inlQ Tryz.prog G22 (oneL 0 S133_0.hA) Tryz.f245)).addG 246 (inlQ Tryz.prog G23 (twoL 0 S134_0.hA 2 S134_2.hA) Tryz.f246)).addG 247 (inlQ Tryz.prog G24 (oneL 0 S135_0.hA) Tryz.f247)
theorem ok_G25:jax Tryz.prog G25:=jam (jam (jam (jam (jak (jak (jak jan ok132) ok130) ok102) (jar ok_G20 hmix fn131 lok131)) (jar ok_G22 hmix fn133 l133_0)) (jar ok_G23 hmix fn134 lok134)) (jar ok_G24 hmix fn135 l135_0)
def look(m:Lk):Value→O
 | Value.tuple ⟨[Value.pointer (some a),_]⟩=>match m a.block with
  | some b=>match b.c[6]? with
   | some (Value.slice (some a') _ _)=> [some b,m a'.block]
   | _=> [some b]
  | none=> []
 | _=> []
def nD(b:J):Bool×Int×Int:=je5 [36,83,43,45] b 0 (-1)
def nR(b:J):J:=jbk (nD b).2.1 (nD b).2.2 b 0
def nP(b:J):Bool×PlS:=plGo (nR b) ⟨0,false,0,0,0,0⟩
def nPok(b:J):Bool:=(nP b).1&& (decide ((nP b).2.pts≤1) && (decide ((nP b).2.dg≥1) && (decide ((nP b).2.dg≤9) && !((nP b).2.bh&&decide ((nP b).2.fm>0)))))
def nS(b:J):Bool:=stP (nD b).2.2 (loGo (nD b).2.2 (nR b) 0 b.length) (hiGo (nD b).2.2 (nR b) 0 (-1)) (nR b) 0
def nG(b:J)(cr:Bool):Int:=siGo b (nR b)+(bif cr then 1 else 0)
def nSt(b:J):Bool:=hasZ b 42&&hasZ b 90 || (hasZ b 42 || hasZ b 90) && (nD b).2.1 !=0
def numQ(b:J)(cr:Bool):Bool:= !anyZ b [65,88,67,68] && ((nD b).1&& (!nSt b&& (nPok b&& (nS b&&decide (nG b cr≤1)))))
def jj9(s:Y)(cr:Bool)(x m cap:Nat):E:=
 [.string s,.bool true,.int .i64 ((nP (jal (bz s))).2.w+(bif cr then 2 else 0)),.int .i64 (nP (jal (bz s))).2.dg,.int .i64 (nP (jal (bz s))).2.q,.bool (nG (jal (bz s)) cr==1),
  .slice (some ⟨x,0,some 1⟩) m cap,.int .u8 (nD (jal (bz s))).2.1,.int .i64 (nD (jal (bz s))).2.2,.bool cr,.int .u8 (bif hasZ (jal (bz s)) 42 then 42 else 32),.int .i64 (nP (jal (bz s))).2.fm]
def jlb(s:Y)(cr:Bool):J:=nR (jal (bz s))++(bif cr then [4,4]else [])
theorem jhn(dr f:Int):∀(l:J)(i:Int),(jbk dr f l i).length=l.length
 | [],_=>rfl
 | c::r,i=>by simp[jbk,jhn dr f r]
theorem jlz:∀(a b:J),0≤siGo a b∧siGo a b≤a.length
 | [],_=>by simp[siGo]
 | _::_,[]=>by simp[siGo];omega
 | c::cs,r::rs=>by
  have:=jlz cs rs;rw[siGo,List.length_cons];cases(r==4 || hasZ [84,73,82] c) <;>simp only[cond_true,cond_false] <;>omega
theorem jij:∀(l:J)(a:PlS),(a.w≤(plGo l a).2.w∧(plGo l a).2.w≤a.w+l.length)∧(a.dg≤(plGo l a).2.dg∧(plGo l a).2.dg≤a.dg+l.length)∧(a.fm≤(plGo l a).2.fm∧(plGo l a).2.fm≤a.fm+l.length)
 | [],a=>by simp[plGo]
 | r::rs,a=>by
  rw[plGo,List.length_cons];cases r==2 with
  | true=>have:=jij rs ⟨a.pts+1,a.bh,a.w,a.dg,a.q,a.fm⟩;simp only[cond_true]at this ⊢;omega
  | false=>
   cases r==0 with
   | true=>have:=jij rs ⟨a.pts,a.bh,a.w+1,a.dg+1,a.q+a.pts,a.fm+1⟩;simp only[cond_true,cond_false]at this ⊢;omega
   | false=>
    cases r==1 with
    | true=>
     cases decide (a.fm>0)with
     | true=>simp only[cond_true,cond_false];omega
     | false=>have:=jij rs ⟨a.pts,a.bh || decide (a.pts>0),a.w+1,a.dg+1,a.q+a.pts,a.fm⟩;simp only[cond_true,cond_false]at this ⊢;omega
    | false=>have:=jij rs ⟨a.pts,a.bh,a.w+1,a.dg,a.q,a.fm⟩;simp only[cond_false]at this ⊢;omega
theorem jif{s:J}{cr:Bool}(h:crZ s=cr):jal s=bif cr then s.take (s.length-2)else s:=by
 unfold jal;rw[h];cases cr<;>rfl
theorem cr_suf(l:J):(sufZ l [67,82] || sufZ l [68,66])=crZ l:=by
 unfold sufZ crZ;rw[Bool.eq_iff_iff];simp only[Bool.or_eq_true,jaf,jae,List.length_cons,List.length_nil];constructor
 ·rintro (⟨a,b⟩ | ⟨a,b⟩)
  ·exact⟨a,.inl b⟩
  ·exact⟨a,.inr b⟩
 ·rintro ⟨a,b | b⟩
  ·exact .inl ⟨a,b⟩
  ·exact .inr ⟨a,b⟩
theorem asc_take{l:J}(h:asc l=true)(n:Nat):asc (l.take n)=true:=by
 simp only[asc,List.all_eq_true]at h ⊢;exact fun x hx=>h x (List.mem_of_mem_take hx)
def jq(a:Value→O→Prop):Prop:=a (al (.pointer none::fv)) []
def qz(d:Bool)(a c:Y)(e:Prop)(b:Value→O→Prop):Prop:=bif ft a&& (ft ⟨#[65,88,67,68]⟩ && (asc (bz a) &&asc (bz ⟨#[65,88,67,68]⟩)))then bif anyZ (bz a) (bz ⟨#[65,88,67,68]⟩)then jq b else ib (S131_0.toLSpec.pre (a,(false,(natO 4,((0:Int),(c,((0:Int),(-(1:Int),d)))))))) (je5 [36,83,43,45] (bz a) 0 (-1)).fst e (Int→Int→fu (jq b))else False
def lq(b c:E)(a:Nat):Bool:=ja0 a b&&gm c a
def kh(a:Y)(b:UInt8):Bool:=hasZ (bz a) (ja b)
def q8(j:Bool)(a i:Y)(b g:Int)(k:Prop)(h:Value→O→Prop):Prop:=je5 [36,83,43,45] (bz a) 0 (-1)=(true,(b,g))→Tmps→gu (kh a 42) (kh a 90 || (kh a 42 || (kh a 90 || true))) (kh a 42 || (kh a 90 || true)) (bk (kh a 42) (kh a 90 || (bif kh a 42 then b !=0 else kh a 90&&b !=0)) (bif kh a 42 then b !=0 else kh a 90&&b !=0)) (jq h) (∀c:Nat,ol (S133_0.toLSpec.pre (a,(false,((0:Int),(false,(je a 344 400,(a.size,(c,(natO a.size,((0:Int),(i,((0:Int),((0:Int),((0:Int),(Rw.nil,(b,(g,(j,(0:Int))))))))))))))))))) (plGo (jbk b g (kt a 344 400) 0) (PlS.mk 0 false 0 0 0 0)).fst a c 344 400 410 ((Rw.is Rw.nil=false→kt a 344 400=([]:J)→ik (je a 344 400) 410 (jq h))∧k) (Bool→Int→Int→Int→Int→Int→(∀d:E,∀e:Nat,∀f:Nat,jbu d e f=true→(bif lq (je a 344 400) d 410 then Tmps→jq h else False))))
def nj(b:E)(a:Nat)(c:Prop):Prop:=Int→ik (rlbL [] b) a c
def lc(a:E):E:=rlbL [] (rlbL [] a)
def me(a:E):E:=rlbL [(569,600)] (lc a)
def q9(k:Bool)(b c:Y)(d e f i j l:Int)(a:E)(g h:Nat)(m:Prop):Prop:=bif gm (lc a) 560 then Tmps→(∀o:Nat,jh b.size o→(bif jav [(569,600)] (Lib.strCells b) && (jav [(569,600)] (lc a) &&true) &&true&&lq (je b 569 600) (me a) 610 then cq (S135_0.toLSpec.pre (b,((0:Int),((0:Int),(je b 569 600,(b.size,(o,(natO b.size,((0:Int),(c,(d,(e,(f,(me a,(g,(h,(i,(j,(k,l))))))))))))))))))) m else False))else False
def ra(f:Y)(e g h i j k l m:Int)(a:E)(b c n:Nat)(d:Value→O→Prop):Prop:=bif iq (me a) b c&&jbx (c+2) 8 then∀q:Nat,∀r:E,cw r q (c+2)→d (al (av 3::dw)) [im true (aw e==1) true f (d8 g 2) h i j k l m (c+2) q (dv n 1),ct true ((me a).take (c*1)++d7 4 4++r) 251]else False
theorem v103(s:Y)(R:Value→O→Prop):(ja1 Tryz.prog G25 noL Tryz.f204 [S s] (fun _=>none) 0 (fun v m _=>R v (look m v)))=(i7 (cm s) (sufZ (bz s) (bz ⟨#[67,82]⟩) || cm s&&true) (sufZ (bz s) (bz ⟨#[67,82]⟩) || sufZ (bz s) (bz ⟨#[68,66]⟩)) (bif ly s 2 then qz true (iw s) s (∀a:Int,∀b:Int,q8 true (iw s) s a b (∀d:Int,∀e:Bool,∀f:Int,∀g:Int,∀h:Int,∀i:Int,∀j:E,∀k:Nat,∀l:Nat,jbu j k l=true→zc j k=Rw.z Rw.nil++jbk a b (kt (iw s) 344 400) 0→plGo (jbk a b (kt (iw s) 344 400) 0) (PlS.mk 0 false 0 0 0 0)=(true,PlS.mk d e f g h i)→(bif lq (je (iw s) 344 400) j 410 then Tmps→gu (decide (d≤1)) (nf e g) true (!(decide (d≤1) &&o6 e (dy i 0) g)) (jq R) (bif jf [] j 520 then bif S134_0.toLSpec.pre (iw s,(false,(ep (iw s),(-(1:Int),(k,(l,(natO k,((0:Int),(s,(f,(g,(h,(rlbL [] j,(k,(l,(a,(b,(true,i))))))))))))))))))then∀m:Int,∀n:Int,loGo b (gv 0 [] j k) 0 (ep (iw s))=m→hiGo b (gv 0 [] j k) 0 (-1)=n→ik (rlbL [] j) 520 (bif jf [] (rlbL [] j) 560 then ib (S134_2.toLSpec.pre (iw s,(false,(m,(n,(k,(l,(natO k,((0:Int),(s,(f,(g,(h,(lc j,(k,(l,(a,(b,(true,i))))))))))))))))))) (stP b m n (gv 0 [] (rlbL [] j) k) 0) (q9 true (iw s) s f g h a b i j k l (∀p:Int,0+siGo (kt (iw s) 569 600) (gv 0 [(569,600)] (lc j) k)=p→(bif lq (je (iw s) 569 600) (me j) 610 then kp (decide (aw p>1)) (jq R) (bif hasZ (bz (iw s)) (ja 42)then ra s p f g h a b 42 i j l k 644 R else ra s p f g h a b 32 i j l k 640 R)else False))) (nj (rlbL [] j) 560 (jq R))else False)else False else False)else False)) R) R else False) (qz false s s (∀a:Int,∀b:Int,q8 false s s a b (∀d:Int,∀e:Bool,∀f:Int,∀g:Int,∀h:Int,∀i:Int,∀j:E,∀k:Nat,∀l:Nat,jbu j k l=true→zc j k=Rw.z Rw.nil++jbk a b (kt s 344 400) 0→plGo (jbk a b (kt s 344 400) 0) (PlS.mk 0 false 0 0 0 0)=(true,PlS.mk d e f g h i)→(bif lq (je s 344 400) j 410 then Tmps→gu (decide (d≤1)) (nf e g) true (!(decide (d≤1) &&o6 e (dy i 0) g)) (jq R) (bif jf [] j 520 then bif S134_0.toLSpec.pre (s,(false,(aq s,(-(1:Int),(k,(l,(natO k,((0:Int),(s,(f,(g,(h,(rlbL [] j,(k,(l,(a,(b,(false,i))))))))))))))))))then∀m:Int,∀n:Int,loGo b (gv 0 [] j k) 0 (aq s)=m→hiGo b (gv 0 [] j k) 0 (-1)=n→ik (rlbL [] j) 520 (bif jf [] (rlbL [] j) 560 then ib (S134_2.toLSpec.pre (s,(false,(m,(n,(k,(l,(natO k,((0:Int),(s,(f,(g,(h,(lc j,(k,(l,(a,(b,(false,i))))))))))))))))))) (stP b m n (gv 0 [] (rlbL [] j) k) 0) (q9 false s s f g h a b i j k l (∀p:Int,0+siGo (kt s 569 600) (gv 0 [(569,600)] (lc j) k)=p→(bif lq (je s 569 600) (me j) 610 then kp (dy p 1) (jq R) (bif kh s 42 then R (al (av 3::dw)) [im true (p==1) false s f g h a b 42 i k l (dv 401 1),ct true (me j) 251]else R (al (av 3::dw)) [im true (p==1) false s f g h a b 32 i k l (dv 401 1),ct true (me j) 251])else False))) (nj (rlbL [] j) 560 (jq R))else False)else False else False)else False)) R) R)):=by kernel_rfl
theorem w103(s:Y)(hs:s.size≤32)(ha:asc (bz s)=true)(R:Value→O→Prop)
    (hn:numQ (jal (bz s)) (crZ (bz s))=false→R (.tuple ⟨[.pointer none,.bool false]⟩) [])
    (hy:numQ (jal (bz s)) (crZ (bz s))=true→ ∀(x m cap:Nat)(d:E),RowI d m cap→zc d m=jlb s (crZ (bz s))→
      R (.tuple ⟨[.pointer (some ⟨3,0,some 0⟩),.bool true]⟩) [some ⟨jj9 s (crZ (bz s)) x m cap,156,true⟩,some ⟨d,251,true⟩]):
    jeb Tryz.prog G25 noL Tryz.f204 [.string s] (fun _=>none) 0 (fun v m _=>R v (look m v)):=by
  rw[jeb,v103];delta ar i7 ib fu al fv jq ft qz gu gm jf jh ol lq je ik gv kt bk ja kh q8 nj cq lc me q9 kp ct ax ak ao im dv dw av dy aq o6 nf d7 d8 aw cw iq ra gk iw ep gz ly cm;have k67:bz ⟨#[67,82]⟩=[67,82]:=rfl;have k68:bz ⟨#[68,66]⟩=[68,66]:=rfl;rw[k67,k68,cr_suf];refine c_t (by rw[jaa (show s.size≤9223372036854775807 by omega)];simp) (cond_intro (fun hcr=> ?_) (fun hcr=> ?_))
  · rw [hcr] at hn hy;have hb:=jif hcr
    have h2:2≤s.size:=by
      have:2≤(bz s).length:=by
        simp only[crZ,jaf,jae]at hcr;exact hcr.1
      rwa [jap]at this
    rw[w64 (n:=(s.size:Int)-2) (by omega)];refine c_t (jaa (by omega)) ?_
    have hb:bz (s.extract 0 ((s.size:Int)-2).toNat)=jal (bz s):=by
      rw[hb,jcb,cond_true,jap,List.drop_zero];congr 1;omega
    have hay:asc (bz (s.extract 0 ((s.size:Int)-2).toNat))=true:=by
      rw[hb,jif hcr];exact asc_take ha _
    have hys:(s.extract 0 ((s.size:Int)-2).toNat).size≤32:=by
      rw[←jap,hb,jif hcr,cond_true,List.length_take,jap];omega
    generalize s.extract 0 ((s.size:Int)-2).toNat=y at*;have k1:bz ⟨#[65,88,67,68]⟩=[65,88,67,68]:=rfl;have k2:(bz ⟨#[42]⟩).getD 0 0=42:=rfl;have k3:(bz ⟨#[90]⟩).getD 0 0=90:=rfl;rw[k1,k2,k3];have ey:=hb;refine c_t (by rw[jaa (show y.size≤1000 by omega),hay];rfl) (cond_intro (fun hA=>hn (by rw[←hb];simp only[numQ,hA,Bool.not_true,Bool.false_and])) (fun hA=>c_t ?_ (cond_intro (fun hB dr' f' hD x=> ?_) (fun hB _ _ _ _=>hn (by rw[←hb,numQ,nD,hB,hA];rfl)))))
    · simp only [S131_0, jae];exact⟨jb6 4,by omega,by omega,by omega,by omega,by omega⟩
    have hD':nD (bz y)=(true,dr',f'):=hD;have e1:(nD (bz y)).1=true:=by rw[hD']
    have e2:(nD (bz y)).2.1=dr':=by rw[hD']
    have e3:(nD (bz y)).2.2=f':=by rw[hD']
    have eS:(bif hasZ (bz y) 42 then hasZ (bz y) 90 || bif hasZ (bz y) 42 then dr' !=0 else hasZ (bz y) 90&&dr' !=0 else bif hasZ (bz y) 42 then dr' !=0 else hasZ (bz y) 90&&dr' !=0)=nSt (bz y):=by
      rw[nSt,e2];cases hasZ (bz y) 42<;>cases hasZ (bz y) 90<;>cases dr' !=0<;>rfl
    rw[eS];refine c_t (by simp) (cond_intro (fun hC=>hn (by rw[←hb,numQ,hA,e1,hC];rfl)) (fun hC cap _=> ?_));obtain⟨v1,v2⟩:=jk5 y;have v3:=jcx.2 v1;have g1:=v1.good;have g2:=v1.rlb;have g3:=jbi v1.plain;have g4:∀ps,jav ps (Lib.strCells y)=true:=fun ps=>goodL_plain v1.plain
    simp only[g2];generalize Lib.strCells y=d0 at*;simp only[Int.toNat_zero,List.drop_zero,v2];have eR:jbk dr' f' (bz y) 0=nR (bz y):=by rw[nR,e2,e3]
    rw[eR];have eP:plGo (nR (bz y)) ⟨0,false,0,0,0,0⟩=nP (bz y):=rfl;rw[eP];have hl:=jhn dr' f' (bz y) 0;rw[eR,jap]at hl;refine c_t (by rw[g1,g3];rfl) (c_t ?_ (cond_intro (fun hE=>⟨fun _ hnil=>c_t (by rw[g3];rfl) fun _=> ?_,fun pts' bh' w' dg' q' fm' d' m' cap' r1 r2 r3=> ?_⟩) (fun hE _ _ _ _ _ _ _ d' m' cap' r1=>c_t (by rw[g3,jbi (jaw.1 r1).plain];rfl) fun _=>hn (by rw[←hb,numQ,hA,e1,hC,nPok,hE];rfl))))
    · simp only [S133_0, Rw.oki, Rw.z, List.length_nil, Bool.true_and, jaf, jae];exact⟨v3,jaa ⟨by omega,by omega,by omega,jb6 _,by omega,by omega,by omega,by omega,by omega,by omega,by omega,by omega,by omega,by omega,by omega⟩⟩
    · have:nP (bz y)=(true,⟨0,false,0,0,0,0⟩):=by
        rw[nP,nR,hnil];rfl
      exact hn (by rw[←hb,numQ,hA,e1,hC,nPok,this];rfl)
    have r1:=jaw.1 r1;have hz:=jbj r1;have r2:zc d' m'=nR (bz y):=r2;have pr:=jij (nR (bz y)) ⟨0,false,0,0,0,0⟩;rw[eP,r3]at pr;simp only at pr;have hm:m'=y.size:=by rw[←hz,r2,hl]
    refine c_t (by rw[g3,jbi r1.plain];rfl) fun _=>c_t (by cases decide (pts'≤1) <;>cases decide (dg'≥1) <;>cases decide (dg'≤9) <;>simp) ?_
    have ePok:(decide (pts'≤1) && (decide (dg'≥1) && (decide (dg'≤9) &&bif bh' then !decide (fm'>0)else !false)))=nPok (bz y):=by
      rw[nPok,r3];cases bh'<;>rfl
    rw[ePok];refine cond_intro (fun hF=>hn (by rw[←hb,numQ,hA,e1,hC];rw[Bool.not_eq_true']at hF;rw[hF];rfl)) (fun hF=> ?_);have hF:nPok (bz y)=true:=by simpa using hF
    have gd:∀ps,rlbL ps d'=d':=r1.rlb;have gg:∀ps,jav ps d'=true:=r1.good;have gi:=jbi r1.plain;simp only[gd,r2];refine c_t (by rw[gg,gi];rfl) (c_t ?_ (fun lo' hi' h1 h2=>c_t (by rw[gi];rfl) fun _=>c_t (by rw[gg,gi];rfl) (c_t ?_ ?_)))
    · simp only [S134_0, jaf, jae];exact⟨jaw.2 r1,by omega,by omega,by omega,jb6 _,trivial⟩
    · simp only [S134_2, jaf, jae];exact⟨jaw.2 r1,by omega,by omega,by omega,jb6 _,trivial⟩
    have eSt:stP f' lo' hi' (nR (bz y)) 0=nS (bz y):=by rw[nS,e3,jap,h1,h2]
    rw[eSt];refine cond_intro (fun hG=> ?_) (fun hG _=>c_t (by rw[gi];rfl) fun _=>hn (by rw[←hb,numQ,hA,e1,hC,hF,hG];rfl));refine c_t (by rw[gi];rfl) fun _ cap2 _=>c_t (by rw[g4,gg,gi,g3];rfl) (c_t ?_ (fun n' h3=>c_t (by rw[gi,g3];rfl) fun _=> ?_))
    · simp only [S135_0, jaf, jae];exact⟨jaw.2 r1,v3,by omega,by omega,hm,by omega,jb6 _,by omega,by omega⟩
    have sr:=jlz (bz y) (nR (bz y));rw[jap]at sr;rw[Int.zero_add]at h3;rw[w64 (n:=n'+1) (by omega),w64 (n:=w'+2) (by omega)];have eN:nG (bz y) true=n'+1:=by rw[nG,h3];rfl
    refine cond_intro (fun hH => hn (by rw [← hb, numQ, hA, e1, hC, hF, hG, eN]; have : ¬ n' + 1 ≤ 1 := by have := jab hH; omega
                                        rw[jad this];rfl)) (fun hH=> ?_)
    have hq:numQ (jal (bz s)) true=true:=by
      rw[←hb,numQ,hA,e1,hC,hF,hG,eN];have:n'+1≤1:=by have:=jac hH;omega
      rw[jaa this];rfl
    have eF:∀x k c,jj9 s true x k c=[Value.string s,Value.bool true,Value.int IntKind.i64 (w'+2),Value.int IntKind.i64 dg',Value.int IntKind.i64 q',Value.bool (n'+1==1),Value.slice (some ⟨x,0,some 1⟩) k c,Value.int IntKind.u8 dr',Value.int IntKind.i64 f',Value.bool true,Value.int IntKind.u8 (bif hasZ (bz y) 42 then 42 else 32),Value.int IntKind.i64 fm']:=fun x k c=>by
      rw[jj9,←hb,r3,e2,e3,eN];rfl
    have hf:=hy hq;simp only[eF,jlb,←hb]at hf;apply cond_intro<;>intro hI
    · rw [hI] at hf;refine c_t (r1.ask (k:=2) (by omega)) (fun cap3 tail ht=> ?_);obtain⟨a1,a2⟩:=r1.app [4,4] ht;rw[Nat.mul_one];exact hf _ _ _ _ a1 (a2.trans (by rw[r2];rfl))
    · rw [hI] at hf;refine c_t (r1.ask (k:=2) (by omega)) (fun cap3 tail ht=> ?_);obtain⟨a1,a2⟩:=r1.app [4,4] ht;rw[Nat.mul_one];exact hf _ _ _ _ a1 (a2.trans (by rw[r2];rfl))
  · rw [hcr] at hn hy;have hb:bz s=jal (bz s):=by rw[jif hcr];rfl
    have hay:=ha;have k1:bz ⟨#[65,88,67,68]⟩=[65,88,67,68]:=rfl;have k2:(bz ⟨#[42]⟩).getD 0 0=42:=rfl;have k3:(bz ⟨#[90]⟩).getD 0 0=90:=rfl;rw[k1,k2,k3];have ey:=hb;refine c_t (by rw[jaa (show s.size≤1000 by omega),hay];rfl) (cond_intro (fun hA=>hn (by rw[←hb];simp only[numQ,hA,Bool.not_true,Bool.false_and])) (fun hA=>c_t ?_ (cond_intro (fun hB dr' f' hD x=> ?_) (fun hB _ _ _ _=>hn (by rw[←hb,numQ,nD,hB,hA];rfl)))))
    · simp only [S131_0, jae];exact⟨jb6 4,by omega,by omega,by omega,by omega,by omega⟩
    have hD':nD (bz s)=(true,dr',f'):=hD;have e1:(nD (bz s)).1=true:=by rw[hD']
    have e2:(nD (bz s)).2.1=dr':=by rw[hD']
    have e3:(nD (bz s)).2.2=f':=by rw[hD']
    have eS:(bif hasZ (bz s) 42 then hasZ (bz s) 90 || bif hasZ (bz s) 42 then dr' !=0 else hasZ (bz s) 90&&dr' !=0 else bif hasZ (bz s) 42 then dr' !=0 else hasZ (bz s) 90&&dr' !=0)=nSt (bz s):=by
      rw[nSt,e2];cases hasZ (bz s) 42<;>cases hasZ (bz s) 90<;>cases dr' !=0<;>rfl
    rw[eS];refine c_t (by simp) (cond_intro (fun hC=>hn (by rw[←hb,numQ,hA,e1,hC];rfl)) (fun hC cap _=> ?_));obtain⟨v1,v2⟩:=jk5 s;have v3:=jcx.2 v1;have g1:=v1.good;have g2:=v1.rlb;have g3:=jbi v1.plain;have g4:∀ps,jav ps (Lib.strCells s)=true:=fun ps=>goodL_plain v1.plain
    simp only[g2];generalize Lib.strCells s=d0 at*;simp only[Int.toNat_zero,List.drop_zero,v2];have eR:jbk dr' f' (bz s) 0=nR (bz s):=by rw[nR,e2,e3]
    rw[eR];have eP:plGo (nR (bz s)) ⟨0,false,0,0,0,0⟩=nP (bz s):=rfl;rw[eP];have hl:=jhn dr' f' (bz s) 0;rw[eR,jap]at hl;refine c_t (by rw[g1,g3];rfl) (c_t ?_ (cond_intro (fun hE=>⟨fun _ hnil=>c_t (by rw[g3];rfl) fun _=> ?_,fun pts' bh' w' dg' q' fm' d' m' cap' r1 r2 r3=> ?_⟩) (fun hE _ _ _ _ _ _ _ d' m' cap' r1=>c_t (by rw[g3,jbi (jaw.1 r1).plain];rfl) fun _=>hn (by rw[←hb,numQ,hA,e1,hC,nPok,hE];rfl))))
    · simp only [S133_0, Rw.oki, Rw.z, List.length_nil, Bool.true_and, jaf, jae];exact⟨v3,jaa ⟨by omega,by omega,by omega,jb6 _,by omega,by omega,by omega,by omega,by omega,by omega,by omega,by omega,by omega,by omega,by omega⟩⟩
    · have:nP (bz s)=(true,⟨0,false,0,0,0,0⟩):=by
        rw[nP,nR,hnil];rfl
      exact hn (by rw[←hb,numQ,hA,e1,hC,nPok,this];rfl)
    have r1:=jaw.1 r1;have hz:=jbj r1;have r2:zc d' m'=nR (bz s):=r2;have pr:=jij (nR (bz s)) ⟨0,false,0,0,0,0⟩;rw[eP,r3]at pr;simp only at pr;have hm:m'=s.size:=by rw[←hz,r2,hl]
    refine c_t (by rw[g3,jbi r1.plain];rfl) fun _=>c_t (by cases decide (pts'≤1) <;>cases decide (dg'≥1) <;>cases decide (dg'≤9) <;>simp) ?_
    have ePok:(decide (pts'≤1) && (decide (dg'≥1) && (decide (dg'≤9) &&bif bh' then !decide (fm'>0)else !false)))=nPok (bz s):=by
      rw[nPok,r3];cases bh'<;>rfl
    rw[ePok];refine cond_intro (fun hF=>hn (by rw[←hb,numQ,hA,e1,hC];rw[Bool.not_eq_true']at hF;rw[hF];rfl)) (fun hF=> ?_);have hF:nPok (bz s)=true:=by simpa using hF
    have gd:∀ps,rlbL ps d'=d':=r1.rlb;have gg:∀ps,jav ps d'=true:=r1.good;have gi:=jbi r1.plain;simp only[gd,r2];refine c_t (by rw[gg,gi];rfl) (c_t ?_ (fun lo' hi' h1 h2=>c_t (by rw[gi];rfl) fun _=>c_t (by rw[gg,gi];rfl) (c_t ?_ ?_)))
    · simp only [S134_0, jaf, jae];exact⟨jaw.2 r1,by omega,by omega,by omega,jb6 _,trivial⟩
    · simp only [S134_2, jaf, jae];exact⟨jaw.2 r1,by omega,by omega,by omega,jb6 _,trivial⟩
    have eSt:stP f' lo' hi' (nR (bz s)) 0=nS (bz s):=by rw[nS,e3,jap,h1,h2]
    rw[eSt];refine cond_intro (fun hG=> ?_) (fun hG _=>c_t (by rw[gi];rfl) fun _=>hn (by rw[←hb,numQ,hA,e1,hC,hF,hG];rfl));refine c_t (by rw[gi];rfl) fun _ cap2 _=>c_t (by rw[g4,gg,gi,g3];rfl) (c_t ?_ (fun n' h3=>c_t (by rw[gi,g3];rfl) fun _=> ?_))
    · simp only [S135_0, jaf, jae];exact⟨jaw.2 r1,v3,by omega,by omega,hm,by omega,jb6 _,by omega,by omega⟩
    have sr:=jlz (bz s) (nR (bz s));rw[jap]at sr;rw[Int.zero_add]at h3;have eN:nG (bz s) false=n':=by rw[nG,h3];exact Int.add_zero _
    refine cond_intro (fun hH => hn (by rw [← hb, numQ, hA, e1, hC, hF, hG, eN]; have : ¬ n' ≤ 1 := by have := jab hH; omega
                                        rw[jad this];rfl)) (fun hH=> ?_)
    have hq:numQ (jal (bz s)) false=true:=by
      rw[←hb,numQ,hA,e1,hC,hF,hG,eN];have:n'≤1:=by have:=jac hH;omega
      rw[jaa this];rfl
    have eF:∀x k c,jj9 s false x k c=[Value.string s,Value.bool true,Value.int IntKind.i64 w',Value.int IntKind.i64 dg',Value.int IntKind.i64 q',Value.bool (n'==1),Value.slice (some ⟨x,0,some 1⟩) k c,Value.int IntKind.u8 dr',Value.int IntKind.i64 f',Value.bool false,Value.int IntKind.u8 (bif hasZ (bz s) 42 then 42 else 32),Value.int IntKind.i64 fm']:=fun x k c=>by
      rw[jj9,←hb,r3,e2,e3,eN,cond_false,Int.add_zero]
    have hf:=hy hq;simp only[eF,jlb,←hb]at hf;apply cond_intro<;>intro hI
    · rw [hI] at hf;exact hf _ _ _ _ r1 (by rw[r2];simp)
    · rw [hI] at hf;exact hf _ _ _ _ r1 (by rw[r2];simp)
end Go.Px
end
section
namespace Go.Px
open Go Go.Ab Go.Proofs
theorem last_mem{l:J}{c:Int}:jck l c= -1↔c∉l:=by
 rcases jeh c l with⟨e,h⟩ | ⟨i,hi,e,hc,h⟩
 ·refine⟨fun _ hm=> ?_,fun _=>e⟩;obtain⟨j,hj,hv⟩:=List.mem_iff_getElem.1 hm;exact h j hj (by rw[List.getD_eq_getElem?_getD,List.getElem?_eq_getElem hj];exact hv)
 ·refine⟨fun q=>by omega,fun q=>absurd ?_ q⟩;rw[List.getD_eq_getElem?_getD,List.getElem?_eq_getElem hi]at hc;exact hc▸List.getElem_mem hi
def flg(s:J)(c:Int):Bool:=hasZ [36,83,43,45] c&&decide (2≤cntZ s c)
theorem jic(s:J)(dr:Int):∀(r:J)(i f l:Int),(df1 s dr r i f l).1=r.all fun c=>c==dr || !flg s c
 | [],_,_,_=>rfl
 | c::r,i,f,l=>by
  rw[df1,List.all_cons];cases h:c==dr with
  | true=>rw[cond_true,jic s dr r];rfl
  | false=>
   rw[cond_false];have e:(hasZ [36,83,43,45] c&&decide (2≤cntZ s c))=flg s c:=rfl;rw[e];cases flg s c with
   | true=>rfl
   | false=>rw[cond_false,jic s dr r];rfl
theorem jmk(s:J)(dr:Int):∀(r:J)(i f l:Int),0≤i→(df1 s dr r i f l).1=true→
  (df1 s dr r i f l).2.1=(if f<0 then(if dr∈r then i+idxZ r dr else f)else f)∧(df1 s dr r i f l).2.2=(if dr∈r then i+jck r dr else l)
 | [],i,f,l,_,_=>by simp[df1]
 | c::r,i,f,l,hi,h=>by
  rw[df1]at h ⊢;have hlr:=last_mem (l:=r) (c:=dr);cases hc:c==dr with
  | true=>
   have hc':c=dr:=eq_of_beq hc;rw[hc,cond_true]at h;rw[cond_true];obtain⟨q1,q2⟩:=jmk s dr r _ _ _ (by omega) h;rw[q1,q2,hc'];have h1:¬(if f<0 then i else f)<0:=by split<;>omega
   rw[if_neg h1,if_pos (List.mem_cons_self ..),if_pos (List.mem_cons_self ..),idxZ,if_pos rfl,jck];refine⟨by split<;>omega,?_⟩;by_cases hm:dr∈r
   ·rw[if_pos hm,if_neg (fun q=>hlr.1 q hm)];omega
   ·rw[if_neg hm,if_pos (hlr.2 hm),if_pos rfl];omega
  | false=>
   have hc':¬c=dr:=by simpa using hc
   rw[hc,cond_false]at h;rw[cond_false];cases hf:(hasZ [36,83,43,45] c&&decide (2≤cntZ s c))with
   | true=>rw[hf]at h;cases h
   | false=>
    rw[hf,cond_false]at h;rw[cond_false];obtain⟨q1,q2⟩:=jmk s dr r _ _ _ (by omega) h
    have hmm:dr∈c::r↔dr∈r:=by
     rw[List.mem_cons];exact⟨fun q=>q.resolve_left fun e=>hc' e.symm,.inr⟩
    rw[q1,q2];simp only[hmm,idxZ,jck,if_neg hc'];by_cases hm:dr∈r
    ·have i1:=jfy dr hm;rw[if_pos hm,if_pos hm,if_pos hm,if_pos hm,if_neg (show¬idxZ r dr= -1 by omega),if_neg (fun q=>hlr.1 q hm)];exact⟨by split<;>omega,by omega⟩
    ·rw[if_neg hm,if_neg hm,if_neg hm,if_neg hm];exact⟨rfl,rfl⟩
theorem d2_app(dr f:Int):∀(x y:J)(i:Int),d2Go dr f (x++y) i=(d2Go dr f x i&&d2Go dr f y (i+x.length))
 | [],y,i=>by simp[d2Go]
 | c::x,y,i=>by
  rw[List.cons_append,d2Go,d2Go,d2_app dr f x y,List.length_cons,Bool.and_assoc,Bool.and_assoc];congr 4;omega
theorem d2_before(dr f:Int):∀(r:J)(i:Int),i+r.length≤f→d2Go dr f r i= !hasZ r 86
 | [],_,_=>rfl
 | c::r,i,h=>by
  rw[List.length_cons]at h;rw[d2Go,d2_before dr f r (i+1) (by omega),jaa (show i<f by omega),jad (show¬i>f by omega)];simp only[hasZ,List.any_cons,Bool.true_and,Bool.false_and,Bool.not_false,Bool.not_or]
theorem d2_after(dr f:Int):∀(r:J)(i:Int),f<i→d2Go dr f r i=drP dr r
 | [],_,_=>rfl
 | c::r,i,h=>by
  rw[d2Go,d2_after dr f r (i+1) (by omega),jad (show¬i<f by omega),jaa (show i>f by omega)];simp only[drP,List.all_cons,Bool.true_and,Bool.false_and,Bool.not_false,Bool.not_and,Bool.not_not,bne];rfl
theorem take_split(b:J){f l:Nat}(h:f≤l):b.take l=b.take f++(b.take l).drop f:=by
 have:=List.take_append_drop f (b.take l);rw[List.take_take,Nat.min_eq_left h]at this;exact this.symm
theorem drop_take_cons(b:J){f l:Nat}(h:f<l)(hb:f<b.length):(b.take l).drop f=b.getD f 0::(b.take l).drop (f+1):=by
 rw[jei (b.take l) f (by rw[List.length_take];omega)];congr 1;simp only[List.getD_eq_getElem?_getD,List.getElem?_take];rw[if_pos h]
theorem idx_get(c:Int):∀{l:J},c∈l→l.getD (idxZ l c).toNat 0=c
 | b::l,h=>by
  simp only[idxZ];by_cases hb:b=c
  ·rw[if_pos hb];simpa using hb
  ·rw[if_neg hb];have hm:c∈l:=by rcases List.mem_cons.1 h with q | q;exact absurd q.symm hb;exact q
   have:=jfy c hm;rw[if_neg (by omega),show(idxZ l c+1).toNat=(idxZ l c).toNat+1 by omega,List.getD_cons_succ];exact idx_get c hm
theorem last_get(c:Int){l:J}(h:c∈l):l.getD (jck l c).toNat 0=c:=by
 rcases jeh c l with⟨e,_⟩ | ⟨i,hi,e,hc,_⟩
 ·exact absurd h (last_mem.1 e)
 ·rw[e];exact hc
theorem take_snoc(b:J){l:Nat}(h:l<b.length):b.take (l+1)=b.take l++ [b.getD l 0]:=by
 rw[List.take_add_one,List.getD_eq_getElem?_getD,List.getElem?_eq_getElem h];rfl
theorem d2_drC{b:J}{c:Int}(h:c∈b):d2Go c (idxZ b c) (b.take (jck b c).toNat) 0=drC b c:=by
 have i1:=jfy c h;have i2:=ji9 c h;have i3:=ji4 b c;have g1:=idx_get c h;have g2:=last_get c h;obtain⟨f,hf⟩:∃f:Nat,idxZ b c=f:=⟨(idxZ b c).toNat,by omega⟩
 obtain⟨l,hl⟩:∃l:Nat,jck b c=l:=⟨(jck b c).toNat,by omega⟩
 unfold drC;rw[hf]at i1 i2 g1;rw[hl]at i2 i3 g2;rw[hf,hl];rw[Int.toNat_natCast]at g1 g2 ⊢;rw[Int.toNat_natCast];rw[show((l:Int)+1).toNat=l+1 by omega,take_snoc b (by omega),g2,List.drop_append_of_le_length (by rw[List.length_take];omega)];rw[take_split b (show f≤l by omega),d2_app,d2_before _ _ _ _ (by rw[List.length_take];omega)];congr 1
 ·rw[←take_split b (show f≤l by omega)];rw[List.length_take,Nat.min_eq_left (by omega)]
  have hs:drP c ((b.take l).drop f++ [c])=drP c ((b.take l).drop f):=by
   simp[drP]
  rw[hs];by_cases hfl:f<l
  ·rw[drop_take_cons b hfl (by omega),g1,d2Go,d2_after _ _ _ _ (by omega)];simp[drP]
  ·rw[List.drop_eq_nil_of_le (by rw[List.length_take];omega)];rfl
theorem jjj{b:J}{d f:Int}:∀{cs:J},(∀c∈cs,(cntZ b c:Int)<2)→je5 cs b d f=(true,d,f)
 | [],_=>rfl
 | c::cs,h=>by
  rw[je5,jaa (h c (List.mem_cons_self ..)),cond_true];exact jjj fun x hx=>h x (List.mem_cons_of_mem _ hx)
theorem drf_many{b:J}{d f:Int}(hd:d≠0):∀{cs:J},(∃c∈cs,¬(cntZ b c:Int)<2)→(je5 cs b d f).1=false
 | c::cs,h=>by
  rw[je5];cases hc:decide ((cntZ b c:Int)<2)with
  | true=>
   rw[cond_true];refine drf_many hd ?_;obtain⟨x,hx,hxc⟩:=h;rcases List.mem_cons.1 hx with rfl | hx
   ·exact absurd (jab hc) hxc
   ·exact⟨x,hx,hxc⟩
  | false=>
   rw[cond_false];have:(d !=0)=true:=by simpa using hd
   rw[this];rfl
 | [],⟨_,h,_⟩=>by cases h
theorem drf_two{b:J}{d f:Int}:∀{cs:J}{c1 c2:Int},(∀c∈cs,c≠0)→c1∈cs→c2∈cs→c1≠c2→ ¬(cntZ b c1:Int)<2→ ¬(cntZ b c2:Int)<2→(je5 cs b d f).1=false
 | c::cs,c1,c2,h0,m1,m2,hne,h1,h2=>by
  rw[je5];cases hc:decide ((cntZ b c:Int)<2)with
  | true=>
   have hc:=jab hc;rw[cond_true];refine drf_two (fun x hx=>h0 x (List.mem_cons_of_mem _ hx)) ?_ ?_ hne h1 h2
   ·rcases List.mem_cons.1 m1 with rfl | q
    ·exact absurd hc h1
    ·exact q
   ·rcases List.mem_cons.1 m2 with rfl | q
    ·exact absurd hc h2
    ·exact q
  | false=>
   rw[cond_false];cases d !=0 with
   | true=>rfl
   | false=>
    rw[cond_false];cases drC b c with
    | false=>rfl
    | true=>
     rw[cond_true];refine drf_many (h0 c (List.mem_cons_self ..)) ?_;by_cases e:c1=c
     ·rcases List.mem_cons.1 m2 with q | q
      ·exact absurd (e.trans q.symm) hne
      ·exact⟨c2,q,h2⟩
     ·rcases List.mem_cons.1 m1 with q | q
      ·exact absurd q e
      ·exact⟨c1,q,h1⟩
theorem drf_one{b:J}{f:Int}:∀{cs:J}{c:Int},cs.Nodup→c∈cs→ ¬(cntZ b c:Int)<2→(∀x∈cs,x≠c→(cntZ b x:Int)<2)→je5 cs b 0 f=bif drC b c then(true,c,idxZ b c)else(false,0,0)
 | x::cs,c,hn,hm,h1,h2=>by
  have hn':=List.nodup_cons.1 hn;rw[je5];by_cases e:x=c
  ·subst e;rw[jad h1,cond_false];have:((0:Int) !=0)=false:=rfl;rw[this,cond_false];cases drC b x with
   | false=>rfl
   | true=>
    rw[cond_true,cond_true];exact jjj fun y hy=>h2 y (List.mem_cons_of_mem _ hy) fun q=>hn'.1 (q▸hy)
  ·rw[jaa (h2 x (List.mem_cons_self ..) e),cond_true];exact drf_one hn'.2 (by rcases List.mem_cons.1 hm with q | q;exact absurd q.symm e;exact q) h1 fun y hy=>h2 y (List.mem_cons_of_mem _ hy)
theorem jgf(s:J):∀r:J,drGo s r=0∨(flg s (drGo s r)=true∧drGo s r∈r)
 | []=> .inl rfl
 | c::r=>by
  rw[drGo];split
  ·rename_i h;exact .inr ⟨by simp only[flg,jaf,jae];exact h,List.mem_cons_self ..⟩
  ·rcases jgf s r with h | ⟨h1,h2⟩
   ·exact .inl h
   ·exact .inr ⟨h1,List.mem_cons_of_mem _ h2⟩
theorem jkv(s:J){c:Int}(hf:flg s c=true):∀r:J,c∈r→drGo s r≠0
 | x::r,h=>by
  rw[drGo];split
  ·rename_i h;have:hasZ [36,83,43,45] x=true:=h.1;rw[jlh]at this;omega
  ·rename_i hx;rcases List.mem_cons.1 h with rfl | h
   ·simp only[flg,jaf,jae]at hf;exact absurd hf hx
   ·exact jkv s hf r h
theorem jkr{s:J}{c:Int}(h:c∈ [36,83,43,45]):flg s c=true↔ ¬(cntZ s c:Int)<2:=by
 simp only[flg,jaf,jae,ja8];exact⟨fun q=>by omega,fun q=>⟨h,by omega⟩⟩
theorem jgt{s:J}{c:Int}(h:flg s c=true):c∈ [36,83,43,45]∧ ¬(cntZ s c:Int)<2:=by
 simp only[flg,jaf,jae,ja8]at h;exact⟨h.1,by omega⟩
theorem nD_law(b:J):(nD b).1=jcl b∧(jcl b=true→(nD b).2.1=drZ b∧(nD b).2.2=if drZ b=0 then -1 else idxZ b (drZ b)):=by
 have h4:∀c∈ [36,83,43,(45:Int)],c≠0:=by decide
 by_cases hd:drZ b=0
 ·have hn:nD b=(true,0,-1):=jjj fun c hc=>by
   cases hq:decide ((cntZ b c:Int)<2)with
   | true=>exact jab hq
   | false=>
    have hf:=(jkr hc).2 (jac hq);exact absurd hd (jkv b hf b (jjt (jgt hf).2))
  have hz:jcl b=true:=by rw[jcl,hd];rfl
  rw[hn,hz,hd];exact⟨rfl,fun _=>⟨rfl,rfl⟩⟩
 ·obtain⟨hf,hm⟩:=(jgf b b).resolve_left hd;have hf:flg b (drZ b)=true:=hf;have hm:drZ b∈b:=hm;obtain⟨m1,m2⟩:=jgt hf
  have hz:jcl b=((df1 b (drZ b) b 0 (-1) (-1)).1&&d2Go (drZ b) (df1 b (drZ b) b 0 (-1) (-1)).2.1 (b.take (df1 b (drZ b) b 0 (-1) (-1)).2.2.toNat) 0):=by
   have:(drZ b==0)=false:=by simpa using hd
   rw[jcl,this,Bool.false_or]
  by_cases ho:∃x∈ [36,83,43,(45:Int)],x≠drZ b∧ ¬(cntZ b x:Int)<2
  ·obtain⟨x,x1,x2,x3⟩:=ho;have e1:(nD b).1=false:=drf_two h4 x1 m1 x2 x3 m2
   have e2:(df1 b (drZ b) b 0 (-1) (-1)).1=false:=by
    rw[jic,List.all_eq_false];refine⟨x,jjt x3,?_⟩;rw[(jkr x1).2 x3];simpa using x2
   rw[hz,e1,e2];exact⟨rfl,fun q=>by cases q⟩
  ·have ho:∀x∈ [36,83,43,(45:Int)],x≠drZ b→(cntZ b x:Int)<2:=fun x x1 x2=>by
    cases hq:decide ((cntZ b x:Int)<2)with
    | true=>exact jab hq
    | false=>exact absurd ⟨x,x1,x2,jac hq⟩ ho
   have e1:nD b=bif drC b (drZ b)then(true,drZ b,idxZ b (drZ b))else(false,0,0):=drf_one (by decide) m1 m2 ho
   have e2:(df1 b (drZ b) b 0 (-1) (-1)).1=true:=by
    rw[jic,List.all_eq_true];intro x _;by_cases q:x=drZ b
    ·rw[q];simp
    ·have:flg b x=false:=by
      cases hh:flg b x with
      | false=>rfl
      | true=>obtain⟨a1,a2⟩:=jgt hh;exact absurd (ho x a1 q) a2
     rw[this];simp
   obtain⟨q1,q2⟩:=jmk b (drZ b) b 0 (-1) (-1) (by omega) e2;rw[if_pos (by omega),if_pos hm,Int.zero_add]at q1;rw[if_pos hm,Int.zero_add]at q2;rw[hz,e1,e2,q1,q2,d2_drC hm,Bool.true_and];cases drC b (drZ b)with
   | false=>exact⟨rfl,fun q=>by cases q⟩
   | true=>exact⟨rfl,fun _=>⟨rfl,by rw[if_neg hd];rfl⟩⟩
def rmk(r:Int):Int:=[100,99,118,105,115,109].getD r.toNat 0
theorem ro_rng(d f c i:Int):0≤roP d f c i∧roP d f c i≤5:=by
 unfold roP;cases hasZ [57,89,84,73,82] c<;>cases(c==90 || (c==42 || (c==d&&i !=f))) <;>cases c==86<;>cases c==36<;>cases(c==83 || (c==43 || c==45)) <;>simp
theorem idx_app(d:Int):∀x y:J,idxZ (x++y) d=if d∈x then idxZ x d else if d∈y then x.length+idxZ y d else -1
 | [],y=>by
  simp only[List.nil_append,List.not_mem_nil,if_false,List.length_nil];split
  ·omega
  ·rename_i h;have h:¬0≤idxZ y d:=fun q=>h ((jgs d y).2.1 q)
   have:=(jgs d y).1;omega
 | c::x,y=>by
  have ih:=idx_app d x y;rw[List.cons_append,idxZ,idxZ];by_cases hc:c=d
  ·rw[if_pos hc,if_pos hc,if_pos (by rw[hc];exact List.mem_cons_self ..)]
  ·rw[if_neg hc,if_neg hc,ih]
   have hm:d∈c::x↔d∈x:=by
    rw[List.mem_cons];exact⟨fun q=>q.resolve_left fun e=>hc e.symm,.inr⟩
   simp only[hm];by_cases hx:d∈x
   ·rw[if_pos hx,if_pos hx]
   ·rw[if_neg hx,if_neg hx];by_cases hy:d∈y
    ·have:=jfy d hy;rw[if_pos hy,if_pos hy,if_neg (by omega)];simp only[List.length_cons];omega
    ·rw[if_neg hy,if_neg hy,if_pos rfl]
structure DrP (b:J)(d f:Int):Prop where
 zero:∀c∈b,c≠0
 at_:d=0∧f= -1∨d≠0∧d∈b∧f=idxZ b d∧d∈ [36,83,43,(45:Int)]
theorem DrP.eq{b pre r:J}{c d f:Int}(h:DrP b d f)(hb:b=pre++c::r):(c=d∧(pre.length:Int)≠f↔c=d∧d≠0∧d∈pre)∧((pre.length:Int)=f↔c=d∧d∉pre):=by
 have hc0:=h.zero c (by rw[hb];simp);rcases h.at_ with⟨rfl,rfl⟩ | ⟨h1,h2,h3,_⟩
 ·exact⟨⟨fun q=>absurd q.1 hc0,fun q=>absurd q.1 hc0⟩,⟨fun q=>by omega,fun q=>absurd q.1 hc0⟩⟩
 ·rw[hb,idx_app]at h3;by_cases hp:d∈pre
  ·rw[if_pos hp]at h3;have:=jfy d hp;exact⟨⟨fun q=>⟨q.1,h1,hp⟩,fun q=>⟨q.1,by omega⟩⟩,⟨fun q=>by omega,fun q=>absurd hp q.2⟩⟩
  ·rw[if_neg hp]at h3;rw[hb]at h2;have hd:d∈c::r:=by rcases List.mem_append.1 h2 with q | q;exact absurd q hp;exact q
   rw[if_pos hd,idxZ]at h3;by_cases hc:c=d
   ·rw[if_pos hc]at h3;exact⟨⟨fun q=>absurd h3 (by omega),fun q=>absurd q.2.2 hp⟩,⟨fun _=>⟨hc,hp⟩,fun _=>by omega⟩⟩
   ·rw[if_neg hc]at h3;have hr:d∈r:=by rcases List.mem_cons.1 hd with q | q;exact absurd q.symm hc;exact q
    have:=jfy d hr;rw[if_neg (by omega)]at h3;exact⟨⟨fun q=>absurd q.1 hc,fun q=>absurd q.1 hc⟩,⟨fun q=>by omega,fun q=>absurd q.1 hc⟩⟩
theorem mk_ro{b pre r:J}{c d f:Int}(h:DrP b d f)(hb:b=pre++c::r):rmk (roP d f c pre.length)=mk1 d (d !=0&&decide (d∈pre)) c:=by
 have e:(c==90 || (c==42 || (c==d&& (pre.length:Int) !=f)))=(hasZ [90,42] c || (d !=0&& (c==d&& (d !=0&&decide (d∈pre))))):=by
  have:=(h.eq hb).1;rw[Bool.eq_iff_iff];simp only[Bool.or_eq_true,jaf,beq_iff_eq,bne_iff_ne,jae,ja8,List.mem_cons,List.not_mem_nil,or_false];rw[this];constructor
  ·rintro (q | q | ⟨q1,q2,q3⟩)
   ·exact .inl (.inl q)
   ·exact .inl (.inr q)
   ·exact .inr ⟨q2,q1,q2,q3⟩
  ·rintro ((q | q) | ⟨q2,q1,_,q3⟩)
   ·exact .inl q
   ·exact .inr (.inl q)
   ·exact .inr (.inr ⟨q1,q2,q3⟩)
 have e2:(c==83 || (c==43 || c==45))=hasZ [83,43,45] c:=by
  rw[Bool.eq_iff_iff];simp only[Bool.or_eq_true,beq_iff_eq,ja8,List.mem_cons,List.not_mem_nil,or_false]
 unfold roP mk1;rw[e,e2];cases hasZ [57,89,84,73,82] c<;>cases(hasZ [90,42] c || (d !=0&& (c==d&& (d !=0&&decide (d∈pre))))) <;>cases c==86<;>cases c==36<;>cases hasZ [83,43,45] c<;>rfl
theorem roles_marks{b:J}{d f:Int}(h:DrP b d f):∀r pre:J,b=pre++r→(jbk d f r pre.length).map rmk=mkGo d (d !=0&&decide (d∈pre)) r
 | [],_,_=>rfl
 | c::r,pre,hb=>by
  rw[jbk,List.map_cons,mkGo,mk_ro h hb];congr 1;have ih:=roles_marks h r (pre++ [c]) (by rw[hb];simp);have e:((pre++ [c]).length:Int)=pre.length+1:=by simp
  have e2:(d !=0&&decide (d∈pre++ [c]))=(d !=0&&decide (d∈pre) || (d !=0&&c==d)):=by
   rw[Bool.eq_iff_iff];simp only[Bool.or_eq_true,jaf,beq_iff_eq,bne_iff_ne,jae,List.mem_append,List.mem_cons,List.not_mem_nil,or_false];constructor
   ·rintro ⟨q,q2 | q2⟩
    ·exact .inl ⟨q,q2⟩
    ·exact .inr ⟨q,q2.symm⟩
   ·rintro (⟨q,q2⟩ | ⟨q,q2⟩)
    ·exact⟨q,.inl q2⟩
    ·exact⟨q,.inr q2.symm⟩
  rw[e,e2]at ih;exact ih
def okR(rs:J):Prop:=∀r∈rs,0≤r∧r≤5
theorem roles_ok(d f:Int):∀(l:J)(i:Int),okR (jbk d f l i)
 | [],_=>fun r h=>by cases h
 | c::l,i=>fun r h=>by
  rw[jbk]at h;rcases List.mem_cons.1 h with rfl | h
  ·exact ro_rng _ _ _ _
  ·exact roles_ok d f l _ r h
theorem jc8{r:Int}(h:0≤r∧r≤5):r=0∨r=1∨r=2∨r=3∨r=4∨r=5:=by omega
def qgo:J→Int→Int
 | [],_=>0
 | m::r,p=>bif m==118 then qgo r (p+1)else(bif isP m then p else 0)+qgo r p
theorem jl3:∀(rs:J)(a:PlS),okR rs→0≤a.pts→0≤a.fm→
  (plGo rs a).1=(ldGo (rs.map rmk) (decide (a.fm>0)) a.bh (decide (a.pts>0)) a.dg).1∧
  ((plGo rs a).1 = true → (plGo rs a).2.dg = (ldGo (rs.map rmk) (decide (a.fm>0)) a.bh (decide (a.pts>0)) a.dg).2.2.2 ∧ (plGo rs a).2.bh = (ldGo (rs.map rmk) (decide (a.fm>0)) a.bh (decide (a.pts>0)) a.dg).2.2.1 ∧
   decide ((plGo rs a).2.fm>0)=(ldGo (rs.map rmk) (decide (a.fm>0)) a.bh (decide (a.pts>0)) a.dg).2.1∧(plGo rs a).2.pts=a.pts+cntZ (rs.map rmk) 118∧(plGo rs a).2.w=a.w+nv (rs.map rmk)∧
   (plGo rs a).2.q=a.q+qgo (rs.map rmk) a.pts∧(plGo rs a).2.fm=a.fm+cntZ (rs.map rmk) 100)
 | [],a,_,_,_=>by simp[plGo,ldGo,cntZ,nv,qgo]
 | r::rs,a,hok,hp,hf=>by
  have hr:=hok r (List.mem_cons_self ..);have hrs:okR rs:=fun x hx=>hok x (List.mem_cons_of_mem _ hx)
  have i1:=jl3 rs ⟨a.pts+1,a.bh,a.w,a.dg,a.q,a.fm⟩ hrs (by simp only;omega) hf;have i2:=jl3 rs ⟨a.pts,a.bh,a.w+1,a.dg+1,a.q+a.pts,a.fm+1⟩ hrs hp (by simp only;omega);have i3:=jl3 rs ⟨a.pts,a.bh || decide (a.pts>0),a.w+1,a.dg+1,a.q+a.pts,a.fm⟩ hrs hp hf;have i4:=jl3 rs ⟨a.pts,a.bh,a.w+1,a.dg,a.q,a.fm⟩ hrs hp hf
  have cc:∀(m x:Int),(cntZ (m::rs.map rmk) x:Int)=(if m=x then 1 else 0)+cntZ (rs.map rmk) x:=fun m x=>by
   unfold cntZ;rw[List.filter_cons];by_cases h:m=x
   ·rw[if_pos (by simpa using h),if_pos h,List.length_cons];omega
   ·rw[if_neg (by simpa using h),if_neg h];omega
  have cn:∀m:Int,(nv (m::rs.map rmk):Int)=(if m=118 then 0 else 1)+nv (rs.map rmk):=fun m=>by
   rw[jet];split<;>omega
  rw[List.map_cons,cc,cc,cn];rcases jc8 hr with rfl | rfl | rfl | rfl | rfl | rfl
  ·have e:rmk 0=100:=rfl;rw[e];simp only[jaa (show a.fm+1>0 by omega)]at i2;refine⟨i2.1,fun h=> ?_⟩;obtain⟨q1,q2,q3,q4,q5,q6,q7⟩:=i2.2 h;refine⟨q1,q2,q3,?_,?_,?_,?_⟩
   ·exact q4.trans (by simp)
   ·exact q5.trans (by simp;omega)
   ·refine q6.trans ?_;show a.q+a.pts+qgo (rs.map rmk) a.pts=a.q+(a.pts+qgo (rs.map rmk) a.pts)
    omega
   ·exact q7.trans (by simp;omega)
  ·have e:rmk 1=99:=rfl;rw[e];have e1:plGo (1::rs) a=bif decide (a.fm>0)then(false,a)else plGo rs ⟨a.pts,a.bh || decide (a.pts>0),a.w+1,a.dg+1,a.q+a.pts,a.fm⟩:=rfl;have e2:ldGo (99::rs.map rmk) (decide (a.fm>0)) a.bh (decide (a.pts>0)) a.dg=bif decide (a.fm>0)then(false,false,false,0)else ldGo (rs.map rmk) (decide (a.fm>0)) (a.bh || decide (a.pts>0)) (decide (a.pts>0)) (a.dg+1):=rfl;rw[e1,e2];cases hd:decide (a.fm>0)with
   | true=>exact⟨rfl,fun h=>by cases h⟩
   | false=>
    simp only[hd]at i3;refine⟨i3.1,fun h=> ?_⟩;obtain⟨q1,q2,q3,q4,q5,q6,q7⟩:=i3.2 h;refine⟨q1,q2,q3,?_,?_,?_,?_⟩
    ·exact q4.trans (by simp)
    ·exact q5.trans (by simp;omega)
    ·refine q6.trans ?_;show a.q+a.pts+qgo (rs.map rmk) a.pts=a.q+(a.pts+qgo (rs.map rmk) a.pts)
     omega
    ·exact q7.trans (by simp)
  ·have e:rmk 2=118:=rfl;rw[e];simp only[jaa (show a.pts+1>0 by omega)]at i1;refine⟨i1.1,fun h=> ?_⟩;obtain⟨q1,q2,q3,q4,q5,q6,q7⟩:=i1.2 h;refine⟨q1,q2,q3,?_,?_,q6,?_⟩
   ·exact q4.trans (by simp;omega)
   ·exact q5.trans (by simp)
   ·exact q7.trans (by simp)
  all_goals
   refine⟨i4.1,fun h=> ?_⟩;obtain⟨q1,q2,q3,q4,q5,q6,q7⟩:=i4.2 h;refine⟨q1,q2,q3,?_,?_,?_,?_⟩
   ·exact q4.trans (by simp[rmk])
   ·exact q5.trans (by simp[rmk];omega)
   ·refine q6.trans ?_;show a.q+qgo (rs.map rmk) a.pts=a.q+(0+qgo (rs.map rmk) a.pts)
    omega
   ·exact q7.trans (by simp[rmk])
theorem ro_isJ{b pre r:J}{c d f:Int}(h:DrP b d f)(hb:b=pre++c::r):(rmk (roP d f c pre.length)==100 || (rmk (roP d f c pre.length)==99 || c==d))=(roP d f c pre.length==0 || (roP d f c pre.length==1 || (pre.length:Int)==f)):=by
 obtain⟨h1,h2⟩:=h.eq hb;have hr:=ro_rng d f c pre.length
 have e100:(rmk (roP d f c pre.length)==100)=(roP d f c pre.length==0):=by
  rcases jc8 hr with q | q | q | q | q | q<;>rw[q] <;>rfl
 have e99:(rmk (roP d f c pre.length)==99)=(roP d f c pre.length==1):=by
  rcases jc8 hr with q | q | q | q | q | q<;>rw[q] <;>rfl
 rw[e100,e99];by_cases hf:(pre.length:Int)=f
 ·obtain⟨q1,_⟩:=h2.1 hf;have a1:((pre.length:Int)==f)=true:=by simpa using hf
  have a2:(c==d)=true:=by simpa using q1
  rw[a1,a2]
 ·have a1:((pre.length:Int)==f)=false:=by simpa using hf
  rw[a1];by_cases hc:c=d
  ·-- then a leader
   by_cases h0:(roP d f c pre.length==0)=true
   ·rw[h0];rfl
   ·have hl:roP d f c pre.length=1:=by
     have e:(c==90 || (c==42 || (c==d&& (pre.length:Int) !=f)))=true:=by
      have a3:((pre.length:Int) !=f)=true:=by simpa using hf
      have a2:(c==d)=true:=by simpa using hc
      rw[a2,a3];simp
     unfold roP at h0 ⊢;rw[e]at h0 ⊢;cases hq:hasZ [57,89,84,73,82] c with
     | true=>rw[hq]at h0;exact absurd rfl h0
     | false=>rfl
    rw[hl];simp
  ·have a2:(c==d)=false:=by simpa using hc
   rw[a2]
theorem st_in{b:J}{d f x:Int}(h:DrP b d f):∀(r pre:J)(lo hi:Int),b=pre++r→
  stIn d x r ((jbk d f r pre.length).map rmk) pre.length (decide (lo<x)) (decide (hi>x))=(decide (loGo f (jbk d f r pre.length) pre.length lo<x),decide (hiGo f (jbk d f r pre.length) pre.length hi>x))
 | [],pre,lo,hi,_=>by simp[stIn,jbk,loGo,hiGo]
 | c::r,pre,lo,hi,hb=>by
  have ih:=fun lo hi=>st_in (x:=x) h r (pre++ [c]) lo hi (by rw[hb];simp)
  have e:((pre++ [c]).length:Int)=pre.length+1:=by simp
  rw[e]at ih;rw[jbk,List.map_cons,stIn,loGo,hiGo,ro_isJ h hb];cases(roP d f c pre.length==0 || (roP d f c pre.length==1 || (pre.length:Int)==f))with
  | false=>rw[cond_false,cond_false,cond_false,ih]
  | true=>
   rw[cond_true,cond_true,cond_true,←ih]
   have e1:(decide (lo<x) || decide ((pre.length:Int)<x))=decide (imin lo pre.length<x):=by
    rw[Bool.eq_iff_iff];simp only[Bool.or_eq_true,jae];unfold imin;split<;>omega
   have e2:(decide (hi>x) || decide ((pre.length:Int)>x))=decide (imax hi pre.length>x):=by
    rw[Bool.eq_iff_iff];simp only[Bool.or_eq_true,jae];unfold imax;split<;>omega
   rw[e1,e2]
theorem ro_still{b pre r:J}{c d f:Int}(h:DrP b d f)(hb:b=pre++c::r):((roP d f c pre.length==4 || roP d f c pre.length==5) && (pre.length:Int) !=f)=(hasZ [36,83,43,45] c&& !(c==d)):=by
 obtain⟨h1,h2⟩:=h.eq hb;by_cases hc:c=d
 ·have a2:(c==d)=true:=by simpa using hc
  rw[a2,Bool.not_true,Bool.and_false];by_cases hf:(pre.length:Int)=f
  ·have a1:((pre.length:Int) !=f)=false:=by simpa using hf
   rw[a1,Bool.and_false]
  ·have a3:((pre.length:Int) !=f)=true:=by simpa using hf
   have e:(c==90 || (c==42 || (c==d&& (pre.length:Int) !=f)))=true:=by rw[a2,a3];simp
   unfold roP;rw[e];cases hasZ [57,89,84,73,82] c<;>rfl
 ·have a2:(c==d)=false:=by simpa using hc
  have hf:¬(pre.length:Int)=f:=fun q=>hc (h2.1 q).1
  have a3:((pre.length:Int) !=f)=true:=by simpa using hf
  rw[a2,a3,Bool.and_true,Bool.not_false,Bool.and_true];have e:(c==90 || (c==42 || (c==d&& (pre.length:Int) !=f)))=(c==90 || c==42):=by rw[a2];simp
  unfold roP;rw[e];by_cases m:c∈ [36,83,43,(45:Int)]
  ·have:c=36∨c=83∨c=43∨c=45:=by simpa using m
   rcases this with rfl | rfl | rfl | rfl<;>rfl
  ·have hm:hasZ [36,83,43,45] c=false:=by
    cases q:hasZ [36,83,43,45] c with
    | false=>rfl
    | true=>exact absurd (ja8.1 q) m
   rw[hm];simp only[List.mem_cons,List.not_mem_nil,or_false,not_or]at m;have b1:(c==36)=false:=by simpa using m.1
   have b2:(c==83 || (c==43 || c==45))=false:=by simp[m.2.1,m.2.2.1,m.2.2.2]
   rw[b1,b2];cases hasZ [57,89,84,73,82] c<;>cases(c==90 || c==42) <;>cases c==86<;>rfl
theorem st_law{b ms:J}{d f lo hi:Int}(h:DrP b d f)(hin:∀x:Int,0≤x→x≤b.length→stIn d x b ms 0 false false=(decide (lo<x),decide (hi>x))):∀(r pre:J),b=pre++r→
  stP f lo hi (jbk d f r pre.length) pre.length=stGo d b ms r pre.length
 | [],_,_=>rfl
 | c::r,pre,hb=>by
  have ih:=st_law h hin r (pre++ [c]) (by rw[hb];simp);have e:((pre++ [c]).length:Int)=pre.length+1:=by simp
  rw[e]at ih;have hl:(b.length:Int)=pre.length+1+r.length:=by rw[hb];simp;omega
  rw[jbk,stP,stGo,ih,hin _ (by omega) (by omega)];congr 1;have s:=ro_still h hb
  have e3:((roP d f c pre.length==4 || roP d f c pre.length==5) && ((pre.length:Int) !=f&& (decide ((pre.length:Int)>lo) &&decide ((pre.length:Int)<hi))))=(((roP d f c pre.length==4 || roP d f c pre.length==5) && (pre.length:Int) !=f) && (decide (lo<(pre.length:Int)) &&decide (hi>(pre.length:Int)))):=by
   rw[Bool.and_assoc]
  rw[e3,s];cases hasZ [36,83,43,45] c<;>cases(c==d) <;>rfl
theorem jcg(c x:Int)(l:J):(cntZ (c::l) x:Int)=(if c=x then 1 else 0)+cntZ l x:=by
 unfold cntZ;rw[List.filter_cons];by_cases h:c=x
 ·rw[if_pos (by simpa using h),if_pos h,List.length_cons];omega
 ·rw[if_neg (by simpa using h),if_neg h];omega
theorem jha(c x:Int)(l:J):hasZ (c::l) x=(c==x || hasZ l x):=rfl
def sgX(d x:Int)(pre r:J):Int:=if x=d then(if d∈pre then 0 else b2i (hasZ r x))else cntZ r x
theorem jix{d x c:Int}{pre r:J}:sgX d x pre (c::r)=(if c=x∧ ¬(x=d∧d∈pre)then 1 else 0)+sgX d x (pre++ [c]) r:=by
 unfold sgX;by_cases hx:x=d
 ·rw[if_pos hx,if_pos hx];by_cases hp:d∈pre
  ·have hp2:d∈pre++ [c]:=List.mem_append.2 (.inl hp);rw[if_pos hp,if_pos hp2,if_neg (fun q=>q.2 ⟨hx,hp⟩)];rfl
  ·rw[if_neg hp,jha];by_cases hc:c=x
   ·have hp2:d∈pre++ [c]:=List.mem_append.2 (.inr (by rw[hc,hx];exact List.mem_singleton.2 rfl));rw[if_pos ⟨hc,fun q=>hp q.2⟩,if_pos hp2];have:(c==x)=true:=by simpa using hc
    rw[this];rfl
   ·have:(c==x)=false:=by simpa using hc
    have hp2:d∉pre++ [c]:=fun q=>by
     rcases List.mem_append.1 q with q | q
     ·exact hp q
     ·exact hc (by rw[hx];exact(List.mem_singleton.1 q).symm)
    rw[if_neg (fun q=>hc q.1),if_neg hp2,this,Bool.false_or];omega
 ·rw[if_neg hx,if_neg hx,jcg];by_cases hc:c=x
  ·rw[if_pos hc,if_pos ⟨hc,fun q=>hx q.1⟩]
  ·rw[if_neg hc,if_neg (fun q=>hc q.1)]
theorem si_law{b:J}{d f:Int}(h:DrP b d f):∀(r pre:J),b=pre++r→
  siGo r (jbk d f r pre.length)=sgX d 83 pre r+sgX d 43 pre r+sgX d 45 pre r+cntZ r 84+cntZ r 73+cntZ r 82
 | [],pre,_=>by
  have:∀x,sgX d x pre []=0:=fun x=>by unfold sgX;split<;>(try split) <;>rfl
  rw[this,this,this];rfl
 | c::r,pre,hb=>by
  have ih:=si_law h r (pre++ [c]) (by rw[hb];simp);have e:((pre++ [c]).length:Int)=pre.length+1:=by simp
  rw[e]at ih;rw[jbk,siGo,ih,jix,jix,jix,jcg,jcg,jcg]
  have key:(bif roP d f c pre.length==4 || hasZ [84,73,82] c then(1:Int)else 0)=(if c=83∧ ¬((83:Int)=d∧d∈pre)then 1 else 0)+(if c=43∧ ¬((43:Int)=d∧d∈pre)then 1 else 0)+(if c=45∧ ¬((45:Int)=d∧d∈pre)then 1 else 0)+(if c=84 then 1 else 0)+(if c=73 then 1 else 0)+(if c=82 then 1 else 0):=by
   obtain⟨h1,h2⟩:=h.eq hb;by_cases m:c=83∨c=43∨c=45
   ·-- a sign
    have hc0:c≠0:=by omega
    have hl:(c=d∧(pre.length:Int)≠f)↔(c=d∧d∈pre):=by
     rw[h1];exact⟨fun q=>⟨q.1,q.2.2⟩,fun q=>⟨q.1,by rw[←q.1];exact hc0,q.2⟩⟩
    by_cases hs:c=d∧d∈pre
    ·have hq:=hl.2 hs;have e1:(c==d&& (pre.length:Int) !=f)=true:=by simpa using hq
     have hr:roP d f c pre.length=1:=by
      unfold roP;rw[e1];rcases m with rfl | rfl | rfl<;>simp<;>rfl
     rw[hr];rcases m with rfl | rfl | rfl
     ·rw[if_neg (fun q=>q.2 hs)];rfl
     ·rw[if_neg (fun q=>by omega),if_neg (fun q=>q.2 hs)];rfl
     ·rw[if_neg (fun q=>by omega),if_neg (fun q=>by omega),if_neg (fun q=>q.2 hs)];rfl
    ·have hq:¬(c=d∧(pre.length:Int)≠f):=fun q=>hs (hl.1 q)
     have e1:(c==d&& (pre.length:Int) !=f)=false:=by
      cases q:(c==d&& (pre.length:Int) !=f)with
      | false=>rfl
      | true=>exact absurd (by simpa using q) hq
     have hr:roP d f c pre.length=4:=by
      unfold roP;rw[e1];rcases m with rfl | rfl | rfl<;>rfl
     rw[hr];rcases m with rfl | rfl | rfl
     ·rw[if_pos ⟨rfl,hs⟩];rfl
     ·rw[if_neg (fun q=>by omega),if_pos ⟨rfl,hs⟩];rfl
     ·rw[if_neg (fun q=>by omega),if_neg (fun q=>by omega),if_pos ⟨rfl,hs⟩];rfl
   ·have hr:(roP d f c pre.length==4)=false:=by
     have e2:(c==83 || (c==43 || c==45))=false:=by simp;omega
     unfold roP;rw[e2];cases hasZ [57,89,84,73,82] c<;>cases(c==90 || (c==42 || (c==d&& (pre.length:Int) !=f))) <;>cases c==86<;>cases c==36<;>rfl
    rw[hr,Bool.false_or,if_neg (fun q=>by omega),if_neg (fun q=>by omega),if_neg (fun q=>by omega)];by_cases k:c=84∨c=73∨c=82
    ·rcases k with rfl | rfl | rfl<;>rfl
    ·have:hasZ [84,73,82] c=false:=by
      cases q:hasZ [84,73,82] c with
      | false=>rfl
      | true=>rw[ja8]at q;simp at q;omega
     rw[this,if_neg (by omega),if_neg (by omega),if_neg (by omega)];rfl
  rw[key];omega
theorem cnt_app'(a b:J)(c:Int):(cntZ (a++b) c:Int)=cntZ a c+cntZ b c:=by rw[jju];omega
theorem mk_118{dr:Int}(hd:dr=0∨hasZ [36,83,43,45] dr=true):∀(l:J)(seen:Bool),(cntZ (mkGo dr seen l) 118:Int)=cntZ l 86
 | [],_=>rfl
 | c::r,seen=>by
  have hm:=jld hd seen c;rw[mkGo,jcg,jcg,mk_118 hd r];by_cases h:c=86
  ·rw[if_pos h,if_pos (hm.2 h)]
  ·rw[if_neg h,if_neg fun e=>h (hm.1 e)]
theorem has_cnt{l:J}{c:Int}(h:(cntZ l c:Int)≤1):(cntZ l c:Int)=b2i (hasZ l c):=by
 induction l with
 | nil=>rfl
 | cons x l ih=>
  rw[jcg]at h ⊢;rw[jha];by_cases hx:x=c
  ·have:(x==c)=true:=by simpa using hx
   rw[if_pos hx]at h ⊢;rw[this,Bool.true_or];have:(cntZ l c:Int)=0:=by omega
   rw[this];rfl
  ·have:(x==c)=false:=by simpa using hx
   rw[if_neg hx]at h ⊢;rw[this,Bool.false_or,Int.zero_add];exact ih (by omega)
theorem q_law{dr:Int}(hd:dr=0∨hasZ [36,83,43,45] dr=true){l t:J}:∀(r pre:J)(seen:Bool),l=pre++r++t→(cntZ (pre++r) 86:Int)≤1→
  qgo (mkGo dr seen r) (cntZ pre 86)=pqGo l (mkGo dr seen r) pre.length
 | [],_,_,_,_=>rfl
 | c::r,pre,seen,hl,hc=>by
  have ih:=q_law hd (l:=l) (t:=t) r (pre++ [c]) (seen || (dr !=0&&c==dr)) (by rw[hl];simp) (by simpa using hc);have hm:=jld hd seen c;have e:((pre++ [c]).length:Int)=pre.length+1:=by simp
  have hk:(cntZ pre 86:Int)≤1:=by
   rw[cnt_app']at hc;omega
  have ht:l.take (pre.length:Int).toNat=pre:=by
   rw[hl,Int.toNat_natCast,List.append_assoc];simp
  rw[cnt_app',e]at ih
  have e1:(cntZ [c] 86:Int)=if c=86 then 1 else 0:=by
   have:=jcg c 86 [];rw[this];have:(cntZ [] 86:Int)=0:=rfl;omega
  rw[e1]at ih;rw[mkGo,qgo,pqGo,ht,←ih];by_cases h:c=86
  ·have hm2:=hm.2 h;rw[hm2];have:isP 118=false:=rfl;rw[this,if_pos h];show qgo _ _=0+qgo _ _;rw[Int.zero_add]
  ·have hn:(mk1 dr seen c==118)=false:=by
    cases q:(mk1 dr seen c==118)with
    | false=>rfl
    | true=>exact absurd (hm.1 (eq_of_beq q)) h
   rw[hn,cond_false,if_neg h,Int.add_zero,has_cnt hk];cases isP (mk1 dr seen c) <;>cases hasZ pre 86<;>rfl
theorem pq_app(s:J):∀(a b:J)(i:Int),pqGo s (a++b) i=pqGo s a i+pqGo s b (i+a.length)
 | [],b,i=>by simp[pqGo]
 | m::a,b,i=>by
  rw[List.cons_append,pqGo,pqGo,pq_app s a b,List.length_cons];have:i+1+(a.length:Int)=i+((a.length+1:Nat):Int):=by omega
  rw[this];omega
theorem char_any{l:J}(h:(jal l).any (hasZ [65,88,67,68])=false):jez l=false:=by
 cases hc:jez l with
 | false=>rfl
 | true=>
  exfalso;simp only[jez,jaf,List.all_eq_true,Bool.or_eq_true]at hc;obtain⟨h1,h2⟩:=hc
  have hcr:crZ l=false:=by
   cases q:crZ l with
   | false=>rfl
   | true=>
    exfalso;simp only[crZ,jaf,Bool.or_eq_true,jae]at q;rcases q.2 with q | q
    ·have hm:(67:Int)∈l.drop (l.length-2):=by rw[q];simp
     exact absurd (h1 _ (List.mem_of_mem_drop hm)) (by decide)
    ·have hm:(68:Int)∈l.drop (l.length-2):=by rw[q];simp
     exact absurd (h1 _ (List.mem_of_mem_drop hm)) (by decide)
  have hb:jal l=l:=by rw[jif hcr];rfl
  rw[hb,List.any_eq_false]at h;rcases h2 with q | q
  ·exact h 65 (ja8.1 q) (by decide)
  ·exact h 88 (ja8.1 q) (by decide)
structure NumL (l:J):Prop where
 drP:DrP (jal l) (drZ (jal l)) (nD (jal l)).2.2
 d:(nD (jal l)).2.1=drZ (jal l)
 roles:(nR (jal l)).map rmk=mkGo (drZ (jal l)) false (jal l)
 ok:okR (nR (jal l))
 w:(nP (jal l)).2.w+(bif crZ l then 2 else 0)=l.length-cntZ l 86
 dg:(nP (jal l)).2.dg=pdGo (jas l)
 q:(nP (jal l)).2.q=pqGo l (jas l) 0
 g:nG (jal l) (crZ l)=jdh l
 fm:(nP (jal l)).2.fm=cntZ (mkGo (drZ (jal l)) false (jal l)) 100
theorem num_law{l:J}(hz:∀c∈jal l,c≠0):numQ (jal l) (crZ l)=numV l∧(numV l=true→NumL l):=by
 cases hA:anyZ (jal l) [65,88,67,68]with
 | true=>
  have hA':(jal l).any (hasZ [65,88,67,68])=true:=hA;have e1:numQ (jal l) (crZ l)=false:=by rw[numQ,hA];rfl
  have e2:numV l=false:=by rw[numV,hA'];cases jez l<;>rfl
  rw[e1,e2];exact⟨rfl,fun h=>by cases h⟩
 | false=>
  have hA':(jal l).any (hasZ [65,88,67,68])=false:=hA;have hch:=char_any hA';obtain⟨d1,d2⟩:=nD_law (jal l);cases hD:jcl (jal l)with
  | false=>
   have e1:numQ (jal l) (crZ l)=false:=by rw[numQ,d1,hD];simp
   have e2:numV l=false:=by rw[numV,hD];simp
   rw[e1,e2];exact⟨rfl,fun h=>by cases h⟩
  | true=>
   obtain⟨d2,d3⟩:=d2 hD
   have hP:DrP (jal l) (drZ (jal l)) (nD (jal l)).2.2:=by
    refine⟨hz,?_⟩;by_cases h0:drZ (jal l)=0
    ·rw[if_pos h0]at d3;exact .inl ⟨h0,d3⟩
    ·rw[if_neg h0]at d3;obtain⟨f1,f2⟩:=(jgf (jal l) (jal l)).resolve_left h0;exact .inr ⟨h0,f2,d3,(jgt f1).1⟩
   have hd:drZ (jal l)=0∨hasZ [36,83,43,45] (drZ (jal l))=true:=(jh9 _ _).imp id And.left;have eR:nR (jal l)=jbk (drZ (jal l)) (nD (jal l)).2.2 (jal l) 0:=by rw[nR,d2]
   have hroles:(nR (jal l)).map rmk=mkGo (drZ (jal l)) false (jal l):=by
    have:=roles_marks hP (jal l) [] rfl;rw[eR];simpa using this
   have hok:okR (nR (jal l)):=by rw[eR];exact roles_ok _ _ _ _
   obtain⟨p1,p2⟩:=jl3 (nR (jal l)) ⟨0,false,0,0,0,0⟩ hok (by simp only;omega) (by simp only;omega);simp only[hroles]at p1 p2;have z0:decide ((0:Int)>0)=false:=rfl;rw[z0]at p1 p2;rw[mk_118 hd]at p2;have p1:(nP (jal l)).1=(ldGo (mkGo (drZ (jal l)) false (jal l)) false false false 0).1:=p1
   have eSt:nSt (jal l)=(hasZ (jal l) 90&&hasZ (jal l) 42 || (hasZ (jal l) 90 || hasZ (jal l) 42) &&drZ (jal l) !=0):=by
    rw[nSt,d2];cases hasZ (jal l) 42<;>cases hasZ (jal l) 90<;>rfl
   have eS:nS (jal l)=je7 (jal l) (mkGo (drZ (jal l)) false (jal l)):=by
    have hin:∀x:Int,0≤x→x≤(jal l).length→stIn (drZ (jal l)) x (jal l) (mkGo (drZ (jal l)) false (jal l)) 0 false false=
      (decide (loGo (nD (jal l)).2.2 (nR (jal l)) 0 (jal l).length<x),decide (hiGo (nD (jal l)).2.2 (nR (jal l)) 0 (-1)>x)):=fun x h0 h1=>by
     have:=st_in (x:=x) hP (jal l) [] (jal l).length (-1) rfl;rw[jad (show¬((jal l).length:Int)<x by omega),jad (show¬(-1:Int)>x by omega)]at this;rw[←hroles,eR];exact this
    rw[nS,je7];have:=st_law hP hin (jal l) [] rfl;rw[eR];rw[eR]at this;exact this
   have eG:nG (jal l) (crZ l)=jdh l:=by
    have hs:=si_law hP (jal l) [] rfl
    have one:∀x∈ [36,83,43,(45:Int)],x≠drZ (jal l)→(cntZ (jal l) x:Int)≤1:=fun x hx hne=>by
     cases hq:decide ((cntZ (jal l) x:Int)<2)with
     | true=>have:=jab hq;omega
     | false=>
      have hf:=(jkr hx).2 (jac hq);have hm:=jjt (jgt hf).2;have h0:drZ (jal l)≠0:=jkv (jal l) hf (jal l) hm;have h0':(drZ (jal l)==0)=false:=by simpa using h0
      rw[jcl,h0',Bool.false_or,jaf,jic,List.all_eq_true]at hD;have:=hD.1 x hm;rw[hf]at this;simp only[Bool.not_true,Bool.or_false,beq_iff_eq]at this;exact absurd this hne
    have sx:∀x∈ [36,83,43,(45:Int)],sgX (drZ (jal l)) x [] (jal l)=b2i (hasZ (jal l) x):=fun x hx=>by
     unfold sgX;split
     ·simp
     ·rename_i hne;exact has_cnt (one x hx hne)
    rw[sx 83 (by simp),sx 43 (by simp),sx 45 (by simp)]at hs;rw[nG,jdh,eR];have hs':siGo (jal l) (jbk (drZ (jal l)) (nD (jal l)).2.2 (jal l) 0)=_:=hs;rw[hs'];cases crZ l<;>simp[b2i] <;>omega
   have eQ:numQ (jal l) (crZ l)=numV l:=by
    rw[numQ,numV,hA,hA',hch,d1,hD,eG,eS,eSt,jgq hA',jdp,nPok,p1];cases hl:(ldGo (mkGo (drZ (jal l)) false (jal l)) false false false 0).1 with
    | false=>cases hasZ (jal l) 90<;>cases hasZ (jal l) 42<;>cases drZ (jal l) !=0<;>simp
    | true=>
     obtain⟨g1,g2,g3,g4,g5,g6,g7⟩:=p2 (p1.trans hl);have g1:(nP (jal l)).2.dg=_:=g1;have g2:(nP (jal l)).2.bh=_:=g2;have g3:decide ((nP (jal l)).2.fm>0)=_:=g3;have g4:(nP (jal l)).2.pts=_:=g4;rw[g1,g2,g3,g4];simp only[Int.zero_add];generalize (ldGo (mkGo (drZ (jal l)) false (jal l)) false false false 0).2.2.2=dg;generalize (ldGo (mkGo (drZ (jal l)) false (jal l)) false false false 0).2.2.1=bh;generalize (ldGo (mkGo (drZ (jal l)) false (jal l)) false false false 0).2.1=fm;cases hasZ (jal l) 90<;>cases hasZ (jal l) 42<;>cases drZ (jal l) !=0<;>cases decide ((cntZ (jal l) 86:Int)≤1) <;>cases decide (dg≥1) <;>cases decide (dg≤9) <;>cases bh<;>cases fm<;>cases decide (jdh l≤1) <;>cases je7 (jal l) (mkGo (drZ (jal l)) false (jal l)) <;>rfl
   refine⟨eQ,fun hV=> ?_⟩;have hN:=numV_iff.1 hV
   have hl:(ldGo (mkGo (drZ (jal l)) false (jal l)) false false false 0).1=true:=by
    have:=hN.ld;unfold jdp at this;cases h1:(hasZ (jal l) 90&&hasZ (jal l) 42)with
    | true=>rw[h1]at this;cases this
    | false=>
     rw[h1,cond_false]at this;cases h2:((hasZ (jal l) 90 || hasZ (jal l) 42) &&drZ (jal l) !=0)with
     | true=>rw[h2]at this;cases this
     | false=>
      rw[h2,cond_false]at this;simp only[jaf]at this;exact this.1
   obtain⟨g1,g2,g3,g4,g5,g6,g7⟩:=p2 (p1.trans hl);simp only[Int.zero_add]at g5 g6 g7;have eM:jas l=mkGo (drZ (jal l)) false (jal l)++(if crZ l=true then [115,115]else []):=rfl;refine⟨hP,d2,hroles,hok,?_,?_,?_,eG,g7⟩
   ·have:=jg9 l;rw[eM,nv_app]at this;have h5:(nP (jal l)).2.w=_:=g5;rw[h5];cases hc:crZ l with
    | false=>rw[hc]at this;have e0:nv (if(false:Bool)=true then [115,115]else [])=0:=rfl;rw[e0]at this;simp only[cond_false];omega
    | true=>rw[hc]at this;have e0:nv (if(true:Bool)=true then [115,115]else [])=2:=rfl;rw[e0]at this;simp only[cond_true];omega
   ·have h1:(nP (jal l)).2.dg=_:=g1;rw[h1,jik _ _ _ _ _ hl,eM,jl4];cases crZ l<;>simp[pdGo,isP]
   ·have h6:(nP (jal l)).2.q=_:=g6;rw[h6,eM,pq_app];obtain⟨t,h,ht⟩:=je1 l;have:=q_law hd (l:=l) (t:=t) (jal l) [] false (by simpa using h) (by simpa using hN.one);have e0:((cntZ [] 86:Nat):Int)=0:=rfl;rw[e0]at this;have e1:(([]:J).length:Int)=0:=rfl;rw[e1]at this;rw[this];cases crZ l with
    | false=>simp[pqGo]
    | true=>simp[pqGo,isP]
end Go.Px
end
noncomputable section
namespace Go.Px
open Go Go.Ab Go.Proofs Go.Shelf
section
variable {P : Program} {G : Env} {L : Nat → Option jb9} {f : FuncId} {fn : Func}
theorem jja{h:E→Lk→Nat→(Value→Lk→Nat→Prop)→Prop}(hG:jax P G)(hm:P.follows .mixedOrders=true)(hf:Fn1 P f fn)(hL:LOKf P L fn)
  (H : ∀ args m n K, h args m n K → ∃ (args' : E) (m0 : Lk) (n0 : Nat) (ρ : Nat → Nat) (R : Value → O → Prop), SubM m ρ m0 n0 ∧ (∀ ι : Nm, args'.map (ren fun j => ι (ρ j)) = args.map (ren ι)) ∧ args'.length ≤ fn.ntmps ∧ (∀ v ∈ args', ∀ j ∈ ids v, j<n0) ∧
   jeb P G L fn args' m0 n0 (fun v' m' _=>R v' (look m' v'))∧
   ∀v' m',R v' (look m' v')→ ∃v mm nn σ,((∀k b,m k=some b→k<n)→NewM m n m' mm nn σ)∧(∀i∈ids v,n≤i∧i<nn)∧(∀ι' ι'':Nm,(∀i,n≤i→ι'' i=ι' (σ i))→ren ι'' v=ren ι' v')∧K v mm nn):jc7 P f h:=by
 obtain⟨h1,h2,h3,h4⟩:=hf;cases hb:fn.body with
 | none=>rw[hb]at h2;cases h2
 | some c=>
  simp only[hb]at h4;simp only[LOKf,hb]at hL;refine⟨⟨fn,h1,h3,by rw[hb];rfl⟩,fun args m n K hh N w0 ι w hrel hwf hargs=> ?_⟩;obtain⟨args',m0,n0,ρ,R,hs,ha,hlen,hids,hd,hR⟩:=H _ _ _ _ hh;rw[jeb]at hd;rw[←ha ι];refine(jd2 (N:=w.heap.size) (w0:=w) (ι:=fun j=>ι (ρ j)) hG hm h1 hb h4 hL hlen hd (hs.rel hrel) hs.lt hids).mono fun e w' ⟨v',m',n',ι',he,hv',_,_,hm',_,_⟩=> ?_
  obtain⟨v,mm,nn,σ,hn,hvi,hvr,hk⟩:=hR v' m' hv';have hn:=hn fun k b hk=>(hwf k b hk).1
  obtain⟨q1,q2⟩:=hn.rel hrel hwf hm';refine⟨v,mm,nn,_,?_,hk,hn.le,fun k hk=>nmJ_old hk,q1,q2,fun j hj=>(hvi j hj).2⟩;rw[he,hvr ι' _ fun i hi=>nmJ_new hi]
end
theorem jiv(m:Lk)(ρ:Nat→Nat)(n:Nat):SubM m ρ (fun _=>none) n:=⟨fun _ _ h=>(by cases h),fun _ _ h=>(by cases h)⟩
theorem new_none{m:Lk}{n:Nat}(hwf:∀k b,m k=some b→k<n)(m':Lk)(σ:Nat→Nat):NewM m n m' m n σ:=
 ⟨Nat.le_refl _,fun _ _=>rfl,fun j b h hj=>by have:=hwf j b hj;omega,fun j j' b b' h _ hj=>by have:=hwf j b hj;omega⟩
theorem new_one{m:Lk}{n:Nat}(hwf:∀k b,m k=some b→k<n){m':Lk}{a:Nat}{c:E}{ty:TypeId}(ha:m' a=some ⟨c,ty,true⟩)(hc:ja5 c=true)(hit:Nat.ble itTy ty=false):
  NewM m n m' (m.upd n ⟨c,ty,true⟩) (n+1) (fun _=>a):=by
 have hget:∀j b,n≤j→m.upd n ⟨c,ty,true⟩ j=some b→j=n∧b=⟨c,ty,true⟩:=fun j b hj h=>by
  by_cases e:j=n
  ·subst e;rw[Lk.upd_same]at h;cases h;exact⟨rfl,rfl⟩
  ·rw[Lk.upd_other _ _ e]at h;have:=hwf j b h;omega
 refine⟨by omega,fun j hj=>Lk.upd_other _ _ (by omega),fun j b hj h=> ?_,fun j j' b b' hj hj' h h' hne=> ?_⟩
 ·obtain⟨rfl,rfl⟩:=hget j b hj h;exact⟨by omega,fun i hi=>(by rw[jaq hc]at hi;cases hi),rfl,hit,⟨c,ty,true⟩,ha,rfl,rfl,fun ι' ι'' _=>renMap_congr fun k hk=>by rw[jaq hc]at hk;cases hk⟩
 ·have e1:=(hget j b hj h).1;have e2:=(hget j' b' hj' h').1;omega
theorem new_form{m:Lk}{n:Nat}(hwf:∀k b,m k=some b→k<n){m':Lk}{a x k cap:Nat}{A B d:E}{ty ty2:TypeId}(ha:m' a=some ⟨A++ .slice (some ⟨x,0,some 1⟩) k cap::B,ty,true⟩)
  (hx:m' x=some ⟨d,ty2,true⟩) (hA:ja5 A=true) (hB:ja5 B=true) (hd:ja5 d=true) (hit:Nat.ble itTy ty=false) (hit2:Nat.ble itTy ty2=false) (hne:a≠x):
  NewM m n m' ((m.upd n ⟨A++ .slice (some ⟨n+1,0,some 1⟩) k cap::B,ty,true⟩).upd (n+1) ⟨d,ty2,true⟩) (n+2) (fun j=>if j=n then a else x):=by
 have hget:∀j b,n≤j→((m.upd n ⟨A++ .slice (some ⟨n+1,0,some 1⟩) k cap::B,ty,true⟩).upd (n+1) ⟨d,ty2,true⟩) j=some b→
   (j=n∧b=⟨A++ .slice (some ⟨n+1,0,some 1⟩) k cap::B,ty,true⟩)∨(j=n+1∧b=⟨d,ty2,true⟩):=fun j b hj h=>by
  by_cases e:j=n+1
  ·subst e;rw[Lk.upd_same]at h;cases h;exact .inr ⟨rfl,rfl⟩
  ·rw[Lk.upd_other _ _ e]at h;by_cases e2:j=n
   ·subst e2;rw[Lk.upd_same]at h;cases h;exact .inl ⟨rfl,rfl⟩
   ·rw[Lk.upd_other _ _ e2]at h;have:=hwf j b h;omega
 have hids:∀y i,i∈idsL (A++Value.slice (some ⟨y,0,some 1⟩) k cap::B)→i=y:=fun y i hi=>by
  obtain⟨v,hv,hi⟩:=ja3.1 hi;rcases List.mem_append.1 hv with hv | hv
  ·rw[jbn (jbc.1 hA v hv)]at hi;cases hi
  ·rcases List.mem_cons.1 hv with rfl | hv
   ·simpa[ids]using hi
   ·rw[jbn (jbc.1 hB v hv)]at hi;cases hi
 refine⟨by omega,fun j hj=>by rw[Lk.upd_other _ _ (by omega),Lk.upd_other _ _ (by omega)],fun j b hj h=> ?_,fun j j' b b' hj hj' h h' hn=> ?_⟩
 ·rcases hget j b hj h with⟨rfl,rfl⟩ | ⟨rfl,rfl⟩
  ·refine⟨by omega,fun i hi=>by have:=hids _ i hi;omega,rfl,hit,⟨A++ .slice (some ⟨x,0,some 1⟩) k cap::B,ty,true⟩,by rw[if_pos rfl];exact ha,rfl,rfl,fun ι' ι'' hι=> ?_⟩;rw[List.map_append,List.map_append,List.map_cons,List.map_cons];have e1:A.map (ren ι'')=A.map (ren ι'):=renMap_congr fun k hk=>by rw[jaq hA]at hk;cases hk
   have e2:B.map (ren ι'')=B.map (ren ι'):=renMap_congr fun k hk=>by rw[jaq hB]at hk;cases hk
   have e3:ι'' (j+1)=ι' x:=by rw[hι (j+1) (by omega),if_neg (by omega)]
   rw[e1,e2];simp[ren,ren1,e3]
  ·refine⟨by omega,fun i hi=>(by rw[jaq hd]at hi;cases hi),rfl,hit2,⟨d,ty2,true⟩,(by rw[if_neg (by omega)];exact hx),rfl,rfl,fun ι' ι'' _=>renMap_congr fun k hk=>by rw[jaq hd]at hk;cases hk⟩
 ·rcases hget j b hj h with⟨rfl,rfl⟩ | ⟨rfl,rfl⟩ <;>rcases hget j' b' hj' h' with⟨rfl,rfl⟩ | ⟨rfl,rfl⟩
  ·exact absurd rfl hn
  ·rw[if_pos rfl,if_neg (by omega)];exact hne
  ·rw[if_neg (by omega),if_pos rfl];exact hne.symm
  ·exact absurd rfl hn
theorem look_form{m:Lk}{a x k cap:Nat}{c d:E}{ty ty2:TypeId}(hc:c[6]?=some (.slice (some ⟨x,0,some 1⟩) k cap))
  (h:look m (.tuple ⟨[.pointer (some ⟨a,0,some 0⟩),.bool true]⟩)=[some ⟨c,ty,true⟩,some ⟨d,ty2,true⟩]):m a=some ⟨c,ty,true⟩∧m x=some ⟨d,ty2,true⟩:=by
 simp only[look]at h;cases ha:m a with
 | none=>rw[ha]at h;cases h
 | some b=>
  rw[ha]at h;simp only at h;split at h
  ·rename_i a' l' c' hc';simp only[List.cons.injEq,and_true]at h;obtain⟨h1,h2⟩:=h;cases h1;rw[hc]at hc';cases hc';exact⟨rfl,h2⟩
  ·cases h
def frm(l:J)(x k cap:Nat):E:=[.string (sz l),.bool true,.int .i64 (l.length-cntZ l 86),.int .i64 (pdGo (jas l)),.int .i64 (pqGo l (jas l) 0),.bool (jdh l==1)]++
 .slice (some ⟨x,0,some 1⟩) k cap::[.int .u8 (drZ (jal l)),.int .i64 (nD (jal l)).2.2,.bool (crZ l),.int .u8 (fdFl l),.int .i64 (cntZ (mkGo (drZ (jal l)) false (jal l)) 100)]
def rolF(l:J):J:=nR (jal l)++(bif crZ l then [4,4]else [])
def allK(l:J):Bool:=l.all (hasZ kL)
theorem jih{l:J}(h:allK l=true):asc l=true∧ ∀c∈l,c≠0:=by
 simp only[allK,List.all_eq_true]at h;refine⟨?_,fun c hc=> ?_⟩
 ·simp only[asc,List.all_eq_true,jae];exact fun c hc=>(jl8 (h c hc)).2
 ·rintro rfl;exact absurd (h 0 hc) (by decide)
theorem body_sub{l:J}{c:Int}(h:c∈jal l):c∈l:=by
 unfold jal at h;split at h
 ·exact List.mem_of_mem_take h
 ·exact h
theorem star_body(l:J):hasZ (jal l) 42=hasZ l 42:=by
 obtain⟨t,h,ht⟩:=je1 l
 have e:hasZ l 42=(hasZ (jal l) 42 || hasZ t 42):=by
  conv=>lhs;rw[h]
  simp[hasZ]
 rw[e];rcases ht with⟨rfl,_⟩ | ⟨rfl | rfl,_⟩
 ·simp[hasZ]
 ·have:hasZ [67,82] 42=false:=by decide
  rw[this,Bool.or_false]
 ·have:hasZ [68,66] 42=false:=by decide
  rw[this,Bool.or_false]
theorem form_frm{s:Y}(h:NumL (bz s))(x k cap:Nat):jj9 s (crZ (bz s)) x k cap=frm (bz s) x k cap:=by
 have e:(bif hasZ (jal (bz s)) 42 then(42:Int)else 32)=fdFl (bz s):=by
  rw[star_body,fdFl];cases hasZ (bz s) 42<;>rfl
 rw[jj9,h.w,h.dg,h.q,h.g,h.d,h.fm,e,frm,jhk];rfl
def h103:E→Lk→Nat→(Value→Lk→Nat→Prop)→Prop:=fun args m n K=>match args with
 | [.string s]=>match cnd (decide (s.size≤32) &&allK (bz s))with
  | true=>bif numV (bz s)then∀(k cap:Nat)(d:E),jbu d k cap=true→zc d k=rolF (bz s)→K (.tuple ⟨[.pointer (some ⟨n,0,some 0⟩),.bool true]⟩) ((m.upd n ⟨frm (bz s) (n+1) k cap,156,true⟩).upd (n+1) ⟨d,251,true⟩) (n+2)
   else K (.tuple ⟨[.pointer none,.bool false]⟩) m n
  | false=>False
 | _=>False
def R103(s:Y)(v:Value)(bs:O):Prop:=(numV (bz s)=false∧v= .tuple ⟨[.pointer none,.bool false]⟩)∨(numV (bz s)=true∧v= .tuple ⟨[.pointer (some ⟨3,0,some 0⟩),.bool true]⟩∧ ∃x k cap d,RowI d k cap∧zc d k=rolF (bz s)∧bs=[some ⟨frm (bz s) x k cap,156,true⟩,some ⟨d,251,true⟩])
theorem w103'(s:Y)(hs:s.size≤32)(hk:allK (bz s)=true):jeb Tryz.prog G25 noL Tryz.f204 [.string s] (fun _=>none) 0 (fun v m _=>R103 s v (look m v)):=by
 obtain⟨ha,h0⟩:=jih hk;obtain⟨q1,q2⟩:=num_law (l:=bz s) fun c hm=>h0 c (body_sub hm)
 have A1:numQ (jal (bz s)) (crZ (bz s))=false→R103 s (.tuple ⟨[.pointer none,.bool false]⟩) []:=fun hn=> .inl ⟨by rw[←q1];exact hn,rfl⟩
 have A2:numQ (jal (bz s)) (crZ (bz s))=true→ ∀(x m cap:Nat)(d:E),RowI d m cap→zc d m=jlb s (crZ (bz s))→
   R103 s (.tuple ⟨[.pointer (some ⟨3,0,some 0⟩),.bool true]⟩) [some ⟨jj9 s (crZ (bz s)) x m cap,156,true⟩,some ⟨d,251,true⟩]:=fun hy x k cap d r1 r2=>by
  rw[q1]at hy;rw[form_frm (q2 hy)];exact .inr ⟨hy,rfl,x,k,cap,d,r1,r2,rfl⟩
 exact w103 s hs ha (R103 s) A1 A2
theorem fn103:Fn1 Tryz.prog 204 Tryz.f204:= .m Tryz.func204
theorem h103_ok:jc7 Tryz.prog 204 h103:=by
 refine jja ok_G25 hmix fn103 jai fun args m n K h=> ?_
 unfold h103 at h;split at h
 case h_2=>exact h.elim
 rename_i s;split at h
 case h_2=>exact h.elim
 rename_i hc;simp only[cnd,jaf,jae]at hc;refine⟨[.string s],fun _=>none,0,id,R103 s,jiv _ _ _,fun ι=>by simp[ren],jag,fun v hv j hj=> ?_,w103' s hc.1 hc.2,fun v' m' hR=> ?_⟩
 ·simp at hv;subst hv;simp[ids]at hj
 ·rcases hR with⟨hv,rfl⟩ | ⟨hv,rfl,x,k,cap,d,r1,r2,hbs⟩
  ·rw[hv]at h;exact⟨_,m,n,id,fun hwf=>new_none hwf _ _,by simp[ids,idsL],fun _ _ _=>by simp[ren,renL],h⟩
  ·rw[hv]at h;obtain⟨a1,a2⟩:=look_form (x:=x) (k:=k) (cap:=cap) rfl hbs;refine⟨_,_,_,fun j=>if j=n then 3 else x,fun hwf=>new_form hwf a1 a2 rfl rfl r1.plain rfl rfl ?_,?_,fun ι' ι'' hι=> ?_,h k cap d (jaw.2 r1) r2⟩
   ·rintro rfl;rw[a1]at a2;cases a2
   ·intro i hi;have:i=n:=by simpa[ids,idsL]using hi
    omega
   ·have e:=hι n (Nat.le_refl _);simp only[if_true]at e;simp[ren,renL,ren1,e]
def G26:Env:=(((Env.nil.add 203 (sp2 s102)).add 55 (sp2 s89)).add 188 (sp1 s80)).addG 204 h103
theorem ok_G26:jax Tryz.prog G26:=jam (jak (jak (jak jan ok102) ok89) ok80) h103_ok
theorem jh7{p:Int→Bool}:∀{l:J},l.dropWhile p=[]↔ ∀c∈l,p c=true
 | []=>by simp
 | c::l=>by
  rw[List.dropWhile_cons];cases h:p c with
  | true=>simp only[if_true];rw[jh7 (l:=l)];simp[h]
  | false=>simp[h]
theorem jis{l cs:J}:jb4 l cs=[]↔ ∀c∈l,hasZ cs c=true:=by
 unfold jb4;rw[jh7];constructor
 ·intro h c hc;cases hq:hasZ cs c with
  | true=>rfl
  | false=>
   exfalso
   -- c stays in what is left
   have:∀r:J,c∈r→c∈r.dropWhile (hasZ cs):=by
    intro r
    induction r with
    | nil=>exact fun h=>by cases h
    | cons x r ih=>
     intro hx;rw[List.dropWhile_cons];cases hh:hasZ cs x with
     | false=>simpa using hx
     | true=>
      rw[if_pos rfl];rcases List.mem_cons.1 hx with rfl | hx
      ·rw[hq]at hh;cases hh
      ·exact ih hx
   have hm:=this l.reverse (by simpa using hc);have:=h c (by simpa using hm);rw[hq]at this;cases this
 ·intro h c hc;have:c∈l.reverse.dropWhile (hasZ cs):=by simpa using hc
  exact h c (by simpa using List.dropWhile_sublist _ |>.subset this)
theorem jlu:∀(l:J)(st n:Int)(out:J),allK out=true→allK (xpGo l st n out).1=true
 | [],_,_,_,h=>h
 | c::r,st,n,out,h=>by
  rw[xpGo];generalize (if st=2 then n else 1)=k;split
  ·split
   ·split
    ·exact jlu r _ _ _ h
    ·rfl
   ·split
    ·exact jlu r _ _ _ h
    ·rfl
  ·split
   ·rfl
   ·split
    ·exact jlu r _ _ _ h
    ·split
     ·rename_i hq;refine jlu r _ _ _ ?_;simp only[allK,List.all_append,jaf];refine⟨h,?_⟩;rw[List.all_eq_true];intro x hx;rw[List.eq_of_mem_replicate hx];exact hq.1
     ·rfl
theorem jnp(l:J):allK (exZ l)=true:=by
 unfold exZ;split
 ·exact jlu l 0 0 [] rfl
 ·rfl
def frmP(l:J)(x k cap:Nat):E:=[.string (sz (pS l)),.bool true,.int .i64 (pW l),.int .i64 (pD l),.int .i64 (pQ l),.bool (pG l)]++
 .slice (some ⟨x,0,some 1⟩) k cap::[.int .u8 (drZ (jal (pS l))),.int .i64 (nD (jal (pS l))).2.2,.bool (crZ (pS l)),.int .u8 (fdFl (pS l)),.int .i64 (cntZ (mkGo (drZ (jal (pS l))) false (jal (pS l))) 100)]
def chrP(l:J):E:=[.string (sz (pS l)),.bool false,.int .i64 (pW l),.int .i64 0,.int .i64 0,.bool false,.slice none 0 0,.int .u8 0,.int .i64 0,.bool false,.int .u8 0,.int .i64 0]
theorem frm_P{l:J}(h:pN l=true)(x k cap:Nat):frm (exZ l) x k cap=frmP l x k cap:=by
 have hv:=jc4 h;have hc:=(jfx h).nch;unfold frm frmP;rw[pS,if_pos hv,pW,if_pos hv,if_neg (by rw[hc];simp),pD,if_pos h,pQ,if_pos h,pG,h,Bool.true_and]
def h70:E→Lk→Nat→(Value→Lk→Nat→Prop)→Prop:=fun args m n K=>match args with
 | [.string s]=>match cnd (decide (s.size≤9223372036854775807))with
  | true => bif vOK (bz s) then (bif pN (bz s) then ∀ (k cap : Nat) (d : E), jbu d k cap = true → zc d k = rolF (pS (bz s)) → K (.tuple ⟨[.pointer (some ⟨n, 0, some 0⟩), .bool true]⟩) ((m.upd n ⟨frmP (bz s) (n + 1) k cap, 156, true⟩).upd (n + 1) ⟨d, 251, true⟩) (n + 2)
    else K (.tuple ⟨[.pointer (some ⟨n,0,some 0⟩),.bool true]⟩) (m.upd n ⟨chrP (bz s),156,true⟩) (n+1))
   else K (.tuple ⟨[.pointer none,.bool false]⟩) m n
  | false=>False
 | _=>False
def h62:E→Lk→Nat→(Value→Lk→Nat→Prop)→Prop:=fun args m n K=>match args with
 | [.string s]=>match cnd (decide (s.size≤9223372036854775807))with
  | true=>bif pN (bz s)then∀(k cap:Nat)(d:E),jbu d k cap=true→zc d k=rolF (pS (bz s))→K (.tuple ⟨[.pointer (some ⟨n,0,some 0⟩),.bool true]⟩) ((m.upd n ⟨frmP (bz s) (n+1) k cap,156,true⟩).upd (n+1) ⟨d,251,true⟩) (n+2)
   else K (.tuple ⟨[.pointer none,.bool false]⟩) m n
  | false=>False
 | _=>False
def Rfm(c:Bool)(s:Y)(v:Value)(bs:O):Prop:=
 (pN (bz s)=true∧ ∃a x k cap d,v= .tuple ⟨[.pointer (some ⟨a,0,some 0⟩),.bool true]⟩∧RowI d k cap∧zc d k=rolF (pS (bz s))∧bs=[some ⟨frmP (bz s) x k cap,156,true⟩,some ⟨d,251,true⟩])∨
 (c=true∧vOK (bz s)=true∧pN (bz s)=false∧ ∃a,v= .tuple ⟨[.pointer (some ⟨a,0,some 0⟩),.bool true]⟩∧bs=[some ⟨chrP (bz s),156,true⟩])∨
 (pN (bz s)=false∧(c=true→vOK (bz s)=false)∧v= .tuple ⟨[.pointer none,.bool false]⟩)
theorem rfm_new{c:Bool}{s:Y}{v':Value}{m m':Lk}{n:Nat}{K:Value→Lk→Nat→Prop}(hR:Rfm c s v' (look m' v'))
  (h1:pN (bz s)=true→ ∀(k cap:Nat)(d:E),jbu d k cap=true→zc d k=rolF (pS (bz s))→K (.tuple ⟨[.pointer (some ⟨n,0,some 0⟩),.bool true]⟩) ((m.upd n ⟨frmP (bz s) (n+1) k cap,156,true⟩).upd (n+1) ⟨d,251,true⟩) (n+2))
  (h2:c=true→vOK (bz s)=true→pN (bz s)=false→K (.tuple ⟨[.pointer (some ⟨n,0,some 0⟩),.bool true]⟩) (m.upd n ⟨chrP (bz s),156,true⟩) (n+1))
  (h3:pN (bz s)=false→(c=true→vOK (bz s)=false)→K (.tuple ⟨[.pointer none,.bool false]⟩) m n):
  ∃v mm nn σ,((∀k b,m k=some b→k<n)→NewM m n m' mm nn σ)∧(∀i∈ids v,n≤i∧i<nn)∧(∀ι' ι'':Nm,(∀i,n≤i→ι'' i=ι' (σ i))→ren ι'' v=ren ι' v')∧K v mm nn:=by
 rcases hR with⟨hv,a,x,k,cap,d,rfl,r1,r2,hbs⟩ | ⟨hc,hv,hp,a,rfl,hbs⟩ | ⟨hv,hc,rfl⟩
 ·obtain⟨a1,a2⟩:=look_form (x:=x) (k:=k) (cap:=cap) rfl hbs;refine⟨_,_,_,fun j=>if j=n then a else x,fun hwf=>new_form hwf a1 a2 rfl rfl r1.plain rfl rfl ?_,?_,fun ι' ι'' hι=> ?_,h1 hv k cap d (jaw.2 r1) r2⟩
  ·rintro rfl;rw[a1]at a2;cases a2
  ·intro i hi;have:i=n:=by simpa[ids,idsL]using hi
   omega
  ·have e:=hι n (Nat.le_refl _);simp only[if_true]at e;simp[ren,renL,ren1,e]
 ·have ha:m' a=some ⟨chrP (bz s),156,true⟩:=by
   simp only[look]at hbs;cases ha:m' a with
   | none=>rw[ha]at hbs;cases hbs
   | some b=>
    rw[ha]at hbs;simp only at hbs;split at hbs
    ·cases hbs
    ·cases hbs;rfl
  refine⟨_,_,_,fun j=>a,fun hwf=>new_one hwf ha rfl rfl,?_,fun ι' ι'' hι=> ?_,h2 hc hv hp⟩
  ·intro i hi;have:i=n:=by simpa[ids,idsL]using hi
   omega
  ·have e:=hι n (Nat.le_refl _);simp[ren,renL,ren1,e]
 ·exact⟨_,m,n,id,fun hwf=>new_none hwf _ _,by simp[ids,idsL],fun _ _ _=>by simp[ren,renL],h3 hv hc⟩
def qe(d h:Bool)(i j k:Int)(e:J)(g l:Nat)(f:Value→O→Prop):Prop:=bif d then∀a:Nat,∀b:Nat,∀c:E,jbu c a b=true→zc c a=rolF e→f (al (av g::dw)) [im true h (crZ e) (sz e) i j k (drZ (jal e)) (nD (jal e)).snd.snd (fdFl e) (cntZ (mkGo (drZ (jal e)) false (jal e)) 100:Int) a b (dv l 1),ct true c 251]else jq f
def l5(a:J):Bool:=(szO a).toList==a8.toList
def jb(a:Y)(c:Yb)(b:UInt8):Bool:=l5 (jb4 (bz a) (bz ⟨(b::c).toArray⟩))
def j3(b:Yb)(a:UInt8):Bool:=ft ⟨(a::b).toArray⟩ &&asc (bz ⟨(a::b).toArray⟩)
theorem v70(s:Y)(R:Value→O→Prop):(ja1 Tryz.prog G26 noL Tryz.f145 [S s] (fun _=>none) 0 (fun v m _=>R v (look m v)))=(du (!exOK (bz s)) s (jq R) (i7 (ft (il s) &&j3 [88,57] 65) (bk (jb (il s) [88,57] 65) (ft (il s) && (ft ⟨#[65,88]⟩ && (asc (bz (il s)) &&asc (bz ⟨#[65,88]⟩))) &&true) true) (jb (il s) [88,57] 65&&anyZ (bz (il s)) (bz ⟨#[65,88]⟩)) (R (al (av 23::dw)) [im false false false (il s) (ep (il s)) 0 0 0 0 0 0 0 0 none]) (bif decide ((il s).size≤32) &&allK (bz (il s))then qe (Px.numV (bz (il s))) (jdh (bz (il s))==1) (((bz (il s)).length:Int)-(cntZ (bz (il s)) 86:Int)) (pdGo (jas (bz (il s)))) (pqGo (bz (il s)) (jas (bz (il s))) 0) (bz (il s)) 20 21 R else False))):=by kernel_rfl
theorem fn70:Fn1 Tryz.prog 145 Tryz.f145:= .m Tryz.func145
theorem w70(s:Y)(hs:s.size≤9223372036854775807):jeb Tryz.prog G26 noL Tryz.f145 [.string s] (fun _=>none) 0 (fun v m _=>Rfm true s v (look m v)):=by
 rw[jeb,v70];delta ar cm du i7 al fv jq ct ax ak ao im dv dw av qe il ep a8 l5 jb bk ft j3;have hN:pN (bz s)=false→vOK (bz s)=false→Rfm true s (.tuple ⟨[.pointer none,.bool false]⟩) []:=fun h1 h2=> .inr (.inr ⟨h1,fun _=>h2,rfl⟩)
 refine c_t (jaa hs) (cond_intro (fun h=> ?_) (fun h=> ?_))
 ·have h:exOK (bz s)=false:=by simpa using h
  exact hN (by rw[pN,h];rfl) (by rw[vOK,h];rfl)
 have h:exOK (bz s)=true:=by simpa using h
 have e:(xpGo (bz s) 0 0 []).1=exZ (bz s):=by rw[exZ,if_pos h]
 obtain⟨x1,x2⟩:=jh4 s;have k1:bz ⟨#[65,88,57]⟩=[65,88,57]:=rfl;have k2:bz ⟨#[65,88]⟩=[65,88]:=rfl;rw[e,jdd x1,jcr,k1,k2,jc3,jcd,jdd (l:=jb4 (exZ (bz s)) [65,88,57])]
 rotate_left
 ·intro c hc;refine x1 c ?_;unfold jb4 at hc;have:=List.dropWhile_sublist _ |>.subset hc
  have:c∈(exZ (bz s)).reverse.dropWhile (hasZ [65,88,57]):=by simpa using this
  simpa using List.dropWhile_sublist _ |>.subset this
 have hk:=jih (jnp (bz s));have k3:bz ⟨#[]⟩=[]:=rfl;rw[k3]
 have eC:(decide (jb4 (exZ (bz s)) [65,88,57]=[]) &&anyZ (exZ (bz s)) [65,88])=jez (exZ (bz s)):=by
  rw[jez,Bool.eq_iff_iff];simp only[jaf,jae,jis,List.all_eq_true,anyZ,List.any_eq_true,Bool.or_eq_true,ja8];refine and_congr Iff.rfl ⟨?_,?_⟩
  ·rintro ⟨c,h1,h2⟩;simp at h2;rcases h2 with rfl | rfl
   ·exact .inl h1
   ·exact .inr h1
  ·rintro (h1 | h1)
   ·exact⟨65,h1,by simp⟩
   ·exact⟨88,h1,by simp⟩
 rw[eC];refine c_t ?_ (cond_intro (fun hc=> ?_) (fun hc=>c_t ?_ (cond_intro (fun hn k cap d r1 r2=> ?_) (fun hn=> ?_))))
 ·have a1:decide ((exZ (bz s)).length≤1000)=true:=jaa (by omega);rw[a1,hk.1];cases decide (jb4 (exZ (bz s)) [65,88,57]=[]) <;>rfl
 ·have hv:vOK (bz s)=true:=by rw[vOK,h,hc];rfl
  have hp:pN (bz s)=false:=by rw[pN,h,numV,hc];rfl
  refine .inr (.inl ⟨rfl,hv,hp,23,rfl,?_⟩);have e1:pS (bz s)=exZ (bz s):=by rw[pS,if_pos hv]
  have e2:pW (bz s)=(exZ (bz s)).length:=by rw[pW,if_pos hv,if_pos hc]
  rw[chrP,e1,e2]
 ·rw[jaa (show(exZ (bz s)).length≤32 by omega),jnp];rfl
 ·have hp:pN (bz s)=true:=by rw[pN,h,hn];rfl
  have e1:pS (bz s)=exZ (bz s):=by rw[pS,if_pos (jc4 hp)]
  refine .inl ⟨hp,20,21,k,cap,d,rfl,jaw.1 r1,by rw[e1];exact r2,?_⟩;rw[←frm_P hp];rfl
 ·exact hN (by rw[pN,h,hn];rfl) (by rw[vOK,h,hc,hn];rfl)
theorem jmb:jc7 Tryz.prog 145 h70:=by
 refine jja ok_G26 hmix fn70 jai fun args m n K h=> ?_
 unfold h70 at h;split at h
 case h_2=>exact h.elim
 rename_i s;split at h
 case h_2=>exact h.elim
 rename_i hc;have hc:s.size≤9223372036854775807:=jab hc;refine⟨[.string s],fun _=>none,0,id,Rfm true s,jiv _ _ _,fun ι=>by simp[ren],jag,fun v hv j hj=> ?_,w70 s hc,fun v' m' hR=> ?_⟩
 ·simp at hv;subst hv;simp[ids]at hj
 ·refine rfm_new hR (fun hp=> ?_) (fun _ hv hp=> ?_) (fun hp hv=> ?_)
  ·rw[jc4 hp,hp]at h;exact h
  ·rw[hv,hp]at h;exact h
  ·rw[hv rfl]at h;exact h
def G27:Env:=Env.nil.addG 145 h70
theorem ok_G27:jax Tryz.prog G27:=jam jan jmb
theorem v62(s:Y)(R:Value→O→Prop):(ja1 Tryz.prog G27 noL Tryz.f136 [S s] (fun _=>none) 0 (fun v m _=>R v (look m v)))=(du (vOK (bz s)) s (qe (pN (bz s)) (pG (bz s)) (pW (bz s)) (pD (bz s)) (pQ (bz s)) (pS (bz s)) 4 5 R) (jq R)):=by kernel_rfl
theorem fn62:Fn1 Tryz.prog 136 Tryz.f136:= .m Tryz.func136
theorem w62(s:Y)(hs:s.size≤9223372036854775807):jeb Tryz.prog G27 noL Tryz.f136 [.string s] (fun _=>none) 0 (fun v m _=>Rfm false s v (look m v)):=by
 rw[jeb,v62];delta ar cm du al fv jq ct ax ak ao im dv dw av qe;refine c_t (jaa hs) (cond_intro (fun h=>cond_intro (fun hn k cap d r1 r2=> ?_) (fun hn=> ?_)) (fun h=> ?_))
 ·exact .inl ⟨hn,4,5,k,cap,d,rfl,jaw.1 r1,r2,rfl⟩
 ·exact .inr (.inr ⟨hn,fun q=>(by cases q),rfl⟩)
 ·refine .inr (.inr ⟨?_,fun q=>(by cases q),rfl⟩);cases hp:pN (bz s)with
  | false=>rfl
  | true=>rw[jc4 hp]at h;cases h
theorem jmd:jc7 Tryz.prog 136 h62:=by
 refine jja ok_G27 hmix fn62 jai fun args m n K h=> ?_
 unfold h62 at h;split at h
 case h_2=>exact h.elim
 rename_i s;split at h
 case h_2=>exact h.elim
 rename_i hc;have hc:s.size≤9223372036854775807:=jab hc;refine⟨[.string s],fun _=>none,0,id,Rfm false s,jiv _ _ _,fun ι=>by simp[ren],jag,fun v hv j hj=> ?_,w62 s hc,fun v' m' hR=> ?_⟩
 ·simp at hv;subst hv;simp[ids]at hj
 ·refine rfm_new hR (fun hp=> ?_) (fun q _ _=>by cases q) (fun hp _=> ?_)
  ·rw[hp]at h;exact h
  ·rw[hp]at h;exact h
def G28:Env:=(Env.nil.addG 145 h70).addG 136 h62
theorem ok_G28:jax Tryz.prog G28:=jam (jam jan jmb) jmd
end Go.Px
end
noncomputable section
namespace Go.Px
open Go Go.Ab Go.Proofs Go.Shelf
def s35(s:Y):Bool×Value:=(decide (s.size≤9223372036854775807),.tuple ⟨[picV (bz s),.int .i64 (pE (bz s))]⟩)
theorem fn35:Fn1 Tryz.prog 113 Tryz.f113:= .m Tryz.func113
theorem v35(s:Y)(R:Value→Prop):ja1 Tryz.prog G28 noL Tryz.f113 [Enc.enc s] (fun _=>none) 0 (fun v _ _=>R v)=(du (vOK (bz s)) s (bif pN (bz s)then∀a:Nat,∀b:Nat,∀c:E,jbu c a b=true→zc c a=rolF (pS (bz s))→R (al [.agg ⟨ax (gp s) [I (pW (bz s)),I (pD (bz s)),I (pQ (bz s)),B (pG (bz s))] (B true)⟩,ak 0])else R (al [.agg ⟨ax (gp s) (I (pW (bz s))::li 0 0) (B false)⟩,ak 0])) (R (al [.agg ⟨d9::B false::ak 0::li 0 0⟩,ak 30]))):=by kernel_rfl
theorem ok35:jao Tryz.prog 113 (sp1 s35):=by
 refine jb8 ok_G28 hmix fn35 jai jag fun s hc=> ?_
 rw[ja2,v35];delta ar cm du al ak fv li a8 d9 ax gp;have hc:(s.size≤9223372036854775807):=jab hc
 try dsimp only[s35]
 refine c_t (jaa hc) (cond_intro (fun hv=>cond_intro (fun hn k cap d _ _=> ?_) (fun hn=> ?_)) (fun hv=> ?_))
 ·simp[picV,pE,hv,hn]
 ·simp[picV,pE,hv,hn,pD,pQ,pG]
 ·have hn:pN (bz s)=false:=by
   cases q:pN (bz s)with
   | false=>rfl
   | true=>rw[jc4 q]at hv;cases hv
  have a1:pS (bz s)=[]:=by rw[pS,if_neg (by rw[hv];simp)]
  have a2:pW (bz s)=0:=by rw[pW,if_neg (by rw[hv];simp)]
  have a3:pD (bz s)=0:=by rw[pD,if_neg (by rw[hn];simp)]
  have a4:pQ (bz s)=0:=by rw[pQ,if_neg (by rw[hn];simp)]
  have a5:pG (bz s)=false:=by rw[pG,hn];rfl
  have a6:pE (bz s)=30:=by rw[pE,if_neg (by rw[hv];simp)]
  rw[picV,a1,a2,a3,a4,a5,a6,hn,jhj]
def s31(s:Y):Bool×Value:=(decide (s.size≤9223372036854775807),.bool (pN (bz s)))
theorem fn31:Fn1 Tryz.prog 59 Tryz.f59:= .m Tryz.func59
theorem v31(s:Y)(R:Value→Prop):ja1 Tryz.prog G28 noL Tryz.f59 [Enc.enc s] (fun _=>none) 0 (fun v _ _=>R v)=(du (pN (bz s)) s (∀a:Nat,∀b:Nat,∀c:E,jbu c a b=true→zc c a=rolF (pS (bz s))→R (B true)) (fk R)):=by kernel_rfl
theorem ok31:jao Tryz.prog 59 (sp1 s31):=by
 refine jb8 ok_G28 hmix fn31 jai jag fun s hc=> ?_
 rw[ja2,v31];delta ar cm du fk;have hc:(s.size≤9223372036854775807):=jab hc
 try dsimp only[s31]
 refine c_t (jaa hc) (cond_intro (fun h k cap d _ _=> ?_) (fun h=> ?_))
 ·rw[h]
 ·rw[h]
def G29:Env:=Env.nil.add 113 (sp1 s35)
theorem ok_G29:jax Tryz.prog G29:=jak jan ok35
def s33(s:Y):Bool×Value:=(decide (s.size≤9223372036854775807),.int .i64 (pE (bz s)))
theorem fn33:Fn1 Tryz.prog 67 Tryz.f67:= .m Tryz.func67
theorem v33(s:Y)(R:Value→Prop):ja1 Tryz.prog G29 noL Tryz.f67 [Enc.enc s] (fun _=>none) 0 (fun v _ _=>R v)=(bif decide (s.size≤9223372036854775807)then R (I (pE (bz s)))else False):=by kernel_rfl
theorem ok33:jao Tryz.prog 67 (sp1 s33):=by
 refine jb8 ok_G29 hmix fn33 jai jag fun s hc=> ?_
 rw[ja2,v33];have hc:(s.size≤9223372036854775807):=jab hc
 try dsimp only[s33]
 exact c_t (jaa hc) rfl
def s46(s:Y):Bool×Value:=(decide (s.size≤9223372036854775807),.tuple ⟨[tyV (bz s),.int .i64 (pE (bz s))]⟩)
theorem fn46:Fn1 Tryz.prog 61 Tryz.f61:= .m Tryz.func61
def co(a b c:Int):Value:= .agg ⟨[ak a,ak b,ak c,.bool false,d9]⟩
theorem v46(s:Y)(R:Value→Prop):ja1 Tryz.prog G29 noL Tryz.f61 [Enc.enc s] (fun _=>none) 0 (fun v _ _=>R v)=(du (pE (bz s) !=0) s (R (al [co 0 0 0,I (pE (bz s))])) (f0 (pN (bz s)) (al [.agg ⟨[ak 1,I (pD (bz s)),I (pQ (bz s)),B false,d9]⟩,ak 0]) (al [.agg ⟨[ak 3,I (pW (bz s)),ak 0,B false,d9]⟩,ak 0]) R)):=by kernel_rfl
theorem ok46:jao Tryz.prog 61 (sp1 s46):=by
 refine jb8 ok_G29 hmix fn46 jai jag fun s hc=> ?_
 rw[ja2,v46];delta ar cm du f0 al ak a8 d9 co;have hc:(s.size≤9223372036854775807):=jab hc
 try dsimp only[s46]
 rw[jnd];refine c_t (jaa hc) (cond_intro (fun h=> ?_) (fun h=> ?_))
 ·have h:vOK (bz s)=false:=by simpa using h
  have hn:pN (bz s)=false:=by
   cases q:pN (bz s)with
   | false=>rfl
   | true=>rw[jc4 q]at h;cases h
  simp[tyV,tyK,tyP,pQ,h,hn]
 ·have h:vOK (bz s)=true:=by simpa using h
  apply cond_intro<;>intro hn
  ·simp[tyV,tyK,tyP,pE,h,hn]
  ·simp[tyV,tyK,tyP,pE,pQ,h,hn]
theorem jf7{l:J}(h:pN l=true):NumL (pS l)∧okR (rolF (pS l))∧(rolF (pS l)).map rmk=jas (pS l):=by
 have hv:=jc4 h;have e:pS l=exZ l:=by rw[pS,if_pos hv]
 simp only[pN,jaf]at h;rw[e];have hL:=(num_law (l:=exZ l) fun c hm=>(jih (jnp l)).2 c (body_sub hm)).2 h.2
 have hm:(rolF (exZ l)).map rmk=jas (exZ l):=by
  rw[rolF,List.map_append,hL.roles,jas];congr 1;cases crZ (exZ l) <;>rfl
 refine⟨hL,?_,hm⟩;intro r hr;rcases List.mem_append.1 hr with hr | hr
 ·exact hL.ok r hr
 ·cases hc:crZ (exZ l)with
  | false=>rw[hc]at hr;cases hr
  | true=>
   rw[hc]at hr;have:r=4∨r=4:=by simpa using hr
   omega
theorem rol_len{l:J}(h:pN l=true):(rolF (pS l)).length=(pS l).length:=by
 have:=congrArg List.length (jf7 h).2.2;rw[List.length_map,jeg]at this;exact this
end Go.Px
end
noncomputable section
namespace Go.Px
open Go Go.Ab Go.Proofs Go.Shelf Go.RowKit Go.Sort Go.Lib
theorem laysM284:LaysM.n284 Tryz.prog Tryz.lays172_ren:={Tryz.lays172 with
 i0:=by kernel_rfl
 i3:=by kernel_rfl
 i4:=by kernel_rfl
 i5:=by kernel_rfl
 i9:=by kernel_rfl
 i46:=by kernel_rfl
 i53:=by kernel_rfl
 i212:=by kernel_rfl
 m17:=by kernel_rfl}
theorem tab_pow {w : World} (h : TabsIn w.heap.size w) : Lib.TabIs Tryz.prog w "internal/strconv.uint64pow10" .u64 Lib.pow10Tab := by
 obtain⟨_,ty,fr,h2⟩:=h 1 _ rfl;unfold Lib.TabIs World.var?
 have e : Tryz.prog.globalNamed "internal/strconv.uint64pow10" = some 1 := by kernel_rfl
 rw[e];simp only[Option.bind_some,h2];rfl
theorem fmt_small(u:Nat)(hu:u<100)(w:World):Calls Tryz.prog 155 #[.int .u64 u,.int .i64 10] w fun e w'=>e= .returned (.string ⟨(Lib.decDigits u).toArray⟩)∧w'=w:=by
 have mixed:=Tryz.lays172.mixed;have e142:∀args w,(callFunc 216 args).run Tryz.prog w= .ok (.enter 216 args) w:=enters_of Tryz.func216 (by kernel_rfl) rfl;have hw:IntKind.i64.wrap (u:Int)=(u:Int):=by rw[IntKind.wrap_i64];omega
 go_enter Tryz.func155,Tryz.ntmps155
 go_wp2_with (go_at_fn 216;refine(Any.internal_strconv_small (ρ:=Tryz.lays172_ren) {Tryz.lays172 with} u hu _).mono ?_;rintro e w' ⟨rfl,rfl⟩)
 go_ret
 exact⟨rfl,rfl⟩
set_option maxHeartbeats 6400000 in
set_option maxRecDepth 100000 in
theorem fmt_big (u : Nat) (hu : 100 ≤ u) (hu64 : u < 18446744073709551616) (w : World) (htab : Lib.TabIs Tryz.prog w "internal/strconv.uint64pow10" .u64 Lib.pow10Tab) :
  Calls Tryz.prog 155 #[.int .u64 u,.int .i64 10] w fun e w'=>e= .returned (.string ⟨(Lib.decDigits u).toArray⟩)∧ ∃k os,w'=grow (w.drewN k) os:=by
 have mixed:=Tryz.lays172.mixed;have e143:∀args w,(callFunc 217 args).run Tryz.prog w= .ok (.enter 217 args) w:=enters_of Tryz.func217 (by kernel_rfl) rfl;have e144:∀args w,(callFunc 218 args).run Tryz.prog w= .ok (.enter 218 args) w:=enters_of Tryz.func218 (by kernel_rfl) rfl;have hu1:1≤u:=by omega
 have hnd20:Lib.nDigits u≤20:=by have:=Lib.numDigits_eq u hu1 hu64;split at this<;>omega
 have iu:(100:Int)≤(u:Int):=by omega
 have t148:=Tryz.underlying216;have hal:Tryz.prog.arrayLen 216=24:=by simp[Program.arrayLen,Tryz.underlying216]
 have hsl:∀W,(Instr.sliceAt 216 (.pointer (some ⟨w.heap.size,0,none⟩)) none (some (.int .i64 (Lib.nDigits u:Int))) none).run Tryz.prog W= .ok (.slice (some ⟨w.heap.size,0,none⟩) (Lib.nDigits u) 24) W:=fun W=>by
  rw[run_sliceAt_array_h W 216 ⟨w.heap.size,0,none⟩ (by simp[Program.arrayLen,Program.elem,Tryz.underlying216]) .i64 (Lib.nDigits u:Int) (by omega) (by rw[hal];omega)]
  go_simp
 have hH0:=Lib.holds_zero0 w 216 (Lib.nDigits u) (by omega);have hfmt:=Any.internal_strconv_formatBase10 (ρ:=Tryz.lays172_ren) {Tryz.lays172 with} w.heap.size 0 24 u (Array.replicate (Lib.nDigits u) 0) (w.alloc (.cells Lib.zeros24 216)) hH0 (by rw[Array.size_replicate];exact Lib.lt_pow_nDigits u) hu64 (by rw[Array.size_replicate];omega);rw[Array.size_replicate]at hfmt;have HH0:=Lib.hid hH0;clear hH0 hal
 go_enter Tryz.func155,Tryz.ntmps155
 go_wp2_with (first
  | (go_at_fn 217;refine(Any.internal_strconv_numDigits (ρ:=Tryz.lays172_ren) laysM284 u hu1 hu64 _ (Lib.tabIs_alloc htab _)).mono ?_;rintro e w' ⟨rfl,rfl⟩))
 go_at_fn 218
 refine hfmt.mono ?_;rintro e w' ⟨rfl,k,v',dk,rfl,hF⟩
 have hcv:(convert 96 9 (.slice (some ⟨w.heap.size,0,none⟩) (Lib.nDigits u) 24)).run Tryz.prog ((putRow (fun(b:UInt8)=>Value.int .u8 (b.toNat:Int)) (w.alloc (.cells Lib.zeros24 216)) w.heap.size 0 dk).drewN k)= .ok (.string ⟨(Lib.decDigits u).toArray⟩) ((putRow (fun(b:UInt8)=>Value.int .u8 (b.toNat:Int)) (w.alloc (.cells Lib.zeros24 216)) w.heap.size 0 dk).drewN k):=by
  have h:=run_convert_bytes_back (P:=Tryz.prog) ((putRow (fun(b:UInt8)=>Value.int .u8 (b.toNat:Int)) (w.alloc (.cells Lib.zeros24 216)) w.heap.size 0 dk).drewN k) 96 9 5 ⟨w.heap.size,0,none⟩ 24 (Lib.decDigits u) Tryz.underlying96 Tryz.underlying5 Tryz.underlying9 (fun j hj=>by
   rw[Lib.row_is_numeral hF j hj,Lib.add_plain,World.cell?_drewN];exact cell?_putRow (fun(b:UInt8)=>Value.int .u8 (b.toNat:Int)) _ w.heap.size 0 _ dk HH0.out (by rw[hF.size,Array.size_replicate]) j (by rw[hF.size];rw[Lib.decDigits_length]at hj;exact hj))
  rw[Lib.decDigits_length]at h;exact h
 go_wp2
 go_ret
 obtain⟨os,eo⟩:=Lib.fin_at w (.cells Lib.zeros24 216) dk k 0;exact⟨rfl,k,os,eo⟩
def decZ(n:Int):J:=zl (Lib.decDigits n.toNat)
theorem c87:jbw Tryz.prog 81:=cal Tryz.func81 (by kernel_rfl) (by kernel_rfl)
theorem fmt_all(u:Nat)(hu64:u<18446744073709551616)(w:World)(ht:TabsIn w.heap.size w):
  Calls Tryz.prog 155 #[.int .u64 u,.int .i64 10] w fun e w'=>e= .returned (.string ⟨(Lib.decDigits u).toArray⟩)∧RowKit.Below w.heap.size w w':=by
 by_cases hu:u<100
 ·exact(fmt_small u hu w).mono fun e w' ⟨h1,h2⟩=>⟨h1,jcp h2⟩
 ·exact(fmt_big u (by omega) hu64 w (tab_pow ht)).mono fun e w' ⟨h1,k,os,h2⟩=>⟨h1,by rw[h2];exact Lib.below_grow _ _ (Nat.le_refl _) _ _⟩
theorem fmt87(u:Nat)(hu64:u<18446744073709551616)(w:World)(ht:TabsIn w.heap.size w):
  Calls Tryz.prog 81 #[.int .u64 u,.int .i64 10] w fun e w'=>e= .returned (.string ⟨(Lib.decDigits u).toArray⟩)∧RowKit.Below w.heap.size w w':=by
 have mixed:=Tryz.lays172.mixed;have e115:∀args w,(callFunc 155 args).run Tryz.prog w= .ok (.enter 155 args) w:=enters_of Tryz.func155 (by kernel_rfl) rfl
 go_enter Tryz.func81,Tryz.ntmps81
 go_wp2_with (go_at_fn 155;refine(fmt_all u hu64 _ ht).mono ?_;rintro e w' ⟨rfl,hb⟩)
 go_ret
 exact⟨rfl,hb⟩
def jnh(b:Int):Bool:=b==10
def s87(n:U64)(b:Int):Bool×Value:=(decide (0≤n.n∧n.n<18446744073709551616) &&jnh b,.string (sz (decZ n.n)))
theorem ok87:jao Tryz.prog 81 (sp2 s87):=jdu c87 fun n b hc w ht=>by
 simp only[s87,jnh,jaf,jae,beq_iff_eq]at hc;obtain⟨⟨h0,h1⟩,rfl⟩:=hc
 have e:Enc.enc n=Value.int .u64 (n.n.toNat:Int):=by
  show Value.int .u64 n.n=_;rw[Int.toNat_of_nonneg h0]
 rw[e];refine(fmt87 n.n.toNat (by omega) w ht).mono fun e w' ⟨h4,h5⟩=>⟨?_,h5⟩
 rw[h4,jg4];rfl
end Go.Px
end
section
namespace Go.Px
open Go Go.Ab Go.Proofs
def dval(l:J):Int:=numZ l 0
theorem ji3:∀(l:J)(a:Int),numZ l a=a*tenZ l.length+numZ l 0
 | [],a=>by simp[numZ,tenZ]
 | c::r,a=>by
  rw[numZ,ji3 r,numZ,ji3 r (0*10+(c-48)),List.length_cons,tenZ_succ,Int.add_mul,Int.add_mul,Int.mul_assoc,Int.mul_comm 10 (tenZ r.length)];omega
theorem jd6(a b:J):dval (a++b)=dval a*tenZ b.length+dval b:=by
 have:∀(l:J)(x:Int),numZ (l++b) x=numZ b (numZ l x):=by
  intro l
  induction l with
  | nil=>exact fun _=>rfl
  | cons c r ih=>exact fun x=>ih _
 rw[dval,this,ji3 b];rfl
theorem jh6(l:J)(c:Int):dval (l++ [c])=dval l*10+(c-48):=by
 rw[jd6];simp[dval,numZ,tenZ]
theorem jib{a b:J}:dgL (a++b)=true↔dgL a=true∧dgL b=true:=by simp[dgL]
theorem jhc{c:Int}{l:J}:dgL (c::l)=true↔(48≤c∧c≤57)∧dgL l=true:=by simp[dgL]
theorem jcs(n:Nat):0<tenZ n:=by unfold tenZ;exact Int.pow_pos (by decide)
theorem jdq:∀l:J,dgL l=true→0≤dval l∧dval l<tenZ l.length
 | [],_=>by simp[dval,numZ,tenZ]
 | c::r,h=>by
  obtain⟨h1,h2⟩:=jhc.1 h;have ih:=jdq r h2
  have e:dval (c::r)=(c-48)*tenZ r.length+dval r:=by
   have:=jd6 [c] r;simpa[dval,numZ]using this
  have hp:=jcs r.length;rw[e,List.length_cons,tenZ_succ];have h3:(c-48)*tenZ r.length≤9*tenZ r.length:=Int.mul_le_mul_of_nonneg_right (by omega) (by omega);have h4:0≤(c-48)*tenZ r.length:=Int.mul_nonneg (by omega) (by omega);omega
theorem dval_head{c:Int}{r:J}(h:dgL (c::r)=true)(hc:c≠48):tenZ r.length≤dval (c::r):=by
 obtain⟨h1,h2⟩:=jhc.1 h;have ih:=jdq r h2
 have e:dval (c::r)=(c-48)*tenZ r.length+dval r:=by
  have:=jd6 [c] r;simpa[dval,numZ]using this
 have hp:=jcs r.length;have h3:1*tenZ r.length≤(c-48)*tenZ r.length:=Int.mul_le_mul_of_nonneg_right (by omega) (by omega);rw[e];omega
theorem dec_spec(u:Nat):dgL (zl (Lib.decDigits u))=true∧dval (zl (Lib.decDigits u))=u:=by
 induction u using Nat.strongRecOn with
 | _ u ih=>
  rw[Lib.decDigits];split
  ·rename_i h
   have e:(((UInt8.ofNat (48+u)).toNat:Nat):Int)=48+u:=by
    simp only[UInt8.toNat_ofNat'];omega
   simp only[zl,List.map_cons,List.map_nil,e];exact⟨by simp[dgL];omega,by simp[dval,numZ];omega⟩
  ·rename_i h;obtain⟨h1,h2⟩:=ih (u/10) (by omega)
   have e:(((UInt8.ofNat (48+u%10)).toNat:Nat):Int)=48+(u%10:Nat):=by
    simp only[UInt8.toNat_ofNat'];omega
   have es:zl (Lib.decDigits (u/10)++ [UInt8.ofNat (48+u%10)])=zl (Lib.decDigits (u/10))++ [48+((u%10:Nat):Int)]:=by
    simp only[zl,List.map_append,List.map_cons,List.map_nil,e]
   rw[es];refine⟨jib.2 ⟨h1,by simp[dgL];omega⟩,?_⟩;rw[jh6,h2];omega
theorem jia:∀(n:Nat)(l:J),l.length=n→dgL l=true→digZ (dval l) n=l
 | 0,l,hl,_=>by rw[List.length_eq_zero_iff.1 hl];rfl
 | n+1,l,hl,h=>by
  rcases List.eq_nil_or_concat l with rfl | ⟨a,c,rfl⟩
  ·cases hl
  ·rw[List.concat_eq_append]at h hl ⊢;obtain⟨h1,h2⟩:=jib.1 h;have h2:=(jhc.1 h2).1;rw[digZ,jh6];have e1:(dval a*10+(c-48))/10=dval a:=by omega
   have e2:48+(dval a*10+(c-48))%10=c:=by omega
   rw[e1,e2,jia n a (by simpa using hl) h1]
theorem digZ_val(l:J)(h:dgL l=true):digZ (dval l) l.length=l:=jia _ l rfl h
theorem digZ_drop:∀(d k:Nat)(v:Int),d≤k→(digZ v k).drop (k-d)=digZ v d
 | 0,k,v,_=>by
  rw[Nat.sub_zero];exact List.drop_eq_nil_of_le (by rw[jcm];exact Nat.le_refl _)
 | d+1,0,v,h=>by omega
 | d+1,k+1,v,h=>by
  rw[digZ,digZ,List.drop_append_of_le_length (by rw[jcm];omega),show k+1-(d+1)=k-d by omega,digZ_drop d k _ (by omega)]
theorem digZ_last{l:J}(h:dgL l=true){d:Nat}(hd:d≤l.length):l.drop (l.length-d)=digZ (dval l) d:=by
 have:=digZ_drop d l.length (dval l) hd;rwa [digZ_val l h]at this
theorem jjn:∀(d:Nat)(v:Int),0≤v→digZ (v%tenZ d) d=digZ v d
 | 0,_,_=>rfl
 | d+1,v,h=>by
  obtain⟨n,rfl⟩:∃n:Nat,v=n:=⟨v.toNat,by omega⟩
  have et:tenZ (d+1)=((10*10^d:Nat):Int):=by
   unfold tenZ;rw[Nat.mul_comm,←Nat.pow_succ];simp
  have ed:tenZ d=((10^d:Nat):Int):=by unfold tenZ;simp
  have e1:((n:Int)%tenZ (d+1))/10=((n:Int)/10)%tenZ d:=by
   rw[et,ed];have:=Nat.mod_mul_right_div_self n 10 (10^d)
   exact_mod_cast this
  have e2:((n:Int)%tenZ (d+1))%10=(n:Int)%10:=by
   rw[et];have:=Nat.mod_mul_right_mod n 10 (10^d)
   exact_mod_cast this
  rw[digZ,digZ,e1,e2,jjn d _ (by omega)]
theorem dval_take{l:J}(h:dgL l=true)(k:Nat):dval (l.take (l.length-k))=dval l/tenZ k:=by
 by_cases hk:k≤l.length
 ·have e:=List.take_append_drop (l.length-k) l;have hh:dgL (l.take (l.length-k)++l.drop (l.length-k))=true:=by rw[e];exact h
  have h2:=(jib.1 hh).2;have r:=jdq _ h2;have el:(l.drop (l.length-k)).length=k:=by rw[List.length_drop];omega
  have ev:=jd6 (l.take (l.length-k)) (l.drop (l.length-k));rw[e,el]at ev;rw[el]at r;have hp:=jcs k;rw[ev,Int.add_comm,Int.add_mul_ediv_right _ _ (by omega),Int.ediv_eq_zero_of_lt r.1 r.2,Int.zero_add]
 ·have:l.length-k=0:=by omega
  rw[this,List.take_zero];have r:=jdq l h
  have hle:tenZ l.length≤tenZ k:=by
   unfold tenZ;have:(10:Nat) ^l.length≤10^k:=Nat.pow_le_pow_right (by decide) (by omega)
   exact_mod_cast this
  rw[Int.ediv_eq_zero_of_lt r.1 (by omega)];rfl
theorem jji(k:Nat):dval (rep1 48 k)=0∧dgL (rep1 48 k)=true:=by
 induction k with
 | zero=>exact⟨rfl,rfl⟩
 | succ k ih=>
  have e:rep1 48 (k+1)=48::rep1 48 k:=rfl;rw[e];refine⟨?_,jhc.2 ⟨by omega,ih.2⟩⟩;have:=jd6 [48] (rep1 48 k);rw[ih.1]at this;rw[List.singleton_append]at this;rw[this];simp[dval,numZ]
theorem jfo:∀l:J,dval (l.dropWhile (· ==48))=dval l
 | []=>rfl
 | c::r=>by
  rw[List.dropWhile_cons];cases h:c==48 with
  | false=>simp
  | true=>
   rw[if_pos rfl,jfo r];have:=jd6 [c] r;rw[eq_of_beq h]at this ⊢;simp[dval,numZ]
theorem dgL_strip{l:J}(h:dgL l=true):dgL (l.dropWhile (· ==48))=true:=by
 simp only[dgL,List.all_eq_true]at h ⊢;exact fun c hc=>h c ((List.dropWhile_sublist _).subset hc)
theorem strip_head:∀l:J,l.dropWhile (· ==48)=[]∨ ∃c r,l.dropWhile (· ==48)=c::r∧c≠48
 | []=> .inl rfl
 | c::r=>by
  rw[List.dropWhile_cons];cases h:c==48 with
  | true=>rw[if_pos rfl];exact strip_head r
  | false=>exact .inr ⟨c,r,by simp,by simpa using h⟩
theorem tenZ_mono{a b:Nat}(h:a≤b):tenZ a≤tenZ b:=by
 unfold tenZ;have:(10:Nat) ^a≤10^b:=Nat.pow_le_pow_right (by decide) h
 exact_mod_cast this
theorem strip_len{l:J}(h:dgL l=true)(d:Nat):(l.dropWhile (· ==48)).length≤d↔dval l<tenZ d:=by
 have hs:=dgL_strip h;have r:=jdq _ hs;rw[jfo]at r;constructor
 ·intro hl;have:=tenZ_mono hl;omega
 ·intro hv;rcases strip_head l with e | ⟨c,t,e,hc⟩
  ·rw[e];exact Nat.zero_le _
  ·have:=dval_head (e▸hs) hc;rw[←e,jfo]at this;rw[e,List.length_cons];have hlt:¬d≤t.length:=fun q=>by have:=tenZ_mono q;omega
   omega
theorem strip_nil{l:J}(h:dgL l=true):l.dropWhile (· ==48)=[]↔dval l=0:=by
 have r:=strip_len h 0;have hv:=(jdq l h).1;have e:tenZ 0=1:=rfl;rw[e,Nat.le_zero,List.length_eq_zero_iff]at r;rw[r];omega
theorem jhb:∀(d:Nat)(v:Int),0≤v→dval (digZ v d)=v%tenZ d
 | 0,v,_=>by simp[digZ,dval,numZ,tenZ]
 | d+1,v,h=>by
  have e:=jjn (d+1) v h;have r:=jdq (digZ v (d+1)) (jdc _ _);rw[digZ,jh6,jhb d _ (by omega)];obtain⟨n,rfl⟩:∃n:Nat,v=n:=⟨v.toNat,by omega⟩
  have et:tenZ (d+1)=((10*10^d:Nat):Int):=by
   unfold tenZ;rw[Nat.mul_comm,←Nat.pow_succ];simp
  have ed:tenZ d=((10^d:Nat):Int):=by unfold tenZ;simp
  have e1:((n:Int)%tenZ (d+1))/10=((n:Int)/10)%tenZ d:=by
   rw[et,ed];have:=Nat.mod_mul_right_div_self n 10 (10^d)
   exact_mod_cast this
  have e2:((n:Int)%tenZ (d+1))%10=(n:Int)%10:=by
   rw[et];have:=Nat.mod_mul_right_mod n 10 (10^d)
   exact_mod_cast this
  omega
end Go.Px
end
noncomputable section
namespace Go.Px
open Go Go.Ab Go.Proofs Go.Shelf
def fmL(s:Y)(nb:Bool)(w d sc:Int)(sg:Bool)(x k cap:Nat)(dr f:Int)(cr:Bool)(fl fm:Int):E:=
 [.string s,.bool nb,.int .i64 w,.int .i64 d,.int .i64 sc,.bool sg,.slice (some ⟨x,0,some 1⟩) k cap,.int .u8 dr,.int .i64 f,.bool cr,.int .u8 fl,.int .i64 fm]
def vwF(c:E):Lk:=fun j=>match Nat.beq j 0 with | true=>some ⟨c,156,false⟩ | false=>none
def vwF2(c d:E):Lk:=fun j=>match Nat.beq j 0 with | true=>some ⟨c,156,false⟩ | false=>match Nat.beq j 1 with | true=>some ⟨d,251,false⟩ | false=>none
def rho2(a x:Nat):Nat→Nat:=fun j=>match j with | 0=>a | _=>x
theorem sub_F{m:Lk}{a x k cap:Nat}{s:Y}{nb:Bool}{w d sc:Int}{sg:Bool}{dr f:Int}{cr:Bool}{fl fm:Int}{own:Bool}(ha:m a=some ⟨fmL s nb w d sc sg x k cap dr f cr fl fm,156,own⟩):
  SubM m (rho2 a x) (vwF (fmL s nb w d sc sg 1 k cap dr f cr fl fm)) 2:=by
 have hget:∀j b,vwF (fmL s nb w d sc sg 1 k cap dr f cr fl fm) j=some b→j=0∧b=⟨fmL s nb w d sc sg 1 k cap dr f cr fl fm,156,false⟩:=fun j b h=>by
  simp only[vwF]at h;split at h
  ·rename_i h0;cases h;exact⟨jah h0,rfl⟩
  ·cases h
 refine⟨fun j b h=> ?_,fun j b h=> ?_⟩
 ·obtain⟨rfl,rfl⟩:=hget j b h;refine⟨by omega,fun i hi=> ?_⟩;have:i=1:=by simpa[fmL,idsL,ids]using hi
  omega
 ·obtain⟨rfl,rfl⟩:=hget j b h;refine⟨rfl,⟨fmL s nb w d sc sg x k cap dr f cr fl fm,156,own⟩,?_,fun ι=> ?_⟩
  ·show noIt (m a)=_;rw[ha];simp only[noIt];have:(own&&Nat.beq 156 itTy)=false:=by cases own<;>rfl
   rw[this]
  ·simp[fmL,ren,ren1,rho2]
theorem sub_F2{m:Lk}{a x k cap:Nat}{s:Y}{nb:Bool}{w d sc:Int}{sg:Bool}{dr f:Int}{cr:Bool}{fl fm:Int}{own own2:Bool}{r:E}(hr:ja5 r=true)
  (ha:m a=some ⟨fmL s nb w d sc sg x k cap dr f cr fl fm,156,own⟩) (hx:m x=some ⟨r,251,own2⟩):
  SubM m (rho2 a x) (vwF2 (fmL s nb w d sc sg 1 k cap dr f cr fl fm) r) 2:=by
 have hget:∀j b,vwF2 (fmL s nb w d sc sg 1 k cap dr f cr fl fm) r j=some b→(j=0∧b=⟨fmL s nb w d sc sg 1 k cap dr f cr fl fm,156,false⟩)∨(j=1∧b=⟨r,251,false⟩):=fun j b h=>by
  simp only[vwF2]at h;split at h
  ·rename_i h0;cases h;exact .inl ⟨jah h0,rfl⟩
  ·split at h
   ·rename_i h0;cases h;exact .inr ⟨jah h0,rfl⟩
   ·cases h
 refine⟨fun j b h=> ?_,fun j b h=> ?_⟩
 ·rcases hget j b h with⟨rfl,rfl⟩ | ⟨rfl,rfl⟩
  ·refine⟨by omega,fun i hi=> ?_⟩;have:i=1:=by simpa[fmL,idsL,ids]using hi
   omega
  ·exact⟨by omega,fun i hi=>by rw[jaq hr]at hi;cases hi⟩
 ·rcases hget j b h with⟨rfl,rfl⟩ | ⟨rfl,rfl⟩
  ·refine⟨rfl,⟨fmL s nb w d sc sg x k cap dr f cr fl fm,156,own⟩,?_,fun ι=> ?_⟩
   ·show noIt (m a)=_;rw[ha];simp only[noIt];have:(own&&Nat.beq 156 itTy)=false:=by cases own<;>rfl
    rw[this]
   ·simp[fmL,ren,ren1,rho2]
  ·refine⟨rfl,⟨r,251,own2⟩,?_,fun ι=>renMap_congr fun k hk=>by rw[jaq hr]at hk;cases hk⟩;show noIt (m x)=_;rw[hx];simp only[noIt];have:(own2&&Nat.beq 251 itTy)=false:=by cases own2<;>rfl
   rw[this]
def hideS(sp:Ab.Spec):E→Lk→Nat→(Value→Lk→Nat→Prop)→Prop:=fun args m n K=>match sp args (args.map (blkOf m))with
 | some (c,.string e)=>match cnd c with
  | true=>∀s':Y,e=s'→K (.string s') m n
  | false=>False
 | _=>False
theorem jjb{P:Program}{f:FuncId}{sp:Ab.Spec}(h:jao P f sp):jc7 P f (hideS sp):=by
 obtain⟨hc,hp⟩:=h;refine⟨hc,fun args m n K hh N w0 ι w hrel hwf hargs=> ?_⟩;unfold hideS at hh;split at hh
 case h_2=>exact hh.elim
 rename_i c e hs;split at hh
 case h_2=>exact hh.elim
 rename_i hcc;have hcc:c=true:=hcc;subst hcc;refine(hp args (.string e) N w0 m ι w hrel hs rfl).mono fun e' w' ⟨h1,h2⟩=> ?_
 exact⟨.string e,m,n,ι,by rw[h1];rfl,hh e rfl,Nat.le_refl _,fun _ _=>rfl,hrel.grow h2,hwf,by simp[ids]⟩
def G31:Env:=(((Env.nil.add 55 (sp2 s89)).addG 81 (hideS (sp2 s87))).addG 154 (hideS (sp2 s88))).addG 30 (hideS (sp2 s78))
theorem ok_G31:jax Tryz.prog G31:=jam (jam (jam (jak jan ok89) (jjb ok87)) (jjb ok88)) (jjb ok78)
def e7(a b:Int):Int:=IntKind.i64.wrap (a-b)
def kx(a b:Y):Int:=((a++b).size:Int)
def m7(a b:Y)(c:Int):Y:=(a++b).extract (e7 (kx a b) c).toNat (a++b).size
def rm(a g:Bool)(d:Y)(e f:Int)(h:Value→Prop):Prop:=bif a then∀b:Y,sz ((bz d).dropWhile (fun c:Int=>c==ja 48))=b→gu (decide (aq b≤e)) (decide (f≥0) || (g || true)) true (km ⟨#[48]⟩ (imax 0 (e7 e (aq b))) 1000 1000) (∀c:Y,sz (repZ (bz ⟨#[48]⟩) (imax 0 (e7 e (aq b))).toNat)=c→(bif i6 c b then j6 (gz 0 (e7 (kx c b) e) (kx c b) (kx c b) (kx c b)) (bk (a7 f 0) (bif g then ft (m7 c b e) &&j3 [] 48&&true else true) true) (al (ax (bif a7 f 0 then bif g then m7 c b e else m7 c b e else m7 c b e) [.bool (bk (a7 f 0) (bif g then decide (aq b≤e) && (decide (f≥0) || (g || d4 b a8))else decide (aq b≤e) && (decide (f≥0) || (g || d4 b a8))) (decide (aq b≤e) && (decide (f≥0) || (g || d4 b a8))))] (.bool (a7 f 0&& (g&& !jb (m7 c b e) [] 48))))) h else False)) False else False
def ou(b:Int)(c:Prop)(a:UInt8):Prop:=bif km ⟨#[a]⟩ b 1000 1000 then c else False
def rc(f:Bool)(c d e g h:Int)(i:Value→Prop):Prop:=bif cl (IntKind.u64.wrap c) 18446744073709551616&&true then∀a:Y,sz (decZ (IntKind.u64.wrap c))=a→(bif decide (d≥e)then ou (e7 d e) (∀b:Y,sz (repZ (bz ⟨#[48]⟩) (e7 d e).toNat)=b→rm (i6 a b) f (a++b) g h i) 48 else rm (gz 0 0 (imax 0 (e7 (aq a) (IntKind.i64.wrap (e-d)))) (imax 0 (e7 (aq a) (IntKind.i64.wrap (e-d)))) (aq a)) f (j1 a (imax 0 (e7 (aq a) (IntKind.i64.wrap (e-d))))) g h i)else False
theorem v63(s:Y)(nb:Bool)(w:Int)(d:Int)(sc:Int)(sg:Bool)(k:Nat)(cap:Nat)(dr:Int)(f:Int)(cr:Bool)(fl:Int)(fm:Int)(n:Int)(q:Int)(R:Value→Prop):(ja1 Tryz.prog G31 noL Tryz.f225 [.pointer (some ⟨0,0,some 0⟩),I n,I q] (vwF (fmL s nb w d sc sg 1 k cap dr f cr fl fm)) 2 (fun v _ _=>R v))=(bif a7 n 0 then rc sg (0-IntKind.u64.wrap n) sc q d n R else rc sg n sc q d n R):=by kernel_rfl
theorem jl1:∀k:Nat,repZ [48] k=rep1 48 k
 | 0=>rfl
 | k+1=>by rw[repZ,jl1 k];rfl
theorem all48{l:J}(h:dgL l=true):(∀c∈l,hasZ [48] c=true)↔dval l=0:=by
 rw[←strip_nil h,jh7];constructor
 ·intro q c hc;have:=q c hc;rw[ja8]at this;simpa using this
 ·intro q c hc;rw[ja8];simpa using q c hc
theorem jgj(s:Y):(s.toList==ByteArray.toList (ByteArray.mk #[]))=(bz s).isEmpty:=by
 rw[jcd];have:bz ⟨#[]⟩=[]:=rfl;rw[this];cases bz s<;>rfl
theorem trim_isB{l cs:J}(h:IsB l):IsB (jb4 l cs):=by
 intro c hc;refine h c ?_;unfold jb4 at hc;have:=List.dropWhile_sublist _ |>.subset hc
 have:c∈l.reverse.dropWhile (hasZ cs):=by simpa using this
 simpa using List.dropWhile_sublist _ |>.subset this
theorem jhe{n d M:Int}{sg:Bool}{l1:J}{s1:Y}(hs1:bz s1=l1)(hdg:dgL l1=true)(hv:dval l1=M)(hlen:l1.length≤100)(hd:0≤d∧d≤9){R:Value→Prop}
  (hR:R (.tuple ⟨[.string (sz (digZ (M%tenZ d.toNat) d.toNat)),.bool (decide (n<0) && (sg&& !(M%tenZ d.toNat==0))),.bool (decide (M<tenZ d.toNat) && (decide (n≥0) || (sg || M%tenZ d.toNat==0)))]⟩)):
  ∀(s2:Y),sz (List.dropWhile (fun x=>x==List.getD (bz (ByteArray.mk #[48])) 0 0) (bz s1))=s2→
   bif bif decide ((↑(ByteArray.size s2):Int)≤d)then decide (n≥0) || (sg || true)else true then
    bif decide (0≤imax 0 (IntKind.wrap IntKind.i64 (d-(↑(ByteArray.size s2):Int)))∧imax 0 (IntKind.wrap IntKind.i64 (d-(↑(ByteArray.size s2):Int)))≤1000∧ByteArray.size (ByteArray.mk #[48])≤1000)then
     ∀(s':Y),sz (repZ (bz (ByteArray.mk #[48])) (Int.toNat (imax 0 (IntKind.wrap IntKind.i64 (d-(↑(ByteArray.size s2):Int))))))=s'→
      bif jb1 (ByteArray.size s'+ByteArray.size s2)then
       bif decide (0≤IntKind.wrap IntKind.i64 ((↑(ByteArray.size (s'++s2)):Int)-d)∧IntKind.wrap IntKind.i64 ((↑(ByteArray.size (s'++s2)):Int)-d)≤(↑(ByteArray.size (s'++s2)):Int)∧(↑(ByteArray.size (s'++s2)):Int)≤(↑(ByteArray.size (s'++s2)):Int))then
        bif bif decide (n<0)then bif sg then decide (ByteArray.size (ByteArray.extract (s'++s2) (Int.toNat (IntKind.wrap IntKind.i64 ((↑(ByteArray.size (s'++s2)):Int)-d))) (ByteArray.size (s'++s2)))≤1000) && (decide (ByteArray.size (ByteArray.mk #[48])≤1000) &&asc (bz (ByteArray.mk #[48]))) &&true else true else true then
         R (Value.tuple (Array.mk [Value.string (bif decide (n<0)then bif sg then ByteArray.extract (s'++s2) (Int.toNat (IntKind.wrap IntKind.i64 ((↑(ByteArray.size (s'++s2)):Int)-d))) (ByteArray.size (s'++s2))else ByteArray.extract (s'++s2) (Int.toNat (IntKind.wrap IntKind.i64 ((↑(ByteArray.size (s'++s2)):Int)-d))) (ByteArray.size (s'++s2))else ByteArray.extract (s'++s2) (Int.toNat (IntKind.wrap IntKind.i64 ((↑(ByteArray.size (s'++s2)):Int)-d))) (ByteArray.size (s'++s2))),
          Value.bool (decide (n<0) && (sg&& !ByteArray.toList (szO (jb4 (bz (ByteArray.extract (s'++s2) (Int.toNat (IntKind.wrap IntKind.i64 ((↑(ByteArray.size (s'++s2)):Int)-d))) (ByteArray.size (s'++s2)))) (bz (ByteArray.mk #[48]))))==ByteArray.toList (ByteArray.mk #[]))),
          Value.bool (bif decide (n<0)then bif sg then decide ((↑(ByteArray.size s2):Int)≤d) && (decide (n≥0) || (sg || ByteArray.toList s2==ByteArray.toList (ByteArray.mk #[])))else decide ((↑(ByteArray.size s2):Int)≤d) && (decide (n≥0) || (sg || ByteArray.toList s2==ByteArray.toList (ByteArray.mk #[])))else decide ((↑(ByteArray.size s2):Int)≤d) && (decide (n≥0) || (sg || ByteArray.toList s2==ByteArray.toList (ByteArray.mk #[]))))]))
        else False
       else False
      else False
    else False
   else False:=by
 intro s2 h2;have k0:(bz ⟨#[48]⟩).getD 0 0=48:=rfl;have k1:bz ⟨#[48]⟩=[48]:=rfl;rw[k0,hs1]at h2;have hB:∀{l:J},dgL l=true→IsB l:=jg1;have h2d:=dgL_strip hdg;have b2:bz s2=l1.dropWhile (· ==48):=by rw[←h2,jdd (hB h2d)]
 have hl2:(l1.dropWhile (· ==48)).length≤100:=Nat.le_trans (List.dropWhile_sublist _).length_le hlen;have z2:s2.size=(l1.dropWhile (· ==48)).length:=by rw[←jap,b2]
 rw[z2,w64 (n:=d-((l1.dropWhile (· ==48)).length:Int)) (by omega),k1];have hv2:dval (l1.dropWhile (· ==48))=M:=by rw[jfo,hv]
 have hlt:=strip_len hdg d.toNat;have hnl:=strip_nil hdg;rw[hv]at hlt hnl;generalize l1.dropWhile (· ==48)=l2 at*;have hk:0≤imax 0 (d-(l2.length:Int))∧imax 0 (d-(l2.length:Int))≤9∧d≤imax 0 (d-(l2.length:Int))+l2.length:=by unfold imax;split<;>omega
 generalize imax 0 (d-(l2.length:Int))=k at*;refine c_t (by cases decide ((l2.length:Int)≤d) <;>simp) (c_t (jaa ⟨hk.1,by omega,by decide⟩) fun s3 h3=> ?_);obtain⟨r1,r2⟩:=jji k.toNat;have b3:bz s3=rep1 48 k.toNat:=by rw[←h3,jl1,jdd (hB r2)]
 have z3:s3.size=k.toNat:=by rw[←jap,b3];simp[rep1]
 have bE:bz (s3++s2)=rep1 48 k.toNat++l2:=by rw[jcw,b3,b2]
 have zE:(s3++s2).size=k.toNat+l2.length:=by rw[←jap,bE,List.length_append];simp[rep1]
 rw[zE,w64 (n:=((k.toNat+l2.length:Nat):Int)-d) (by omega)];refine c_t (by simp only[jb1,Nat.ble_eq];omega) (c_t (jaa (by omega)) ?_);have d3:dgL (rep1 48 k.toNat++l2)=true:=jib.2 ⟨r2,h2d⟩;have v3:dval (rep1 48 k.toNat++l2)=M:=by rw[jd6,r1,hv2];omega
 have l3:(rep1 48 k.toNat++l2).length=k.toNat+l2.length:=by rw[List.length_append];simp[rep1]
 have hM:0≤M:=by have:=(jdq _ d3).1;omega
 have bx:bz ((s3++s2).extract (((k.toNat+l2.length:Nat):Int)-d).toNat (k.toNat+l2.length))=digZ (M%tenZ d.toNat) d.toNat:=by
  rw[jcb,bE,List.take_of_length_le (by rw[l3];exact Nat.le_refl _)];have:=digZ_last d3 (d:=d.toNat) (by rw[l3];omega);rw[v3,l3]at this;rw[jjn _ _ hM,←this];congr 1;omega
 have ex:(s3++s2).extract (((k.toNat+l2.length:Nat):Int)-d).toNat (k.toNat+l2.length)=sz (digZ (M%tenZ d.toNat) d.toNat):=by rw[←bx,jhk]
 have hdd:=jdc d.toNat (M%tenZ d.toNat);rw[ex,jdd (hB hdd),jc3,jgj,jdd (trim_isB (hB hdd)),jgj,b2]
 have e1:(jb4 (digZ (M%tenZ d.toNat) d.toNat) [48]).isEmpty=(M%tenZ d.toNat==0):=by
  have hm:=Int.emod_nonneg M (b:=tenZ d.toNat) (by have:=jcs d.toNat;omega);have hm2:=Int.emod_lt_of_pos M (jcs d.toNat);have hz:dval (digZ (M%tenZ d.toNat) d.toNat)=M%tenZ d.toNat:=by rw[jhb _ _ hm,Int.emod_eq_of_lt hm hm2]
  rw[Bool.eq_iff_iff,List.isEmpty_iff,jis,all48 hdd,hz,beq_iff_eq]
 have e2:(decide ((l2.length:Int)≤d) && (decide (n≥0) || (sg || l2.isEmpty)))=(decide (M<tenZ d.toNat) && (decide (n≥0) || (sg || M%tenZ d.toNat==0))):=by
  by_cases hq:M<tenZ d.toNat
  ·have h5:(l2.length:Int)≤d:=by have:=hlt.2 hq;omega
   have h6:l2.isEmpty=(M%tenZ d.toNat==0):=by
    rw[Int.emod_eq_of_lt hM hq,Bool.eq_iff_iff,List.isEmpty_iff,hnl,beq_iff_eq]
   rw[jaa hq,jaa h5,h6]
  ·have h5:¬(l2.length:Int)≤d:=fun q=>hq (hlt.1 (by omega))
   rw[jad hq,jad h5];rfl
 rw[e1,e2,jcr,jcm];have a1:decide (d.toNat≤1000)=true:=jaa (by omega);rw[a1];refine c_t (by cases decide (n<0) <;>cases sg<;>rfl) ?_;cases hn:decide (n<0) <;>cases sg<;>simpa[hn]using hR
def cutV(n q sc d:Int)(sg:Bool):Value:= .tuple ⟨[.string (sz (digZ ((cuN n q sc d sg).natAbs:Int) d.toNat)),.bool (decide (cuN n q sc d sg<0)),.bool (cuF n q sc d sg)]⟩
theorem cutV_eq{n q sc d:Int}{sg:Bool}(hM:0≤cuM n q sc):cutV n q sc d sg= .tuple ⟨[.string (sz (digZ (cuM n q sc%tenZ d.toNat) d.toNat)),.bool (decide (n<0) && (sg&& !(cuM n q sc%tenZ d.toNat==0))),.bool (decide (cuM n q sc<tenZ d.toNat) && (decide (n≥0) || (sg || cuM n q sc%tenZ d.toNat==0)))]⟩:=by
 have hm:=Int.emod_nonneg (cuM n q sc) (b:=tenZ d.toNat) (by have:=jcs d.toNat;omega)
 have e1:((cuN n q sc d sg).natAbs:Int)=cuM n q sc%tenZ d.toNat:=by
  unfold cuN cuV;split<;>omega
 have e2:decide (cuN n q sc d sg<0)=(decide (n<0) && (sg&& !(cuM n q sc%tenZ d.toNat==0))):=by
  unfold cuN cuV;rw[Bool.eq_iff_iff];simp only[jae,jaf,Bool.not_eq_true',beq_eq_false_iff_ne];split
  ·rename_i h;constructor
   ·exact fun q=>⟨h.1,h.2,by omega⟩
   ·exact fun q=>by omega
  ·rename_i h;constructor
   ·exact fun q=>by omega
   ·exact fun q=>absurd ⟨q.1,q.2.1⟩ h
 rw[cutV,e1,e2];rfl
theorem w63(s:Y)(nb:Bool)(w:Int)(d:Int)(sc:Int)(sg:Bool)(k:Nat)(cap:Nat)(dr:Int)(f:Int)(cr:Bool)(fl:Int)(fm:Int)(n q:Int)(hn: -9223372036854775808≤n∧n≤9223372036854775807)(hq:0≤q∧q≤9)(hsc:0≤sc∧sc≤9)(hd:0≤d∧d≤9){R:Value→Prop}(hR:R (cutV n q sc d sg)):
  jeb Tryz.prog G31 noL Tryz.f225 [.pointer (some ⟨0,0,some 0⟩),.int .i64 n,.int .i64 q] (vwF (fmL s nb w d sc sg 1 k cap dr f cr fl fm)) 2 (fun v _ _=>R v):=by
 rw[jeb,v63];delta ar gu cu j6 al ax a8 l5 jb e7 kx m7 a7 bk d4 aq ft j3 gz i6 km ja rm j1 ou cl rc;obtain⟨u,hu⟩:∃u:Nat,n.natAbs=u:=⟨_,rfl⟩
 obtain⟨U,hU⟩:∃U:Int,U=u:=⟨_,rfl⟩
 obtain⟨g1,g2⟩:=dec_spec u
 have gl:(zl (Lib.decDigits u)).length≤20:=by
  rw[zl,List.length_map,Lib.decDigits_length];exact Lib.nDigits_le20 u (by omega)
 have eD:decZ U=zl (Lib.decDigits u):=by rw[hU,decZ,Int.toNat_natCast]
 have eM1:sc≥q→cuM n q sc=u*tenZ (sc-q).toNat:=fun h=>by
  unfold cuM;split
  ·have:sc=q:=by omega
   rw[this,hu,Int.sub_self];simp[tenZ]
  ·rw[hu]
 have eM2:¬sc≥q→cuM n q sc=u/tenZ (q-sc).toNat:=fun h=>by
  unfold cuM;rw[if_pos (by omega),hu]
 have hM:0≤cuM n q sc:=by
  by_cases h:sc≥q
  ·rw[eM1 h];exact Int.mul_nonneg (by omega) (by have:=jcs (sc-q).toNat;omega)
  ·rw[eM2 h];exact Int.ediv_nonneg (by omega) (by have:=jcs (q-sc).toNat;omega)
 have k1:bz ⟨#[48]⟩=[48]:=rfl
 have tail1:∀(s1 s2:Y),sz (decZ U)=s1→sc≥q→sz (repZ (bz (ByteArray.mk #[48])) (Int.toNat (sc-q)))=s2→jb1 (s1.size+s2.size)=true∧bz (s1++s2)=zl (Lib.decDigits u)++rep1 48 (sc-q).toNat:=fun s1 s2 h1 h2 h3=>by
  have r:=jji (sc-q).toNat;have b1:bz s1=zl (Lib.decDigits u):=by rw[←h1,eD,jdd (jg1 g1)]
  have b2:bz s2=rep1 48 (sc-q).toNat:=by rw[←h3,k1,jl1,jdd (jg1 r.2)]
  have z1:s1.size≤20:=by rw[←jap,b1];exact gl
  have z2:s2.size≤9:=by rw[←jap,b2];simp[rep1];omega
  exact⟨by simp only[jb1,Nat.ble_eq];omega,by rw[jcw,b1,b2]⟩
 have tv1:∀h:sc≥q,dgL (zl (Lib.decDigits u)++rep1 48 (sc-q).toNat)=true∧dval (zl (Lib.decDigits u)++rep1 48 (sc-q).toNat)=cuM n q sc∧(zl (Lib.decDigits u)++rep1 48 (sc-q).toNat).length≤100:=fun h=>by
  have r:=jji (sc-q).toNat;refine⟨jib.2 ⟨g1,r.2⟩,?_,?_⟩
  ·rw[jd6,g2,r.1,eM1 h];simp[rep1]
  ·rw[List.length_append];simp only[rep1,List.length_replicate];omega
 have tail2:∀(s1:Y),sz (decZ U)=s1→ ¬sc≥q→(0≤imax 0 ((s1.size:Int)-(q-sc))∧imax 0 ((s1.size:Int)-(q-sc))≤s1.size)∧s1.size≤20∧bz (s1.extract 0 (Int.toNat (imax 0 ((s1.size:Int)-(q-sc)))))=(zl (Lib.decDigits u)).take ((zl (Lib.decDigits u)).length-(q-sc).toNat):=fun s1 h1 h2=>by
  have b1:bz s1=zl (Lib.decDigits u):=by rw[←h1,eD,jdd (jg1 g1)]
  have z1:s1.size=(zl (Lib.decDigits u)).length:=by rw[←jap,b1]
  refine⟨by unfold imax;split<;>omega,by omega,?_⟩;rw[jcb,b1,List.drop_zero];congr 1;unfold imax;split<;>omega
 have tv2:∀h:¬sc≥q,dgL ((zl (Lib.decDigits u)).take ((zl (Lib.decDigits u)).length-(q-sc).toNat))=true∧dval ((zl (Lib.decDigits u)).take ((zl (Lib.decDigits u)).length-(q-sc).toNat))=cuM n q sc∧((zl (Lib.decDigits u)).take ((zl (Lib.decDigits u)).length-(q-sc).toNat)).length≤100:=fun h=>by
  refine⟨?_,?_,?_⟩
  ·simp only[dgL,List.all_eq_true]at g1 ⊢;exact fun c hc=>g1 c (List.mem_of_mem_take hc)
  ·rw[dval_take g1,g2,eM2 h]
  ·rw[List.length_take];omega
 rw[cutV_eq hM]at hR;apply cond_intro<;>intro hneg
 ·have hneg':=jab hneg;have e:IntKind.wrap .u64 (0-IntKind.wrap .u64 n)=U:=by rw[jmu,jmu];omega
  rw[e,w64 (n:=sc-q) (by omega),w64 (n:=q-sc) (by omega)];refine c_t (by rw[jaa (show(0:Int)≤U∧U<18446744073709551616 by omega)];rfl) fun s1 h1=>cond_intro (fun h=> ?_) (fun h=> ?_)
  ·have h:=jab h;refine c_t (jaa ⟨by omega,by omega,by decide⟩) fun s2 h2=> ?_
   obtain⟨a1,a2⟩:=tail1 s1 s2 h1 h h2;obtain⟨t1,t2,t3⟩:=tv1 h;exact c_t a1 (jhe a2 t1 t2 t3 hd hR)
  ·have h:=jac h;obtain⟨a1,a2,a3⟩:=tail2 s1 h1 h;obtain⟨t1,t2,t3⟩:=tv2 h;rw[w64 (n:=(s1.size:Int)-(q-sc)) (by omega)];have b1:decide ((0:Int)≤0∧0≤imax 0 ((s1.size:Int)-(q-sc))∧imax 0 ((s1.size:Int)-(q-sc))≤(s1.size:Int))=true:=jaa ⟨by decide,a1.1,a1.2⟩;exact c_t b1 (jhe a3 t1 t2 t3 hd hR)
 ·have hneg':=jac hneg;have e:IntKind.wrap .u64 n=U:=by rw[jmu];omega
  rw[e,w64 (n:=sc-q) (by omega),w64 (n:=q-sc) (by omega)];refine c_t (by rw[jaa (show(0:Int)≤U∧U<18446744073709551616 by omega)];rfl) fun s1 h1=>cond_intro (fun h=> ?_) (fun h=> ?_)
  ·have h:=jab h;refine c_t (jaa ⟨by omega,by omega,by decide⟩) fun s2 h2=> ?_
   obtain⟨a1,a2⟩:=tail1 s1 s2 h1 h h2;obtain⟨t1,t2,t3⟩:=tv1 h;exact c_t a1 (jhe a2 t1 t2 t3 hd hR)
  ·have h:=jac h;obtain⟨a1,a2,a3⟩:=tail2 s1 h1 h;obtain⟨t1,t2,t3⟩:=tv2 h;rw[w64 (n:=(s1.size:Int)-(q-sc)) (by omega)];have b1:decide ((0:Int)≤0∧0≤imax 0 ((s1.size:Int)-(q-sc))∧imax 0 ((s1.size:Int)-(q-sc))≤(s1.size:Int))=true:=jaa ⟨by decide,a1.1,a1.2⟩;exact c_t b1 (jhe a3 t1 t2 t3 hd hR)
def i64B(n:Int):Bool:=decide (-9223372036854775808≤n∧n≤9223372036854775807)
def h63:E→Lk→Nat→(Value→Lk→Nat→Prop)→Prop:=fun args m n K=>match args with
 | [.pointer (some ⟨a,0,some 0⟩),.int .i64 x,.int .i64 q]=>match m a with
  | some ⟨[.string s,.bool nb,.int .i64 w,.int .i64 d,.int .i64 sc,.bool sg,.slice (some ⟨y,0,some 1⟩) k cap,.int .u8 dr,.int .i64 f,.bool cr,.int .u8 fl,.int .i64 fm],156,own⟩=>
   match cnd (i64B x&& (decide (0≤q∧q≤9) && (decide (0≤sc∧sc≤9) &&decide (0≤d∧d≤9))))with
   | true=>K (cutV x q sc d sg) m n
   | false=>False
  | _=>False
 | _=>False
theorem fn63:Fn1 Tryz.prog 225 Tryz.f225:= .m Tryz.func225
theorem h63_ok:jc7 Tryz.prog 225 h63:=by
 refine jh1 ok_G31 hmix fn63 jai fun args m n K h=> ?_
 unfold h63 at h;split at h
 case h_2=>exact h.elim
 rename_i a x q;split at h
 case h_2=>exact h.elim
 rename_i s nb w d sc sg y k cap dr f cr fl fm own hm;split at h
 case h_2=>exact h.elim
 rename_i hc;simp only[cnd,i64B,jaf,jae]at hc;obtain⟨h1,h2,h3,h4⟩:=hc;refine⟨[.pointer (some ⟨0,0,some 0⟩),.int .i64 x,.int .i64 q],_,2,rho2 a y,cutV x q sc d sg,sub_F hm,fun ι=>by simp[ren,ren1,rho2],jag,fun v hv j hj=> ?_,rfl,w63 s nb w d sc sg k cap dr f cr fl fm x q h1 h2 h3 h4 (R:=fun v=>v=cutV x q sc d sg) rfl,h⟩;simp at hv;rcases hv with rfl | rfl | rfl
 ·have:j=0:=by simpa[ids]using hj
  omega
 ·simp[ids]at hj
 ·simp[ids]at hj
def G32:Env:=Env.nil.add 55 (sp2 s89)
theorem ok_G32:jax Tryz.prog G32:=jak jan ok89
def enOn:J→Bool
 | []=>false
 | r::rs=>bif r==0 || r==1 then r==1 else enOn rs
def enGo(ze:Bool)(fm:Int):J→J→Int→Int
 | [],_,_=> -1
 | r::rs,ds,at_=>bif r==0 then at_ else bif r==1 then(bif ds.headD 0 !=48 then at_ else enGo ze fm rs ds.tail (at_+1))
  else bif r==2 then(bif decide (fm>0) || !ze then at_ else enGo ze fm rs ds at_)else enGo ze fm rs ds (at_+1)
def cn1:J→Int
 | []=>0
 | r::rs=>(bif r==1 then 1 else 0)+cn1 rs
theorem jlm:∀l,0≤cn1 l
 | []=>by simp[cn1]
 | r::rs=>by have:=jlm rs;rw[cn1];cases r==1<;>simp<;>omega
def V90_0:Int×Int×Int×Bool×Bool×Nat×Nat×Int×Int×Y×Bool×Int×Int×Int×Bool×Nat×Nat×Int×Int×Bool×Int×Int×Y×Bool×Int×Int×Int×E→E:=fun(r2,r3,r4,ze,on,k2,cap2,L,i,s,nb,w,dg,sc,sg,k,cap,dr,f,cr,fl,fm,nu,mi,us,at0,ld,d)=> [.pointer (some ⟨0,0,some 0⟩),I r2,I r3,I r4,B ze,B on,.slice (some ⟨2,0,some 1⟩) k2 cap2,I L,I i]
def B90_0:Int×Int×Int×Bool×Bool×Nat×Nat×Int×Int×Y×Bool×Int×Int×Int×Bool×Nat×Nat×Int×Int×Bool×Int×Int×Y×Bool×Int×Int×Int×E→O:=fun(r2,r3,r4,ze,on,k2,cap2,L,i,s,nb,w,dg,sc,sg,k,cap,dr,f,cr,fl,fm,nu,mi,us,at0,ld,d)=> [some ⟨[.pointer (some ⟨1,0,some 0⟩),.string nu,.bool mi,.int .i64 us,.int .i64 at0,.int .i64 ld],255,false⟩,some ⟨[.string s,.bool nb,.int .i64 w,.int .i64 dg,.int .i64 sc,.bool sg,.slice (some ⟨2,0,some 1⟩) k cap,.int .u8 dr,.int .i64 f,.bool cr,.int .u8 fl,.int .i64 fm],156,false⟩,some ⟨d,251,false⟩]
def S90_0:LSpecA (Int×Int×Int×Bool×Bool×Nat×Nat×Int×Int×Y×Bool×Int×Int×Int×Bool×Nat×Nat×Int×Int×Bool×Int×Int×Y×Bool×Int×Int×Int×E) where
 live:=[0,2,3,4,5,6,23,24,25]
 mid:=[0,1,2]
 n:=100
 ap:=[]
 dec vs bs:=match vs,bs with | [.pointer (some ⟨0,0,some 0⟩),.int .i64 r2,.int .i64 r3,.int .i64 r4,.bool ze,.bool on,.slice (some ⟨2,0,some 1⟩) k2 cap2,.int .i64 L,.int .i64 i],[some ⟨[.pointer (some ⟨1,0,some 0⟩),.string nu,.bool mi,.int .i64 us,.int .i64 at0,.int .i64 ld],255,false⟩,some ⟨[.string s,.bool nb,.int .i64 w,.int .i64 dg,.int .i64 sc,.bool sg,.slice (some ⟨2,0,some 1⟩) k cap,.int .u8 dr,.int .i64 f,.bool cr,.int .u8 fl,.int .i64 fm],156,false⟩,some ⟨d,251,false⟩]=>some (r2,r3,r4,ze,on,k2,cap2,L,i,s,nb,w,dg,sc,sg,k,cap,dr,f,cr,fl,fm,nu,mi,us,at0,ld,d) | _,_=>none
 pre:=fun(r2,r3,r4,ze,on,k2,cap2,L,i,s,nb,w,dg,sc,sg,k,cap,dr,f,cr,fl,fm,nu,mi,us,at0,ld,d)=>jbu d k2 cap2&&decide (0≤i∧i≤k2∧k2≤1000∧L=k2∧on=false)
 fin:=fun(r2,r3,r4,ze,on,k2,cap2,L,i,s,nb,w,dg,sc,sg,k,cap,dr,f,cr,fl,fm,nu,mi,us,at0,ld,d) Z=>∀i',Z (.exit 0) [.pointer (some ⟨0,0,some 0⟩),I r2,I r3,I r4,B ze,B (enOn ((zc d k2).drop i.toNat)),.slice (some ⟨2,0,some 1⟩) k2 cap2,I L,I i'] [some ⟨[.pointer (some ⟨1,0,some 0⟩),.string nu,.bool mi,.int .i64 us,.int .i64 at0,.int .i64 ld],255,false⟩,some ⟨[.string s,.bool nb,.int .i64 w,.int .i64 dg,.int .i64 sc,.bool sg,.slice (some ⟨2,0,some 1⟩) k cap,.int .u8 dr,.int .i64 f,.bool cr,.int .u8 fl,.int .i64 fm],156,false⟩,some ⟨d,251,false⟩]
def my(d:Bool)(a c:Int)(e:E)(b:Value):E:=av 0::ak a::b::ak c:: .bool d::e
def jr(a:E):Option Blk:=some (.mk (rlbL [] a) 251 false)
def jx(b f l:Bool)(a:Y)(c d e j k m n:Int)(g h i:Nat):Option Blk:=some (.mk [.string a,.bool b,ak c,ak d,ak e,.bool f,a9 g h i,ao j,ak k,.bool l,ao m,ak n] 156 false)
def l4(a:Bool)(b:Y)(c d e:Int):Option Blk:=some (.mk (av 1::dq a b (bw c d) (ak e)) 255 false)
theorem r90_0(r2:Int)(r3:Int)(r4:Int)(ze:Bool)(on:Bool)(k2:Nat)(cap2:Nat)(L:Int)(i:Int)(s:Y)(nb:Bool)(w:Int)(dg:Int)(sc:Int)(sg:Bool)(k:Nat)(cap:Nat)(dr:Int)(f:Int)(cr:Bool)(fl:Int)(fm:Int)(nu:Y)(mi:Bool)(us:Int)(at0:Int)(ld:Int)(d:E)(jk:Tmps)(R:Exit→E→O→Prop):(jbv Tryz.prog G32 noL Tryz.f251.ntmps (ja9 Tryz.f251 0) (tl S90_0.live (V90_0 (r2,r3,r4,ze,on,k2,cap2,L,i,s,nb,w,dg,sc,sg,k,cap,dr,f,cr,fl,fm,nu,mi,us,at0,ld,d)) jk) (ml S90_0.mid (B90_0 (r2,r3,r4,ze,on,k2,cap2,L,i,s,nb,w,dg,sc,sg,k,cap,dr,f,cr,fl,fm,nu,mi,us,at0,ld,d))) S90_0.n fun e t' m' _=>S90_0.out R e t' m')=(lb R i L [jr d] d (my ze r2 r4 (B on::fp L i 2 k2 cap2) (ak r3)) k2 0 (l4 mi nu at0 ld us) (jx nb sg cr s w dg sc dr f fl fm 2 k cap) (az (ew i 0 d) true (ew i 0 d || ew i 1 d) (bif ip d then R (.exit 0) (my ze r2 r4 (B (ew i 1 d)::fp L i 2 k2 cap2) (ak r3)) [l4 mi nu at0 ld us,jx nb sg cr s w dg sc dr f fl fm 2 k cap,jr d]else False) (b9 (ip d) R [l4 mi nu at0 ld us,jx nb sg cr s w dg sc dr f fl fm 2 k cap,jr d] (my ze r2 r4 (B on::a9 2 k2 cap2::bv L i) (ak r3))))):=by kernel_rfl
theorem l90_0:∀t m n K,S90_0.hA t m n K→Ab.Sem Tryz.prog Tryz.f251.ntmps (.loop (ja9 Tryz.f251 0)) t m n K:=by
 refine jbr ok_G32 hmix (by kernel_rfl) (ja7 _) S90_0 V90_0 B90_0 (fun(r2,r3,r4,ze,on,k2,cap2,L,i,s,nb,w,dg,sc,sg,k,cap,dr,f,cr,fl,fm,nu,mi,us,at0,ld,d)=>(k2-i).toNat) ?_ ?_ ?_
 ·intro vs bs s h;simp only[S90_0]at h;split at h
  all_goals first | (cases h;exact⟨rfl,rfl⟩) | cases h | (split at h<;>first | (rename_i hq;cases h;have hq:=jah hq;subst hq;exact⟨rfl,rfl⟩) | cases h)
 ·exact fun⟨r2,r3,r4,ze,on,k2,cap2,L,i,s,nb,w,dg,sc,sg,k,cap,dr,f,cr,fl,fm,nu,mi,us,at0,ld,d⟩ hp=>by
   simp only[S90_0,jaf]at hp;have hr:=jaw.1 hp.1;simp[V90_0,B90_0,S90_0,ja0,jbz,idsL,ids,jaq hr.plain]
 ·intro⟨r2,r3,r4,ze,on,k2,cap2,L,i,s,nb,w,dg,sc,sg,k,cap,dr,f,cr,fl,fm,nu,mi,us,at0,ld,d⟩ jk Z hp hf;rw[r90_0];delta cq ar d5 dp ip cl b7 lb az b9 ak dv av my aw ay bv a9 jr ao jx dq bw l4 fp io ew;simp only[S90_0]at hp hf;simp only[jaf,jae]at hp;obtain⟨hR,hp⟩:=hp;have hr:=jaw.1 hR;have hzl:=jbj hr;have e0:0+i.toNat*1=i.toNat:=by omega
  rw[e0];simp only[hr.rlb];have hg:(jav [] d&&true&&true)=true:=by rw[hr.good];rfl
  apply cond_intro<;>intro h
  ·have h:=jab h;obtain⟨a1,a3⟩:=hr.at hp.1 (by omega);rw[a3,enOn]at hf;rw[a1,w64 (n:=i+1) (by omega)];generalize jau d i.toNat=c at*;refine c_t (jaa (by omega)) (c_t rfl (c_t (by simp) (cond_intro (fun z=>c_t hg ?_) (fun z=>c_t hg ?_))))
   ·rw[z,cond_true]at hf;exact hf i
   ·rw[z,cond_false]at hf;exact⟨(r2,r3,r4,ze,on,k2,cap2,L,i+1,s,nb,w,dg,sc,sg,k,cap,dr,f,cr,fl,fm,nu,mi,us,at0,ld,d),rfl,rfl,by simp only[S90_0,jaf,jae];exact⟨hR,by omega,by omega,by omega,by omega,hp.2.2.2.2⟩,by simp only;omega,hf⟩
  ·have h:=jac h;rw[hr.end (by omega),enOn]at hf;rw[hp.2.2.2.2];exact c_t hg (hf i)
def V90_2:Int×Int×Int×Bool×Nat×Nat×Int×Int×Y×Bool×Int×Int×Int×Bool×Nat×Nat×Int×Int×Bool×Int×Int×Y×Bool×Int×Int×Int×E→E:=fun(r2,aa,kk,ze,k2,cap2,L,i,s,nb,w,dg,sc,sg,k,cap,dr,f,cr,fl,fm,nu,mi,us,at0,ld,d)=> [.pointer (some ⟨0,0,some 0⟩),I r2,I aa,I kk,B ze,.slice (some ⟨2,0,some 1⟩) k2 cap2,I L,I i]
def B90_2:Int×Int×Int×Bool×Nat×Nat×Int×Int×Y×Bool×Int×Int×Int×Bool×Nat×Nat×Int×Int×Bool×Int×Int×Y×Bool×Int×Int×Int×E→O:=fun(r2,aa,kk,ze,k2,cap2,L,i,s,nb,w,dg,sc,sg,k,cap,dr,f,cr,fl,fm,nu,mi,us,at0,ld,d)=> [some ⟨[.pointer (some ⟨1,0,some 0⟩),.string nu,.bool mi,.int .i64 us,.int .i64 at0,.int .i64 ld],255,false⟩,some ⟨[.string s,.bool nb,.int .i64 w,.int .i64 dg,.int .i64 sc,.bool sg,.slice (some ⟨2,0,some 1⟩) k cap,.int .u8 dr,.int .i64 f,.bool cr,.int .u8 fl,.int .i64 fm],156,false⟩,some ⟨d,251,false⟩]
def S90_2:LSpecA (Int×Int×Int×Bool×Nat×Nat×Int×Int×Y×Bool×Int×Int×Int×Bool×Nat×Nat×Int×Int×Bool×Int×Int×Y×Bool×Int×Int×Int×E) where
 live:=[0,2,3,4,5,46,47,48]
 mid:=[0,1,2]
 n:=140
 ap:=[]
 dec vs bs:=match vs,bs with | [.pointer (some ⟨0,0,some 0⟩),.int .i64 r2,.int .i64 aa,.int .i64 kk,.bool ze,.slice (some ⟨2,0,some 1⟩) k2 cap2,.int .i64 L,.int .i64 i],[some ⟨[.pointer (some ⟨1,0,some 0⟩),.string nu,.bool mi,.int .i64 us,.int .i64 at0,.int .i64 ld],255,false⟩,some ⟨[.string s,.bool nb,.int .i64 w,.int .i64 dg,.int .i64 sc,.bool sg,.slice (some ⟨2,0,some 1⟩) k cap,.int .u8 dr,.int .i64 f,.bool cr,.int .u8 fl,.int .i64 fm],156,false⟩,some ⟨d,251,false⟩]=>some (r2,aa,kk,ze,k2,cap2,L,i,s,nb,w,dg,sc,sg,k,cap,dr,f,cr,fl,fm,nu,mi,us,at0,ld,d) | _,_=>none
 pre:=fun(r2,aa,kk,ze,k2,cap2,L,i,s,nb,w,dg,sc,sg,k,cap,dr,f,cr,fl,fm,nu,mi,us,at0,ld,d)=>jbu d k2 cap2&&decide (0≤i∧i≤k2∧k2≤1000∧L=k2∧0≤kk∧kk≤i∧0≤aa∧aa≤i∧kk+cn1 ((zc d k2).drop i.toNat)≤nu.size)
 fin:=fun(r2,aa,kk,ze,k2,cap2,L,i,s,nb,w,dg,sc,sg,k,cap,dr,f,cr,fl,fm,nu,mi,us,at0,ld,d) Z=>(∀a' k' i',enGo ze fm ((zc d k2).drop i.toNat) ((bz nu).drop kk.toNat) aa=a'→0≤a'→Z .ret [.pointer (some ⟨0,0,some 0⟩),I a',I a',I k',B ze,.slice (some ⟨2,0,some 1⟩) k2 cap2,I L,I i'] [some ⟨[.pointer (some ⟨1,0,some 0⟩),.string nu,.bool mi,.int .i64 us,.int .i64 at0,.int .i64 ld],255,false⟩,some ⟨[.string s,.bool nb,.int .i64 w,.int .i64 dg,.int .i64 sc,.bool sg,.slice (some ⟨2,0,some 1⟩) k cap,.int .u8 dr,.int .i64 f,.bool cr,.int .u8 fl,.int .i64 fm],156,false⟩,some ⟨d,251,false⟩])∧(enGo ze fm ((zc d k2).drop i.toNat) ((bz nu).drop kk.toNat) aa= -1→ ∀a' k' i',Z (.exit 2) [.pointer (some ⟨0,0,some 0⟩),I r2,I a',I k',B ze,.slice (some ⟨2,0,some 1⟩) k2 cap2,I L,I i'] [some ⟨[.pointer (some ⟨1,0,some 0⟩),.string nu,.bool mi,.int .i64 us,.int .i64 at0,.int .i64 ld],255,false⟩,some ⟨[.string s,.bool nb,.int .i64 w,.int .i64 dg,.int .i64 sc,.bool sg,.slice (some ⟨2,0,some 1⟩) k cap,.int .u8 dr,.int .i64 f,.bool cr,.int .u8 fl,.int .i64 fm],156,false⟩,some ⟨d,251,false⟩])
theorem r90_2(r2:Int)(aa:Int)(kk:Int)(ze:Bool)(k2:Nat)(cap2:Nat)(L:Int)(i:Int)(s:Y)(nb:Bool)(w:Int)(dg:Int)(sc:Int)(sg:Bool)(k:Nat)(cap:Nat)(dr:Int)(f:Int)(cr:Bool)(fl:Int)(fm:Int)(nu:Y)(mi:Bool)(us:Int)(at0:Int)(ld:Int)(d:E)(jk:Tmps)(R:Exit→E→O→Prop):(jbv Tryz.prog G32 noL Tryz.f251.ntmps (ja9 Tryz.f251 2) (tl S90_2.live (V90_2 (r2,aa,kk,ze,k2,cap2,L,i,s,nb,w,dg,sc,sg,k,cap,dr,f,cr,fl,fm,nu,mi,us,at0,ld,d)) jk) (ml S90_2.mid (B90_2 (r2,aa,kk,ze,k2,cap2,L,i,s,nb,w,dg,sc,sg,k,cap,dr,f,cr,fl,fm,nu,mi,us,at0,ld,d))) S90_2.n fun e t' m' _=>S90_2.out R e t' m')=(lb R i L [jr d] d (my ze r2 kk (fp L i 2 k2 cap2) (ak aa)) k2 2 (l4 mi nu at0 ld us) (jx nb sg cr s w dg sc dr f fl fm 2 k cap) (bif ew i 0 d then bif ip d then R .ret (my ze aa kk (fp L i 2 k2 cap2) (ak aa)) [l4 mi nu at0 ld us,jx nb sg cr s w dg sc dr f fl fm 2 k cap,jr d]else False else bif ew i 1 d then bif bp nu kk then lp (k8 nu kk) (ip d) R [jx nb sg cr s w dg sc dr f fl fm 2 k cap,jr d] (ak kk::B ze::fp L i 2 k2 cap2) (ay kk::B ze::a9 2 k2 cap2::bv L i) (l4 mi nu at0 ld us) (av 0) (ak aa) (ak aa) (av 0) (ak r2) (ay aa)else False else bif ew i 2 d then bif dy fm 0 || true then lp (dy fm 0 || !ze) (ip d) R [jx nb sg cr s w dg sc dr f fl fm 2 k cap,jr d] (ak kk::B ze::fp L i 2 k2 cap2) (ak kk::B ze::a9 2 k2 cap2::bv L i) (l4 mi nu at0 ld us) (av 0) (ak aa) (ak aa) (av 0) (ak r2) (ak aa)else False else b9 (ip d) R [l4 mi nu at0 ld us,jx nb sg cr s w dg sc dr f fl fm 2 k cap,jr d] (my ze r2 kk (a9 2 k2 cap2::bv L i) (ay aa)))):=by kernel_rfl
theorem l90_2:∀t m n K,S90_2.hA t m n K→Ab.Sem Tryz.prog Tryz.f251.ntmps (.loop (ja9 Tryz.f251 2)) t m n K:=by
 refine jbr ok_G32 hmix (by kernel_rfl) (ja7 _) S90_2 V90_2 B90_2 (fun(r2,aa,kk,ze,k2,cap2,L,i,s,nb,w,dg,sc,sg,k,cap,dr,f,cr,fl,fm,nu,mi,us,at0,ld,d)=>(k2-i).toNat) ?_ ?_ ?_
 ·intro vs bs s h;simp only[S90_2]at h;split at h
  all_goals first | (cases h;exact⟨rfl,rfl⟩) | cases h | (split at h<;>first | (rename_i hq;cases h;have hq:=jah hq;subst hq;exact⟨rfl,rfl⟩) | cases h)
 ·exact fun⟨r2,aa,kk,ze,k2,cap2,L,i,s,nb,w,dg,sc,sg,k,cap,dr,f,cr,fl,fm,nu,mi,us,at0,ld,d⟩ hp=>by
   simp only[S90_2,jaf]at hp;have hr:=jaw.1 hp.1;simp[V90_2,B90_2,S90_2,ja0,jbz,idsL,ids,jaq hr.plain]
 ·intro⟨r2,aa,kk,ze,k2,cap2,L,i,s,nb,w,dg,sc,sg,k,cap,dr,f,cr,fl,fm,nu,mi,us,at0,ld,d⟩ jk Z hp hf;rw[r90_2];delta cq ar d5 dp ip cl b7 lb b9 ak dv av my aw ay bv a9 jr ao jx dq bw l4 lp fp dy io ew k8 aq bp;simp only[S90_2]at hp hf;simp only[jaf,jae]at hp;obtain⟨hR,hp⟩:=hp;have hr:=jaw.1 hR;have hzl:=jbj hr;have e0:0+i.toNat*1=i.toNat:=by omega
  rw[e0];simp only[hr.rlb];have hg:(jav [] d&&true&&true)=true:=by rw[hr.good];rfl
  apply cond_intro<;>intro h
  ·have h:=jab h;obtain⟨a1,a3⟩:=hr.at hp.1 (by omega);rw[a3]at hp hf;rw[enGo]at hf;rw[cn1]at hp;rw[a1,w64 (n:=i+1) (by omega)];have hc:=jlm ((zc d k2).drop (i+1).toNat);generalize jau d i.toNat=c at*;refine c_t (jaa (by omega)) (c_t rfl (cond_intro (fun z=>c_t hg ?_) (fun z=> ?_)))
   ·rw[z,cond_true]at hf;exact hf.1 aa kk i rfl (by omega)
   ·rw[z,cond_false]at hf;apply cond_intro<;>intro z
    ·rw[z,cond_true]at hf hp;obtain⟨hp1,hp2,hp3,hp4,hp5,hp6,hp7,hp8⟩:=hp;rw[jb7 hp5 (by omega),List.headD_cons,List.tail_cons]at hf;refine c_t (jaa (by omega)) (cond_intro (fun z=>c_t hg ?_) (fun z=>c_t hg ?_))
     ·rw[z,cond_true]at hf;exact hf.1 aa kk i rfl (by omega)
     ·rw[z,cond_false]at hf;rw[w64 (n:=aa+1) (by omega),w64 (n:=kk+1) (by omega)];exact⟨(r2,aa+1,kk+1,ze,k2,cap2,L,i+1,s,nb,w,dg,sc,sg,k,cap,dr,f,cr,fl,fm,nu,mi,us,at0,ld,d),rfl,rfl,by simp only[S90_2,jaf,jae];exact⟨hR,by omega⟩,by simp only;omega,hf⟩
    ·rw[z,cond_false]at hf hp;refine cond_intro (fun z=>c_t (by simp) (cond_intro (fun z2=>c_t hg ?_) (fun z2=>c_t hg ?_))) (fun z=>c_t hg ?_)
     ·rw[z,cond_true,z2,cond_true]at hf;exact hf.1 aa kk i rfl (by omega)
     ·rw[z,cond_true,z2,cond_false]at hf;exact⟨(r2,aa,kk,ze,k2,cap2,L,i+1,s,nb,w,dg,sc,sg,k,cap,dr,f,cr,fl,fm,nu,mi,us,at0,ld,d),rfl,rfl,by simp only[S90_2,jaf,jae];exact⟨hR,by omega⟩,by simp only;omega,hf⟩
     ·rw[z,cond_false]at hf;rw[w64 (n:=aa+1) (by omega)];exact⟨(r2,aa+1,kk,ze,k2,cap2,L,i+1,s,nb,w,dg,sc,sg,k,cap,dr,f,cr,fl,fm,nu,mi,us,at0,ld,d),rfl,rfl,by simp only[S90_2,jaf,jae];exact⟨hR,by omega⟩,by simp only;omega,hf⟩
  ·have h:=jac h;rw[hr.end (by omega),enGo]at hf;exact c_t hg (hf.2 rfl aa kk i)
def pnL(x:Nat)(nu:Y)(mi:Bool)(us at0 ld:Int):E:=[.pointer (some ⟨x,0,some 0⟩),.string nu,.bool mi,.int .i64 us,.int .i64 at0,.int .i64 ld]
def vwF3(p c d:E):Lk:=fun j=>match Nat.beq j 0 with | true=>some ⟨p,255,false⟩ | false=>match Nat.beq j 1 with | true=>some ⟨c,156,false⟩ | false=>match Nat.beq j 2 with | true=>some ⟨d,251,false⟩ | false=>none
def rho3(a x y:Nat):Nat→Nat:=fun j=>match j with | 0=>a | 1=>x | _=>y
theorem sub_F3{m:Lk}{a x y k cap:Nat}{nu:Y}{mi:Bool}{us at0 ld:Int}{s:Y}{nb:Bool}{w d sc:Int}{sg:Bool}{dr f:Int}{cr:Bool}{fl fm:Int}{own own2 own3:Bool}{r:E}(hr:ja5 r=true)
  (hp:m a=some ⟨pnL x nu mi us at0 ld,255,own⟩) (ha:m x=some ⟨fmL s nb w d sc sg y k cap dr f cr fl fm,156,own2⟩) (hx:m y=some ⟨r,251,own3⟩):
  SubM m (rho3 a x y) (vwF3 (pnL 1 nu mi us at0 ld) (fmL s nb w d sc sg 2 k cap dr f cr fl fm) r) 3:=by
 have hget:∀j b,vwF3 (pnL 1 nu mi us at0 ld) (fmL s nb w d sc sg 2 k cap dr f cr fl fm) r j=some b→(j=0∧b=⟨pnL 1 nu mi us at0 ld,255,false⟩)∨(j=1∧b=⟨fmL s nb w d sc sg 2 k cap dr f cr fl fm,156,false⟩)∨(j=2∧b=⟨r,251,false⟩):=fun j b h=>by
  simp only[vwF3]at h;split at h
  ·rename_i h0;cases h;exact .inl ⟨jah h0,rfl⟩
  ·split at h
   ·rename_i h0;cases h;exact .inr (.inl ⟨jah h0,rfl⟩)
   ·split at h
    ·rename_i h0;cases h;exact .inr (.inr ⟨jah h0,rfl⟩)
    ·cases h
 refine⟨fun j b h=> ?_,fun j b h=> ?_⟩
 ·rcases hget j b h with⟨rfl,rfl⟩ | ⟨rfl,rfl⟩ | ⟨rfl,rfl⟩
  ·refine⟨by omega,fun i hi=> ?_⟩;have:i=1:=by simpa[pnL,idsL,ids]using hi
   omega
  ·refine⟨by omega,fun i hi=> ?_⟩;have:i=2:=by simpa[fmL,idsL,ids]using hi
   omega
  ·exact⟨by omega,fun i hi=>by rw[jaq hr]at hi;cases hi⟩
 ·rcases hget j b h with⟨rfl,rfl⟩ | ⟨rfl,rfl⟩ | ⟨rfl,rfl⟩
  ·refine⟨rfl,⟨pnL x nu mi us at0 ld,255,own⟩,?_,fun ι=> ?_⟩
   ·show noIt (m a)=_;rw[hp];simp only[noIt];have:(own&&Nat.beq 255 itTy)=false:=by cases own<;>rfl
    rw[this]
   ·simp[pnL,ren,ren1,rho3]
  ·refine⟨rfl,⟨fmL s nb w d sc sg y k cap dr f cr fl fm,156,own2⟩,?_,fun ι=> ?_⟩
   ·show noIt (m x)=_;rw[ha];simp only[noIt];have:(own2&&Nat.beq 156 itTy)=false:=by cases own2<;>rfl
    rw[this]
   ·simp[fmL,ren,ren1,rho3]
  ·refine⟨rfl,⟨r,251,own3⟩,?_,fun ι=>renMap_congr fun k hk=>by rw[jaq hr]at hk;cases hk⟩;show noIt (m y)=_;rw[hx];simp only[noIt];have:(own3&&Nat.beq 251 itTy)=false:=by cases own3<;>rfl
   rw[this]
theorem fn90:Fn1 Tryz.prog 251 Tryz.f251:= .m Tryz.func251
theorem lok90:LOKf Tryz.prog (twoL 0 S90_0.hA 2 S90_2.hA) Tryz.f251:=jga (by kernel_rfl) (by kernel_rfl) l90_0 l90_2
def enV(nu:J)(fm:Int)(ro:J):Int:=bif enOn ro then enGo (jb4 nu [48]).isEmpty fm ro nu 0 else 0
theorem v90(s:Y)(nb:Bool)(w:Int)(dg:Int)(sc:Int)(sg:Bool)(k:Nat)(cap:Nat)(dr:Int)(f:Int)(cr:Bool)(fl:Int)(fm:Int)(nu:Y)(mi:Bool)(us:Int)(at0:Int)(ld:Int)(d:E)(R:Value→Prop):(ja1 Tryz.prog G32 (twoL 0 S90_0.hA 2 S90_2.hA) Tryz.f251 [.pointer (some ⟨0,0,some 0⟩)] (vwF3 (pnL 1 nu mi us at0 ld) (fmL s nb w dg sc sg 2 k cap dr f cr fl fm) d) 3 (fun v _ _=>R v))=(i7 (ft nu) (j3 [] 48) (jf [] d 100) (bif S90_0.toLSpec.pre ((0:Int),((0:Int),((0:Int),(jb nu [] 48,(false,(k,(cap,(natO k,((0:Int),(s,(nb,(w,(dg,(sc,(sg,(k,(cap,(dr,(f,(cr,(fl,(fm,(nu,(mi,(us,(at0,(ld,rlbL [] d)))))))))))))))))))))))))))then nj d 100 (bif !enOn (gv 0 [] d k)then R (ak 0)else bif jf [] (rlbL [] d) 140 then j9 (S90_2.toLSpec.pre ((0:Int),((0:Int),((0:Int),(jb nu [] 48,(k,(cap,(natO k,((0:Int),(s,(nb,(w,(dg,(sc,(sg,(k,(cap,(dr,(f,(cr,(fl,(fm,(nu,(mi,(us,(at0,(ld,lc d))))))))))))))))))))))))))) (∀a:Int,Int→Int→enGo (jb nu [] 48) fm (gv 0 [] (rlbL [] d) k) (bq nu 0) 0=a→0≤a→jj (gm (lc d) 140) (ak a) R) (enGo (jb nu [] 48) fm (gv 0 [] (rlbL [] d) k) (bq nu 0) 0= -(1:Int)→Int→Int→Int→jj (gm (lc d) 140) (I (-1)) R)else False)else False) False):=by kernel_rfl
theorem w90(s:Y)(nb:Bool)(w:Int)(dg:Int)(sc:Int)(sg:Bool)(k:Nat)(cap:Nat)(dr:Int)(f:Int)(cr:Bool)(fl:Int)(fm:Int)(nu:Y)(mi:Bool)(us:Int)(at0:Int)(ld:Int)(d:E)(hR:jbu d k cap=true)(hk:k≤1000)(hn:nu.size≤1000)(hc:cn1 (zc d k)≤nu.size){R:Value→Prop}(hr:R (.int .i64 (enV (bz nu) fm (zc d k)))):
  jeb Tryz.prog G32 (twoL 0 S90_0.hA 2 S90_2.hA) Tryz.f251 [.pointer (some ⟨0,0,some 0⟩)] (vwF3 (pnL 1 nu mi us at0 ld) (fmL s nb w dg sc sg 2 k cap dr f cr fl fm) d) 3 (fun v _ _=>R v):=by
 rw[jeb,v90];delta ar i7 gm ik nj j9 jj lc bq gv a8 l5 jb ak jf ft j3;have h:=jaw.1 hR;have k1:bz ⟨#[48]⟩=[48]:=rfl
 have e1:(ByteArray.toList (szO (jb4 (bz nu) (bz (ByteArray.mk #[48]))))==ByteArray.toList (ByteArray.mk #[]))=(jb4 (bz nu) [48]).isEmpty:=by
  rw[jc3,jgj,jdd (trim_isB (jd1 nu)),k1]
 have z0:Int.toNat 0=0:=rfl;simp only[h.rlb,e1,z0,List.drop_zero];have hg:∀n,(jav [] d&&true&&true&& (ja0 n d&&true))=true:=fun n=>by rw[h.good];simp[ja0,idsL,jaq h.plain]
 have hi:∀n,(ja0 n d&&true)=true:=fun n=>by simp[ja0,idsL,jaq h.plain]
 have c1:(decide (ByteArray.size (ByteArray.mk #[48])≤1000) &&asc (bz (ByteArray.mk #[48])))=true:=by kernel_rfl
 have c2:(decide (nu.size≤1000) && (decide (ByteArray.size (ByteArray.mk #[48])≤1000) &&asc (bz (ByteArray.mk #[48]))))=true:=by rw[c1,jaa hn];rfl
 refine c_t c2 (c_t (hg _) (c_t ?_ fun i'=>c_t (hi _) fun _=>cond_intro (fun ho=> ?_) (fun ho=>c_t (hg _) (c_t ?_ ⟨fun a' k' i' ha h0=>c_t (hi _) fun _=> ?_,fun ha a' k' i'=>c_t (hi _) fun _=> ?_⟩))))
 ·simp only[S90_0,jaf,jae,jb6];exact⟨hR,by omega,by omega,by omega,trivial,trivial⟩
 ·rw[Bool.not_eq_true']at ho;rw[enV,ho]at hr;exact hr
 ·simp only[S90_2,jaf,jae,jb6,z0,List.drop_zero];exact⟨hR,by omega,by omega,by omega,trivial,by omega,by omega,by omega,by omega,by omega⟩
 ·rw[Bool.not_eq_false']at ho;rw[enV,ho,cond_true,ha]at hr;exact hr
 ·rw[Bool.not_eq_false']at ho;rw[enV,ho,cond_true,ha]at hr;exact hr
def h90:E→Lk→Nat→(Value→Lk→Nat→Prop)→Prop:=fun args m n K=>match args with
 | [.pointer (some ⟨a,0,some 0⟩)]=>match m a with
  | some ⟨[.pointer (some ⟨x,0,some 0⟩),.string nu,.bool mi,.int .i64 us,.int .i64 at0,.int .i64 ld],255,own⟩=>match m x with
   | some ⟨[.string s,.bool nb,.int .i64 w,.int .i64 dg,.int .i64 sc,.bool sg,.slice (some ⟨y,0,some 1⟩) k cap,.int .u8 dr,.int .i64 f,.bool cr,.int .u8 fl,.int .i64 fm],156,own2⟩=>match m y with
    | some ⟨d,251,own3⟩=>
     match cnd (jbu d k cap&&decide (k≤1000∧nu.size≤1000∧cn1 (zc d k)≤nu.size))with
     | true=>K (.int .i64 (enV (bz nu) fm (zc d k))) m n
     | false=>False
    | _=>False
   | _=>False
  | _=>False
 | _=>False
theorem h90_ok:jc7 Tryz.prog 251 h90:=by
 refine jh1 ok_G32 hmix fn90 lok90 fun args m n K h=> ?_
 unfold h90 at h;split at h
 case h_2=>exact h.elim
 rename_i a;split at h
 case h_2=>exact h.elim
 rename_i x nu mi us at0 ld own hm;split at h
 case h_2=>exact h.elim
 rename_i s nb w dg sc sg y k cap dr f cr fl fm own2 hx;split at h
 case h_2=>exact h.elim
 rename_i d own3 hy;split at h
 case h_2=>exact h.elim
 rename_i hc;simp only[cnd,jaf,jae]at hc;obtain⟨h1,h2,h3,h4⟩:=hc;refine⟨[.pointer (some ⟨0,0,some 0⟩)],_,3,rho3 a x y,.int .i64 (enV (bz nu) fm (zc d k)),sub_F3 (jaw.1 h1).plain hm hx hy,fun ι=>by simp[ren,ren1,rho3],jag,fun v hv j hj=> ?_,rfl,w90 s nb w dg sc sg k cap dr f cr fl fm nu mi us at0 ld d h1 h2 h3 h4 (R:=fun v=>v= .int .i64 (enV (bz nu) fm (zc d k))) rfl,h⟩;simp at hv;subst hv;have:j=0:=by simpa[ids]using hj
 omega
end Go.Px
end
noncomputable section
set_option maxHeartbeats 3200000
namespace Go.Px
open Go Go.Ab Go.Proofs Go.Shelf
def G33:Env:=Env.nil
def G34:Env:=(Env.nil.add 288 (sp2 s26)).addG 287 (inlQ Tryz.prog G33 noL Tryz.f287)
def G35:Env:=((((((Env.nil.add 30 (sp2 s78)).addG 251 h90).addG 252 (inlQ Tryz.prog G34 noL Tryz.f252)).addG 253 (inlQ Tryz.prog G34 noL Tryz.f253)).addG 254 (inlQ Tryz.prog G34 noL Tryz.f254)).addG 255 (inlQ Tryz.prog G34 noL Tryz.f255)).addG 256 (inlQ Tryz.prog G34 noL Tryz.f256)
theorem fn123:Fn1 Tryz.prog 287 Tryz.f287:= .m Tryz.func287
theorem fn91:Fn1 Tryz.prog 252 Tryz.f252:= .m Tryz.func252
theorem fn92:Fn1 Tryz.prog 253 Tryz.f253:= .m Tryz.func253
theorem fn93:Fn1 Tryz.prog 254 Tryz.f254:= .m Tryz.func254
theorem fn94:Fn1 Tryz.prog 255 Tryz.f255:= .m Tryz.func255
theorem fn95:Fn1 Tryz.prog 256 Tryz.f256:= .m Tryz.func256
theorem fn64:Fn1 Tryz.prog 207 Tryz.f207:= .m Tryz.func207
theorem ok_G33:jax Tryz.prog G33:=jan
theorem ok_G34:jax Tryz.prog G34:=jam (jak jan ok26) (jar ok_G33 hmix fn123 jai)
theorem ok_G35:jax Tryz.prog G35:=jam (jam (jam (jam (jam (jam (jak jan ok78) h90_ok) (jar ok_G34 hmix fn91 jai)) (jar ok_G34 hmix fn92 jai)) (jar ok_G34 hmix fn93 jai)) (jar ok_G34 hmix fn94 jai)) (jar ok_G34 hmix fn95 jai)
def wrC(f:Int)(cr:Bool)(n:Int)(mi:Bool)(ld fl:Int)(r c d i a:Int):Int:=
 bif i==f then fl else bif cr&&decide (i≥n-2)then(bif !mi then 32 else c)
 else bif decide (r=0)then fmZ c d mi else bif decide (r=1)then(bif decide (a<ld)then fl else d)
 else bif decide (r=3)then(bif c==66 then 32 else bif decide (a<ld)then fl else c)
 else bif decide (r=4)then(bif c==83&&mi then 45 else bif c==83 then 43 else bif (c==43)==mi then 32 else c)else c
def wrT(f:Int)(cr:Bool)(n:Int)(r i:Int):Bool:= !(i==f) && (!(cr&&decide (i≥n-2)) && (decide (r=0) || decide (r=1)))
def wrGo(f:Int)(cr:Bool)(n:Int)(mi:Bool)(ld fl:Int):J→J→J→Int→Int→J
 | [],_,_,_,_=> []
 | r::rs,cs,ds,i,a=>bif r==2 then wrGo f cr n mi ld fl rs cs.tail ds (i+1) a
  else wrC f cr n mi ld fl r (cs.headD 0) (ds.headD 0) i a::wrGo f cr n mi ld fl rs cs.tail (bif wrT f cr n r i then ds.tail else ds) (i+1) (a+1)
def cdg:J→Int
 | []=>0
 | r::rs=>(bif decide (r=0) || decide (r=1)then 1 else 0)+cdg rs
def roOK(l:J):Bool:=l.all fun r=>decide (0≤r∧r<6)
def jm4:E→Bool
 | [.func (.func a) ⟨[]⟩ ⟨[]⟩,.func (.func b) ⟨[]⟩ ⟨[]⟩,.nilFunc,.func (.func c) ⟨[]⟩ ⟨[]⟩,.func (.func d) ⟨[]⟩ ⟨[]⟩,.func (.func e) ⟨[]⟩ ⟨[]⟩]=>Nat.beq a 252&& (Nat.beq b 253&& (Nat.beq c 254&& (Nat.beq d 255&&Nat.beq e 256)))
 | _=>false
def how:E:=[.func (.func 252) ⟨[]⟩ ⟨[]⟩,.func (.func 253) ⟨[]⟩ ⟨[]⟩,.nilFunc,.func (.func 254) ⟨[]⟩ ⟨[]⟩,.func (.func 255) ⟨[]⟩ ⟨[]⟩,.func (.func 256) ⟨[]⟩ ⟨[]⟩]
theorem isHow_eq{l:E}(h:jm4 l=true):l=how:=by
 unfold jm4 at h;split at h
 ·simp only[jaf,Nat.beq_eq]at h;obtain⟨rfl,rfl,rfl,rfl,rfl⟩:=h;rfl
 ·cases h
theorem jmn:∀l,0≤cdg l
 | []=>by simp[cdg]
 | r::rs=>by have:=jmn rs;rw[cdg];cases decide (r=0) || decide (r=1) <;>simp<;>omega
theorem cdg_c{r:Int}{rs:J}:cdg rs≤cdg (r::rs):=by rw[cdg];cases decide (r=0) || decide (r=1) <;>simp<;>omega
theorem jm8{r:Int}{rs:J}(h:r=0∨r=1):cdg (r::rs)=1+cdg rs:=by rw[cdg];rcases h with rfl | rfl<;>rfl
theorem roOK_at{l:J}(h:roOK l=true){j:Nat}{r:Int}{rs:J}(hj:l.drop j=r::rs):0≤r∧r<6:=by
 simp only[roOK,List.all_eq_true,jae]at h;exact h r (List.drop_subset j l (by rw[hj];exact List.mem_cons_self))
theorem jll{s:Y}(h:dgL (bz s)=true){j:Int}(h0:0≤j)(hj:j<s.size):48≤jaj s j.toNat∧jaj s j.toNat≤57:=by
 simp only[dgL,List.all_eq_true,jae]at h;exact h _ (List.drop_subset j.toNat (bz s) (by rw[jb7 h0 hj];exact List.mem_cons_self))
theorem fm_a{c d:Int}{m:Bool}(h:(c==89&&d==48)=true):fmZ c d m=32:=by
 have:c=89∧d=48:=by simpa using h
 rw[fmZ,if_pos this]
theorem fm_b{c d:Int}{m:Bool}(h:(c==89&&d==48)=false)(q:(c==84 || bif c==73 then !m || c==82&&m else c==82&&m)=true):fmZ c d m=puZ (d-48) m:=by
 have h1:¬(c=89∧d=48):=fun e=>by rw[e.1,e.2]at h;cases h
 rw[fmZ,if_neg h1,if_pos];cases m<;>by_cases a:c=84<;>by_cases b:c=73<;>by_cases e:c=82<;>simp_all
theorem fm_c{c d:Int}{m:Bool}(h:(c==89&&d==48)=false)(q:(c==84 || bif c==73 then !m || c==82&&m else c==82&&m)=false):fmZ c d m=d:=by
 have h1:¬(c=89∧d=48):=fun e=>by rw[e.1,e.2]at h;cases h
 rw[fmZ,if_neg h1,if_neg];cases m<;>by_cases a:c=84<;>by_cases b:c=73<;>by_cases e:c=82<;>simp_all
def V64_0:Bool×Y×Int×Rw×Nat×Nat×Int×Int×Y×Bool×Int×Int×Int×Bool×Nat×Nat×Int×Int×Bool×Int×Int×Y×Bool×Int×Int×Int×E→E:=fun(m2,r6,r7,o,k2,cap2,L,i,s,nb,w,dg,sc,sg,k,cap,dr,f,cr,fl,fm,nu,mi,us,at0,ld,d)=> [.pointer (some ⟨0,0,some 0⟩),.bool m2,.string r6,.int .i64 r7,.pointer (some ⟨8,0,some 0⟩),.pointer (some ⟨22,0,some 0⟩),o.v 200,.slice (some ⟨1,0,some 1⟩) k2 cap2,.int .i64 L,.int .i64 i]
def B64_0:Bool×Y×Int×Rw×Nat×Nat×Int×Int×Y×Bool×Int×Int×Int×Bool×Nat×Nat×Int×Int×Bool×Int×Int×Y×Bool×Int×Int×Int×E→O:=fun(m2,r6,r7,o,k2,cap2,L,i,s,nb,w,dg,sc,sg,k,cap,dr,f,cr,fl,fm,nu,mi,us,at0,ld,d)=> [some ⟨[.string s,.bool nb,.int .i64 w,.int .i64 dg,.int .i64 sc,.bool sg,.slice (some ⟨1,0,some 1⟩) k cap,.int .u8 dr,.int .i64 f,.bool cr,.int .u8 fl,.int .i64 fm],156,false⟩,some ⟨d,251,false⟩,some ⟨[.pointer (some ⟨0,0,some 0⟩),.string nu,.bool mi,.int .i64 us,.int .i64 at0,.int .i64 ld],255,true⟩,some ⟨how,257,true⟩,o.b]
def S64_0:LSpecA (Bool×Y×Int×Rw×Nat×Nat×Int×Int×Y×Bool×Int×Int×Int×Bool×Nat×Nat×Int×Int×Bool×Int×Int×Y×Bool×Int×Int×Int×E) where
 live:=[0,2,6,7,8,9,10,49,50,51]
 mid:=[0,1,8,22,200]
 n:=210
 ap:=[(.tmp 10,200)]
 dec vs bs:=match vs,bs with | [.pointer (some ⟨0,0,some 0⟩),.bool m2,.string r6,.int .i64 r7,.pointer (some ⟨8,0,some 0⟩),.pointer (some ⟨22,0,some 0⟩),.slice none 0 0,.slice (some ⟨1,0,some 1⟩) k2 cap2,.int .i64 L,.int .i64 i],[some ⟨[.string s,.bool nb,.int .i64 w,.int .i64 dg,.int .i64 sc,.bool sg,.slice (some ⟨1,0,some 1⟩) k cap,.int .u8 dr,.int .i64 f,.bool cr,.int .u8 fl,.int .i64 fm],156,false⟩,some ⟨d,251,false⟩,some ⟨[.pointer (some ⟨0,0,some 0⟩),.string nu,.bool mi,.int .i64 us,.int .i64 at0,.int .i64 ld],255,true⟩,some ⟨hw,257,true⟩,none]=>(match jm4 hw with | true=>some (m2,r6,r7,.nil,k2,cap2,L,i,s,nb,w,dg,sc,sg,k,cap,dr,f,cr,fl,fm,nu,mi,us,at0,ld,d) | false=>none) | [.pointer (some ⟨0,0,some 0⟩),.bool m2,.string r6,.int .i64 r7,.pointer (some ⟨8,0,some 0⟩),.pointer (some ⟨22,0,some 0⟩),.slice (some ⟨200,0,some 1⟩) om oc,.slice (some ⟨1,0,some 1⟩) k2 cap2,.int .i64 L,.int .i64 i],[some ⟨[.string s,.bool nb,.int .i64 w,.int .i64 dg,.int .i64 sc,.bool sg,.slice (some ⟨1,0,some 1⟩) k cap,.int .u8 dr,.int .i64 f,.bool cr,.int .u8 fl,.int .i64 fm],156,false⟩,some ⟨d,251,false⟩,some ⟨[.pointer (some ⟨0,0,some 0⟩),.string nu,.bool mi,.int .i64 us,.int .i64 at0,.int .i64 ld],255,true⟩,some ⟨hw,257,true⟩,some ⟨od,5,true⟩]=>(match jm4 hw with | true=>some (m2,r6,r7,.own od om oc,k2,cap2,L,i,s,nb,w,dg,sc,sg,k,cap,dr,f,cr,fl,fm,nu,mi,us,at0,ld,d) | false=>none) | _,_=>none
 pre:=fun(m2,r6,r7,o,k2,cap2,L,i,s,nb,w,dg,sc,sg,k,cap,dr,f,cr,fl,fm,nu,mi,us,at0,ld,d)=>o.ok&& (jbu d k2 cap2&& (roOK (zc d k2) && (dgL (bz nu) &&decide (m2=mi∧0≤i∧i≤k2∧k2≤1000∧L=k2∧k2≤s.size∧s.size≤1000∧0≤us∧us≤i∧0≤at0∧at0≤i∧us+cdg ((zc d k2).drop i.toNat)≤nu.size∧o.z.length≤i))))
 fin:=fun(m2,r6,r7,o,k2,cap2,L,i,s,nb,w,dg,sc,sg,k,cap,dr,f,cr,fl,fm,nu,mi,us,at0,ld,d) Z=>(o.is=false→wrGo f cr s.size mi ld fl ((zc d k2).drop i.toNat) ((bz s).drop i.toNat) ((bz nu).drop us.toNat) i at0=[]→ ∀us' at' i',Z (.exit 0) [.pointer (some ⟨0,0,some 0⟩),.bool m2,.string r6,.int .i64 r7,.pointer (some ⟨8,0,some 0⟩),.pointer (some ⟨22,0,some 0⟩),.slice none 0 0,.slice (some ⟨1,0,some 1⟩) k2 cap2,.int .i64 L,.int .i64 i'] [some ⟨[.string s,.bool nb,.int .i64 w,.int .i64 dg,.int .i64 sc,.bool sg,.slice (some ⟨1,0,some 1⟩) k cap,.int .u8 dr,.int .i64 f,.bool cr,.int .u8 fl,.int .i64 fm],156,false⟩,some ⟨d,251,false⟩,some ⟨[.pointer (some ⟨0,0,some 0⟩),.string nu,.bool mi,.int .i64 us',.int .i64 at',.int .i64 ld],255,true⟩,some ⟨how,257,true⟩,none])∧(∀us' at' i' od' om' oc',jci od' om' oc'=true→zc od' om'=o.z++wrGo f cr s.size mi ld fl ((zc d k2).drop i.toNat) ((bz s).drop i.toNat) ((bz nu).drop us.toNat) i at0→Z (.exit 0) [.pointer (some ⟨0,0,some 0⟩),.bool m2,.string r6,.int .i64 r7,.pointer (some ⟨8,0,some 0⟩),.pointer (some ⟨22,0,some 0⟩),.slice (some ⟨200,0,some 1⟩) om' oc',.slice (some ⟨1,0,some 1⟩) k2 cap2,.int .i64 L,.int .i64 i'] [some ⟨[.string s,.bool nb,.int .i64 w,.int .i64 dg,.int .i64 sc,.bool sg,.slice (some ⟨1,0,some 1⟩) k cap,.int .u8 dr,.int .i64 f,.bool cr,.int .u8 fl,.int .i64 fm],156,false⟩,some ⟨d,251,false⟩,some ⟨[.pointer (some ⟨0,0,some 0⟩),.string nu,.bool mi,.int .i64 us',.int .i64 at',.int .i64 ld],255,true⟩,some ⟨how,257,true⟩,some ⟨od',5,true⟩])
def e64(m2:Bool)(r6:Y)(r7:Int)(k2:Nat)(cap2:Nat)(L:Int)(i:Int)(s:Y)(nb:Bool)(w:Int)(dg:Int)(sc:Int)(sg:Bool)(k:Nat)(cap:Nat)(dr:Int)(f:Int)(cr:Bool)(fl:Int)(fm:Int)(nu:Y)(mi:Bool)(us:Int)(at0:Int)(ld:Int)(d:E)(pre:E)(ln N:Nat)(X U:Int)(R:Exit→E→O→Prop):Prop:=∀(cap_1:Nat)(tail:E),jay tail cap_1 ln 1=true→bif jav [(N,200)] d&& (jav [(N,200)] (pre++ [.int .u8 X]++tail) &&true) &&true then R Exit.normal [.pointer (some (.mk 0 0 (some 0))),B m2,S r6,I r7,.pointer (some (.mk 8 0 (some 0))),.pointer (some (.mk 22 0 (some 0))),.slice (some (.mk 200 0 (some 1))) ln cap_1,.slice (some (.mk 1 0 (some 1))) k2 cap2,I L,I (IntKind.wrap .i64 (i+1))] [some (.mk [S s,B nb,I w,I dg,I sc,B sg,.slice (some (.mk 1 0 (some 1))) k cap,.int .u8 dr,I f,B cr,.int .u8 fl,I fm] 156 false),some (.mk (rlbL [(N,200)] d) 251 false),some (.mk [.pointer (some (.mk 0 0 (some 0))),S nu,B mi,I U,I (IntKind.wrap .i64 (at0+1)),I ld] 255 true),some (.mk [Value.func (Fn.func 252) ⟨[]⟩ ⟨[]⟩,Value.func (Fn.func 253) ⟨[]⟩ ⟨[]⟩,Value.nilFunc,Value.func (Fn.func 254) ⟨[]⟩ ⟨[]⟩,Value.func (Fn.func 255) ⟨[]⟩ ⟨[]⟩,Value.func (Fn.func 256) ⟨[]⟩ ⟨[]⟩] 257 true),some (.mk (rlbL [(N,200)] (pre++ [.int .u8 X]++tail)) 5 true)]else False
def fy(b:Int)(a:E):Int:=jau a (dp b)
def lr(a c:Int)(b:E):Bool:=decide ((dp (fy a b):Int)=c)
def qf(f:Bool)(b c:Y)(a d:Int)(e g h:Prop):Prop:=bif cl (e7 (aw a) 1) (aq b)then az (au c d 89) true (au c d 89&&jaj b (e7 (aw a) 1).toNat==48) e (f8 (au c d 84) (bk (au c d 73) (!f || (au c d 82 || true)) (au c d 82 || true)) (au c d 84 || bk (au c d 73) (!f || au c d 82&&f) (au c d 82&&f)) g h)else False
def oq(a:Bool)(b:Y)(e:Int)(d:E)(c:Value):E:=av 0:: .bool a::ax b (av 8::av 22::c::d) (ak e)
def k7(a:FuncId)(b:E):Value:= .func (.func a) ⟨[]⟩ ⟨b⟩
def ot:E:=[k7 252 [],k7 253 [],Value.nilFunc,k7 254 [],k7 255 [],k7 256 []]
theorem r64_0n(m2:Bool)(r6:Y)(r7:Int)(k2:Nat)(cap2:Nat)(L:Int)(i:Int)(s:Y)(nb:Bool)(w:Int)(dg:Int)(sc:Int)(sg:Bool)(k:Nat)(cap:Nat)(dr:Int)(f:Int)(cr:Bool)(fl:Int)(fm:Int)(nu:Y)(mi:Bool)(us:Int)(at0:Int)(ld:Int)(d:E)(jk:Tmps)(R:Exit→E→O→Prop):(jbv Tryz.prog G35 noL Tryz.f207.ntmps (ja9 Tryz.f207 0) (tl S64_0.live (V64_0 (m2,r6,r7,.nil,k2,cap2,L,i,s,nb,w,dg,sc,sg,k,cap,dr,f,cr,fl,fm,nu,mi,us,at0,ld,d)) jk) (ml S64_0.mid (B64_0 (m2,r6,r7,.nil,k2,cap2,L,i,s,nb,w,dg,sc,sg,k,cap,dr,f,cr,fl,fm,nu,mi,us,at0,ld,d))) S64_0.n fun e t' m' _=>S64_0.out R e t' m')=(lb R i L [ct true (av 0::dq mi nu (bw at0 ld) (ak us)) 255,ct true ot 257,none] d (oq m2 r6 r7 (fp L i 1 k2 cap2) jw) k2 0 (jx nb sg cr s w dg sc dr f fl fm 1 k cap) (jr d) (ju (fy i d==2) s i (b9 (ip d) R [jx nb sg cr s w dg sc dr f fl fm 1 k cap,jr d,ct true (j2 nu (bw at0 ld) (B mi) (ak us)) 255,ct true ot 257,none] (oq m2 r6 r7 (a9 1 k2 cap2::bv L i) jw)) (bif i==f then e64 m2 r6 r7 k2 cap2 L i s nb w dg sc sg k cap dr f cr fl fm nu mi us at0 ld d [] 1 240 fl us R else az cr true (cr&&decide (i≥gk s 2)) (bif !m2 then e64 m2 r6 r7 k2 cap2 L i s nb w dg sc sg k cap dr f cr fl fm nu mi us at0 ld d [] 1 256 32 us R else e64 m2 r6 r7 k2 cap2 L i s nb w dg sc sg k cap dr f cr fl fm nu mi us at0 ld d [] 1 255 (bu s i) us R) (lh (lr i 0 d) (fy i d) 6 (qf mi nu s us i (e64 m2 r6 r7 k2 cap2 L i s nb w dg sc sg k cap dr f cr fl fm nu mi us at0 ld d [] 1 303 32 (aw us) R) (e64 m2 r6 r7 k2 cap2 L i s nb w dg sc sg k cap dr f cr fl fm nu mi us at0 ld d [] 1 328 (puZ (dx (IntKind.u8.wrap (bu nu (b8 (aw us) 1)-48)) .i64) mi) (aw us) R) (e64 m2 r6 r7 k2 cap2 L i s nb w dg sc sg k cap dr f cr fl fm nu mi us at0 ld d [] 1 328 (bu nu (b8 (aw us) 1)) (aw us) R)) (bif lr i 1 d then bif cl (b8 (aw us) 1) (aq nu)then bif b7 at0 ld then e64 m2 r6 r7 k2 cap2 L i s nb w dg sc sg k cap dr f cr fl fm nu mi us at0 ld d [] 1 299 fl (aw us) R else e64 m2 r6 r7 k2 cap2 L i s nb w dg sc sg k cap dr f cr fl fm nu mi us at0 ld d [] 1 293 (bu nu (b8 (aw us) 1)) (aw us) R else False else bif lr i 2 d then False else bif decide ((dp (io i d):Int)=3)then bif au s i 66 then e64 m2 r6 r7 k2 cap2 L i s nb w dg sc sg k cap dr f cr fl fm nu mi us at0 ld d [] 1 263 32 us R else bif b7 at0 ld then e64 m2 r6 r7 k2 cap2 L i s nb w dg sc sg k cap dr f cr fl fm nu mi us at0 ld d [] 1 280 fl us R else e64 m2 r6 r7 k2 cap2 L i s nb w dg sc sg k cap dr f cr fl fm nu mi us at0 ld d [] 1 274 (bu s i) us R else bif decide ((dp (io i d):Int)=4)then f8 (au s i 83) true (au s i 83&&mi) (e64 m2 r6 r7 k2 cap2 L i s nb w dg sc sg k cap dr f cr fl fm nu mi us at0 ld d [] 1 269 45 us R) (bif au s i 83 then e64 m2 r6 r7 k2 cap2 L i s nb w dg sc sg k cap dr f cr fl fm nu mi us at0 ld d [] 1 272 43 us R else bif au s i 43==mi then e64 m2 r6 r7 k2 cap2 L i s nb w dg sc sg k cap dr f cr fl fm nu mi us at0 ld d [] 1 280 32 us R else e64 m2 r6 r7 k2 cap2 L i s nb w dg sc sg k cap dr f cr fl fm nu mi us at0 ld d [] 1 281 (bu s i) us R)else bif decide ((dp (io i d):Int)=5)then e64 m2 r6 r7 k2 cap2 L i s nb w dg sc sg k cap dr f cr fl fm nu mi us at0 ld d [] 1 261 (bu s i) us R else False))))):=by kernel_rfl
def mz(b:E)(a:Nat):Option Blk:=some (.mk (rlbL [(a,200)] b) 251 false)
theorem r64_0o(m2:Bool)(r6:Y)(r7:Int)(od:E)(om:Nat)(oc:Nat)(k2:Nat)(cap2:Nat)(L:Int)(i:Int)(s:Y)(nb:Bool)(w:Int)(dg:Int)(sc:Int)(sg:Bool)(k:Nat)(cap:Nat)(dr:Int)(f:Int)(cr:Bool)(fl:Int)(fm:Int)(nu:Y)(mi:Bool)(us:Int)(at0:Int)(ld:Int)(d:E)(jk:Tmps)(R:Exit→E→O→Prop):(jbv Tryz.prog G35 noL Tryz.f207.ntmps (ja9 Tryz.f207 0) (tl S64_0.live (V64_0 (m2,r6,r7,(.own od om oc),k2,cap2,L,i,s,nb,w,dg,sc,sg,k,cap,dr,f,cr,fl,fm,nu,mi,us,at0,ld,d)) jk) (ml S64_0.mid (B64_0 (m2,r6,r7,(.own od om oc),k2,cap2,L,i,s,nb,w,dg,sc,sg,k,cap,dr,f,cr,fl,fm,nu,mi,us,at0,ld,d))) S64_0.n fun e t' m' _=>S64_0.out R e t' m')=(d5 (b7 i L) (cl i (k2:Int)) (jp [] d od 200 200&&true) (bif jby .i64 d (dp i)then ju (fy i d==2) s i (b9 (jp [] d od 200 200&&true) R (jx nb sg cr s w dg sc dr f fl fm 1 k cap::mz d 200::ct true (j2 nu (bw at0 ld) (B mi) (ak us)) 255::ct true ot 257::ic od) (oq m2 r6 r7 (a9 1 k2 cap2::bv L i) (a9 200 om oc))) (bif i==f then bif gn od oc om 1 then e64 m2 r6 r7 k2 cap2 L i s nb w dg sc sg k cap dr f cr fl fm nu mi us at0 ld d (gq od om) (om+1) 240 fl us R else False else az cr true (cr&&decide (i≥gk s 2)) (bif !m2 then bif gn od oc om 1 then e64 m2 r6 r7 k2 cap2 L i s nb w dg sc sg k cap dr f cr fl fm nu mi us at0 ld d (gq od om) (om+1) 256 32 us R else False else bif gn od oc om 1 then e64 m2 r6 r7 k2 cap2 L i s nb w dg sc sg k cap dr f cr fl fm nu mi us at0 ld d (gq od om) (om+1) 255 (bu s i) us R else False) (lh (lr i 0 d) (fy i d) 6 (qf mi nu s us i (bif gn od oc om 1 then e64 m2 r6 r7 k2 cap2 L i s nb w dg sc sg k cap dr f cr fl fm nu mi us at0 ld d (gq od om) (om+1) 303 32 (aw us) R else False) (bif gn od oc om 1 then e64 m2 r6 r7 k2 cap2 L i s nb w dg sc sg k cap dr f cr fl fm nu mi us at0 ld d (gq od om) (om+1) 328 (puZ (dx (IntKind.u8.wrap (bu nu (b8 (aw us) 1)-48)) .i64) mi) (aw us) R else False) (bif gn od oc om 1 then e64 m2 r6 r7 k2 cap2 L i s nb w dg sc sg k cap dr f cr fl fm nu mi us at0 ld d (gq od om) (om+1) 328 (bu nu (b8 (aw us) 1)) (aw us) R else False)) (bif lr i 1 d then bif cl (b8 (aw us) 1) (aq nu)then bif b7 at0 ld then bif gn od oc om 1 then e64 m2 r6 r7 k2 cap2 L i s nb w dg sc sg k cap dr f cr fl fm nu mi us at0 ld d (gq od om) (om+1) 299 fl (aw us) R else False else bif gn od oc om 1 then e64 m2 r6 r7 k2 cap2 L i s nb w dg sc sg k cap dr f cr fl fm nu mi us at0 ld d (gq od om) (om+1) 293 (bu nu (b8 (aw us) 1)) (aw us) R else False else False else bif lr i 2 d then False else bif lr i 3 d then bif au s i 66 then bif gn od oc om 1 then e64 m2 r6 r7 k2 cap2 L i s nb w dg sc sg k cap dr f cr fl fm nu mi us at0 ld d (gq od om) (om+1) 263 32 us R else False else bif b7 at0 ld then bif gn od oc om 1 then e64 m2 r6 r7 k2 cap2 L i s nb w dg sc sg k cap dr f cr fl fm nu mi us at0 ld d (gq od om) (om+1) 280 fl us R else False else bif gn od oc om 1 then e64 m2 r6 r7 k2 cap2 L i s nb w dg sc sg k cap dr f cr fl fm nu mi us at0 ld d (gq od om) (om+1) 274 (bu s i) us R else False else bif lr i 4 d then f8 (au s i 83) true (au s i 83&&mi) (bif gn od oc om 1 then e64 m2 r6 r7 k2 cap2 L i s nb w dg sc sg k cap dr f cr fl fm nu mi us at0 ld d (gq od om) (om+1) 269 45 us R else False) (bif au s i 83 then bif gn od oc om 1 then e64 m2 r6 r7 k2 cap2 L i s nb w dg sc sg k cap dr f cr fl fm nu mi us at0 ld d (gq od om) (om+1) 272 43 us R else False else bif au s i 43==mi then bif gn od oc om 1 then e64 m2 r6 r7 k2 cap2 L i s nb w dg sc sg k cap dr f cr fl fm nu mi us at0 ld d (gq od om) (om+1) 280 32 us R else False else bif gn od oc om 1 then e64 m2 r6 r7 k2 cap2 L i s nb w dg sc sg k cap dr f cr fl fm nu mi us at0 ld d (gq od om) (om+1) 281 (bu s i) us R else False)else bif lr i 5 d then bif gn od oc om 1 then e64 m2 r6 r7 k2 cap2 L i s nb w dg sc sg k cap dr f cr fl fm nu mi us at0 ld d (gq od om) (om+1) 261 (bu s i) us R else False else False)))else False) False (R (.exit 0) (oq m2 r6 r7 (fp L i 1 k2 cap2) (a9 200 om oc)) (jx nb sg cr s w dg sc dr f fl fm 1 k cap::mz d 200::ct true (j2 nu (bw at0 ld) (B mi) (ak us)) 255::ct true ot 257::ic od))):=by kernel_rfl
theorem l64_0:LOKf Tryz.prog (oneL 0 S64_0.hA) Tryz.f207:=by
 refine jbo (h:=S64_0.hA) (by kernel_rfl) (jbr ok_G35 hmix (by kernel_rfl) (ja7 _) S64_0 V64_0 B64_0 (fun(m2,r6,r7,o,k2,cap2,L,i,s,nb,w,dg,sc,sg,k,cap,dr,f,cr,fl,fm,nu,mi,us,at0,ld,d)=>(k2-i).toNat) ?_ ?_ ?_)
 ·intro vs bs s h;simp only[S64_0]at h;split at h
  all_goals first | (cases h;exact⟨rfl,rfl⟩) | cases h | (split at h<;>first | (rename_i hq;cases h;have hq:=isHow_eq hq;subst hq;exact⟨rfl,rfl⟩) | cases h)
 ·exact fun⟨m2,r6,r7,o,k2,cap2,L,i,s,nb,w,dg,sc,sg,k,cap,dr,f,cr,fl,fm,nu,mi,us,at0,ld,d⟩ hp=>by
   simp only[S64_0,jaf]at hp;have hr:=jaw.1 hp.2.1;cases o with
   | nil=>simp[how,V64_0,B64_0,S64_0,ja0,jbz,idsL,ids,Rw.v,Rw.b,jaq hr.plain]
   | own od om oc=>simp[how,V64_0,B64_0,S64_0,ja0,jbz,idsL,ids,Rw.v,Rw.b,jaq hr.plain,jaq (jat.1 hp.1).plain]
 ·intro⟨m2,r6,r7,o,k2,cap2,L,i,s,nb,w,dg,sc,sg,k,cap,dr,f,cr,fl,fm,nu,mi,us,at0,ld,d⟩ jk Z hp hf;simp only[S64_0]at hp hf;cases o with
  | nil=>
   rw[r64_0n];delta cq ar d5 dp ip cl b7 lb aq bp ju az lh bu io f8 au fy lr aw b8 bk e7 qf dx gk b9 ax ak dv av oq jw ay bv a9 ct k7 ot j2 bw jr ao jx fp dq;simp only[jaf,jae]at hp;obtain⟨-,hR,hO,hD,rfl,hp⟩:=hp;have hr:=jaw.1 hR;simp only[Rw.z,List.length_nil]at hp hf;have e0:0+i.toNat*1=i.toNat:=by omega
   rw[e0];apply cond_intro<;>intro h
   ·have h:=jab h;obtain⟨a1,a3⟩:=hr.at hp.1 (by omega);have hro:=roOK_at hO a3;rw[a3,wrGo,jb7 hp.1 (by omega),List.headD_cons,List.tail_cons]at hf;rw[a3]at hp;have hc1:= @cdg_c (jau d i.toNat) ((zc d k2).drop (i+1).toNat);have hc2:=jmn ((zc d k2).drop (i+1).toNat);rw[a1,w64 (n:=i+1) (by omega),w64 (n:=(s.size:Int)-2) (by omega)];have eu:IntKind.wrap .i64 (IntKind.wrap .i64 (us+1)-1)=us:=by rw[w64 (n:=us+1) (by omega),w64 (by omega)];omega
    rw[eu];generalize jau d i.toNat=r at*;generalize jaj s i.toNat=c at*;have er:((0+r.toNat*1:Nat):Int)=r:=by omega
    rw[er];refine c_t (jaa (by omega)) (c_t rfl (c_t (jaa (by omega)) (cond_intro (fun q=> ?_) (fun q=> ?_))))
    ·rw[q,cond_true]at hf;refine c_t (by rw[hr.good];rfl) ?_;rw[hr.rlb];exact⟨(m2,r6,r7,.nil,k2,cap2,L,i+1,s,nb,w,dg,sc,sg,k,cap,dr,f,cr,fl,fm,nu,m2,us,at0,ld,d),rfl,rfl,by simp only[S64_0,jaf,jae];exact⟨rfl,hR,hO,hD,trivial,by simp only[Rw.z,List.length_nil];omega⟩,by simp only;omega,hf⟩
    ·rw[q,cond_false]at hf
     have leaf:∀(b:Bool)(N:Nat)(X:Int){U:Int},wrC f cr s.size m2 ld fl r c (List.headD (List.drop us.toNat (bz nu)) 0) i at0=X→wrT f cr s.size r i=b→(bif b then(List.drop us.toNat (bz nu)).tail else List.drop us.toNat (bz nu))=List.drop U.toNat (bz nu)→(U+cdg ((zc d k2).drop (i+1).toNat)≤nu.size∧0≤U∧U≤i+1)→e64 m2 r6 r7 k2 cap2 L i s nb w dg sc sg k cap dr f cr fl fm nu m2 us at0 ld d [] 1 N X U (S64_0.step V64_0 B64_0 (fun(m2,r6,r7,o,k2,cap2,L,i,s,nb,w,dg,sc,sg,k,cap,dr,f,cr,fl,fm,nu,mi,us,at0,ld,d)=>(k2-i).toNat) (m2,r6,r7,.nil,k2,cap2,L,i,s,nb,w,dg,sc,sg,k,cap,dr,f,cr,fl,fm,nu,m2,us,at0,ld,d) Z):=by
      intro b N X U e eT eD hU;rw[e,eT,eD]at hf;intro cap1 tail ht;obtain⟨h1,h2⟩:RowP ([]++ [Value.int IntKind.u8 X]++tail) 1 cap1∧zc ([]++ [Value.int IntKind.u8 X]++tail) 1=[X]:=jgl [X] ht;have hl1:=jba h1;rw[w64 (n:=i+1) (by omega),w64 (n:=at0+1) (by omega)];generalize []++ [Value.int IntKind.u8 X]++tail=od' at*;refine c_t (by rw[hr.good,h1.good];rfl) ?_;rw[hr.rlb,h1.rlb];exact⟨(m2,r6,r7,.own od' (1) cap1,k2,cap2,L,i+1,s,nb,w,dg,sc,sg,k,cap,dr,f,cr,fl,fm,nu,m2,U,at0+1,ld,d),rfl,rfl,by simp only[S64_0,jaf,jae];exact⟨jat.2 h1,hR,hO,hD,trivial,by simp only[Rw.z,hl1];omega⟩,by simp only;omega,⟨fun q=>(by cases q),fun us' at' i' od'' om'' oc'' g1 g2=>hf.2 us' at' i' od'' om'' oc'' g1 (by rw[g2];simp only[Rw.z,h2,List.append_assoc,List.cons_append,List.nil_append])⟩⟩
     refine cond_intro (fun q0=> ?_) (fun q0=>c_t (by simp) (cond_intro (fun q1=>cond_intro (fun q2=> ?_) (fun q2=> ?_)) (fun q1=>c_t (jaa hro) ?_)))
     ·exact leaf false _ _ (by simp only[wrC,q0,cond_true,cond_false]) (by simp[wrT,q0]) rfl (by omega)
     ·exact leaf false _ _ (by simp only[wrC,q0,q1,q2,cond_true,cond_false]) (by simp[wrT,q0,q1,q2]) rfl (by omega)
     ·exact leaf false _ _ (by simp only[wrC,q0,q1,q2,cond_true,cond_false]) (by simp[wrT,q0,q1,q2]) rfl (by omega)
     ·refine cond_intro (fun n=> ?_) (fun m=>cond_intro (fun n=> ?_) (fun m1=>cond_intro (fun n=> ?_) (fun m2'=>cond_intro (fun n=> ?_) (fun m3=>cond_intro (fun n=> ?_) (fun m4=> ?_)))))
      ·have n0:=jab n;have hc3:= @jm8 r ((zc d k2).drop (i+1).toNat) (by omega);have hd:=jll hD hp.2.2.2.2.2.2.1 (by omega);have ed:=jb7 hp.2.2.2.2.2.2.1 (s:=nu) (by omega);have ed':List.headD (List.drop us.toNat (bz nu)) 0=jaj nu us.toNat:=by rw[ed];rfl
       rw[w8 (n:=jaj nu us.toNat-48) (by omega),w64 (n:=jaj nu us.toNat-48) (by omega)];generalize jaj nu us.toNat=dd at*;refine c_t (jaa (by omega)) (c_t (by simp) (cond_intro (fun q2=> ?_) (fun q2=>c_t (by cases c==84<;>cases c==73<;>simp) (cond_intro (fun q3=> ?_) (fun q3=> ?_)))))
       ·rw[w64 (n:=us+1) (by omega)];exact leaf true _ _ (by simp only[wrC,q0,q1,n,ed',cond_true,cond_false];exact fm_a q2) (by simp[wrT,q0,q1,n,ed']) (by rw[cond_true,ed,List.tail_cons]) (by omega)
       ·rw[w64 (n:=us+1) (by omega)];exact leaf true _ _ (by simp only[wrC,q0,q1,n,ed',cond_true,cond_false];exact fm_b q2 q3) (by simp[wrT,q0,q1,n,ed']) (by rw[cond_true,ed,List.tail_cons]) (by omega)
       ·rw[w64 (n:=us+1) (by omega)];exact leaf true _ _ (by simp only[wrC,q0,q1,n,ed',cond_true,cond_false];exact fm_c q2 q3) (by simp[wrT,q0,q1,n,ed']) (by rw[cond_true,ed,List.tail_cons]) (by omega)
      ·have n0:=jab n;have hc3:= @jm8 r ((zc d k2).drop (i+1).toNat) (by omega);have hd:=jll hD hp.2.2.2.2.2.2.1 (by omega);have ed:=jb7 hp.2.2.2.2.2.2.1 (s:=nu) (by omega);have ed':List.headD (List.drop us.toNat (bz nu)) 0=jaj nu us.toNat:=by rw[ed];rfl
       generalize jaj nu us.toNat=dd at*;refine c_t (jaa (by omega)) (cond_intro (fun q2=> ?_) (fun q2=> ?_))
       ·rw[w64 (n:=us+1) (by omega)];exact leaf true _ _ (by simp only[wrC,q0,q1,m,n,q2,ed',cond_true,cond_false]) (by simp[wrT,q0,q1,m,n,q2,ed']) (by rw[cond_true,ed,List.tail_cons]) (by omega)
       ·rw[w64 (n:=us+1) (by omega)];exact leaf true _ _ (by simp only[wrC,q0,q1,m,n,q2,ed',cond_true,cond_false]) (by simp[wrT,q0,q1,m,n,q2,ed']) (by rw[cond_true,ed,List.tail_cons]) (by omega)
      ·have n:=jab n;rw[n]at q;cases q
      ·refine cond_intro (fun q2=> ?_) (fun q2=>cond_intro (fun q3=> ?_) (fun q3=> ?_))
       ·exact leaf false _ _ (by simp only[wrC,q0,q1,m,m1,n,q2,cond_true,cond_false]) (by simp[wrT,q0,q1,m,m1,n,q2]) rfl (by omega)
       ·exact leaf false _ _ (by simp only[wrC,q0,q1,m,m1,n,q2,q3,cond_true,cond_false]) (by simp[wrT,q0,q1,m,m1,n,q2,q3]) rfl (by omega)
       ·exact leaf false _ _ (by simp only[wrC,q0,q1,m,m1,n,q2,q3,cond_true,cond_false]) (by simp[wrT,q0,q1,m,m1,n,q2,q3]) rfl (by omega)
      ·refine c_t (by simp) (cond_intro (fun q2=> ?_) (fun q2=>cond_intro (fun q3=> ?_) (fun q3=>cond_intro (fun q4=> ?_) (fun q4=> ?_))))
       ·exact leaf false _ _ (by simp only[wrC,q0,q1,m,m1,m3,n,q2,cond_true,cond_false]) (by simp[wrT,q0,q1,m,m1,m3,n,q2]) rfl (by omega)
       ·exact leaf false _ _ (by simp only[wrC,q0,q1,m,m1,m3,n,q2,cond_true,cond_false];rw[q3];rfl) (by simp[wrT,q0,q1,m,m1,m3,n,q2]) rfl (by omega)
       ·exact leaf false _ _ (by simp only[wrC,q0,q1,m,m1,m3,n,q2,cond_true,cond_false];rw[q3,q4];rfl) (by simp[wrT,q0,q1,m,m1,m3,n,q2]) rfl (by omega)
       ·exact leaf false _ _ (by simp only[wrC,q0,q1,m,m1,m3,n,q2,cond_true,cond_false];rw[q3,q4];rfl) (by simp[wrT,q0,q1,m,m1,m3,n,q2]) rfl (by omega)
      ·have k0:=jac m;have k1:=jac m1;have k3:=jac m3;have k4:=jac m4;have k2':r≠2:=fun e=>by rw[e]at q;cases q
       refine c_t (jaa (by omega)) ?_;exact leaf false _ _ (by simp only[wrC,q0,q1,m,m1,m3,m4,cond_true,cond_false]) (by simp[wrT,q0,q1,m,m1,m3,m4]) rfl (by omega)
   ·have h:=jac h;rw[hr.end (by omega),wrGo]at hf;refine c_t (by rw[hr.good];rfl) ?_;rw[hr.rlb];exact hf.1 rfl rfl us at0 i
  | own od om oc=>
   rw[r64_0o];delta cq ar d5 ie ic ct k7 ot dv av j2 ak bw mz ao a9 jx ax oq fp aq bp ju az cl lh bu gq iq gn dp fy lr f8 au b7 aw b8 bk e7 qf dx gk b9 ay bv jp;simp only[jaf,jae]at hp;obtain⟨ho,hR,hO,hD,rfl,hp⟩:=hp;have hr:=jaw.1 hR;have ho:=jat.1 ho;have hzl:=jba ho;simp only[Rw.z,hzl]at hp hf;have e0:0+i.toNat*1=i.toNat:=by omega
   rw[e0];apply cond_intro<;>intro h
   ·have h:=jab h;obtain⟨a1,a3⟩:=hr.at hp.1 (by omega);have hro:=roOK_at hO a3;rw[a3,wrGo,jb7 hp.1 (by omega),List.headD_cons,List.tail_cons]at hf;rw[a3]at hp;have hc1:= @cdg_c (jau d i.toNat) ((zc d k2).drop (i+1).toNat);have hc2:=jmn ((zc d k2).drop (i+1).toNat);rw[a1,w64 (n:=i+1) (by omega),w64 (n:=(s.size:Int)-2) (by omega)];have eu:IntKind.wrap .i64 (IntKind.wrap .i64 (us+1)-1)=us:=by rw[w64 (n:=us+1) (by omega),w64 (by omega)];omega
    rw[eu];generalize jau d i.toNat=r at*;generalize jaj s i.toNat=c at*;have er:((0+r.toNat*1:Nat):Int)=r:=by omega
    rw[er];refine c_t (jaa (by omega)) (c_t rfl (c_t (jaa (by omega)) (cond_intro (fun q=> ?_) (fun q=> ?_))))
    ·rw[q,cond_true]at hf;refine c_t (by rw[hr.good,ho.good];rfl) ?_;rw[hr.rlb,ho.rlb];exact⟨(m2,r6,r7,.own od om oc,k2,cap2,L,i+1,s,nb,w,dg,sc,sg,k,cap,dr,f,cr,fl,fm,nu,m2,us,at0,ld,d),rfl,rfl,by simp only[S64_0,jaf,jae];exact⟨jat.2 ho,hR,hO,hD,trivial,by simp only[Rw.z,hzl];omega⟩,by simp only;omega,hf⟩
    ·rw[q,cond_false]at hf
     have leaf:∀(b:Bool)(N:Nat)(X:Int){U:Int},wrC f cr s.size m2 ld fl r c (List.headD (List.drop us.toNat (bz nu)) 0) i at0=X→wrT f cr s.size r i=b→(bif b then(List.drop us.toNat (bz nu)).tail else List.drop us.toNat (bz nu))=List.drop U.toNat (bz nu)→(U+cdg ((zc d k2).drop (i+1).toNat)≤nu.size∧0≤U∧U≤i+1)→e64 m2 r6 r7 k2 cap2 L i s nb w dg sc sg k cap dr f cr fl fm nu m2 us at0 ld d (List.take (om*1) od) (om+1) N X U (S64_0.step V64_0 B64_0 (fun(m2,r6,r7,o,k2,cap2,L,i,s,nb,w,dg,sc,sg,k,cap,dr,f,cr,fl,fm,nu,mi,us,at0,ld,d)=>(k2-i).toNat) (m2,r6,r7,.own od om oc,k2,cap2,L,i,s,nb,w,dg,sc,sg,k,cap,dr,f,cr,fl,fm,nu,m2,us,at0,ld,d) Z):=by
      intro b N X U e eT eD hU;rw[e,eT,eD]at hf;intro cap1 tail ht;obtain⟨h1,h2⟩:=ho.app1 X ht;have hl1:=jba h1;rw[w64 (n:=i+1) (by omega),w64 (n:=at0+1) (by omega)];generalize List.take (om*1) od++ [Value.int IntKind.u8 X]++tail=od' at*;refine c_t (by rw[hr.good,h1.good];rfl) ?_;rw[hr.rlb,h1.rlb];exact⟨(m2,r6,r7,.own od' (om+1) cap1,k2,cap2,L,i+1,s,nb,w,dg,sc,sg,k,cap,dr,f,cr,fl,fm,nu,m2,U,at0+1,ld,d),rfl,rfl,by simp only[S64_0,jaf,jae];exact⟨jat.2 h1,hR,hO,hD,trivial,by simp only[Rw.z,hl1];omega⟩,by simp only;omega,⟨fun q=>(by cases q),fun us' at' i' od'' om'' oc'' g1 g2=>hf.2 us' at' i' od'' om'' oc'' g1 (by rw[g2];simp only[Rw.z,h2,List.append_assoc,List.cons_append,List.nil_append])⟩⟩
     refine cond_intro (fun q0=> ?_) (fun q0=>c_t (by simp) (cond_intro (fun q1=>cond_intro (fun q2=> ?_) (fun q2=> ?_)) (fun q1=>c_t (jaa hro) ?_)))
     ·refine c_t (ho.ask (k:=1) (by omega)) ?_;exact leaf false _ _ (by simp only[wrC,q0,cond_true,cond_false]) (by simp[wrT,q0]) rfl (by omega)
     ·refine c_t (ho.ask (k:=1) (by omega)) ?_;exact leaf false _ _ (by simp only[wrC,q0,q1,q2,cond_true,cond_false]) (by simp[wrT,q0,q1,q2]) rfl (by omega)
     ·refine c_t (ho.ask (k:=1) (by omega)) ?_;exact leaf false _ _ (by simp only[wrC,q0,q1,q2,cond_true,cond_false]) (by simp[wrT,q0,q1,q2]) rfl (by omega)
     ·refine cond_intro (fun n=> ?_) (fun m=>cond_intro (fun n=> ?_) (fun m1=>cond_intro (fun n=> ?_) (fun m2'=>cond_intro (fun n=> ?_) (fun m3=>cond_intro (fun n=> ?_) (fun m4=> ?_)))))
      ·have n0:=jab n;have hc3:= @jm8 r ((zc d k2).drop (i+1).toNat) (by omega);have hd:=jll hD hp.2.2.2.2.2.2.1 (by omega);have ed:=jb7 hp.2.2.2.2.2.2.1 (s:=nu) (by omega);have ed':List.headD (List.drop us.toNat (bz nu)) 0=jaj nu us.toNat:=by rw[ed];rfl
       rw[w8 (n:=jaj nu us.toNat-48) (by omega),w64 (n:=jaj nu us.toNat-48) (by omega)];generalize jaj nu us.toNat=dd at*;refine c_t (jaa (by omega)) (c_t (by simp) (cond_intro (fun q2=> ?_) (fun q2=>c_t (by cases c==84<;>cases c==73<;>simp) (cond_intro (fun q3=> ?_) (fun q3=> ?_)))))
       ·refine c_t (ho.ask (k:=1) (by omega)) ?_;rw[w64 (n:=us+1) (by omega)];exact leaf true _ _ (by simp only[wrC,q0,q1,n,ed',cond_true,cond_false];exact fm_a q2) (by simp[wrT,q0,q1,n,ed']) (by rw[cond_true,ed,List.tail_cons]) (by omega)
       ·refine c_t (ho.ask (k:=1) (by omega)) ?_;rw[w64 (n:=us+1) (by omega)];exact leaf true _ _ (by simp only[wrC,q0,q1,n,ed',cond_true,cond_false];exact fm_b q2 q3) (by simp[wrT,q0,q1,n,ed']) (by rw[cond_true,ed,List.tail_cons]) (by omega)
       ·refine c_t (ho.ask (k:=1) (by omega)) ?_;rw[w64 (n:=us+1) (by omega)];exact leaf true _ _ (by simp only[wrC,q0,q1,n,ed',cond_true,cond_false];exact fm_c q2 q3) (by simp[wrT,q0,q1,n,ed']) (by rw[cond_true,ed,List.tail_cons]) (by omega)
      ·have n0:=jab n;have hc3:= @jm8 r ((zc d k2).drop (i+1).toNat) (by omega);have hd:=jll hD hp.2.2.2.2.2.2.1 (by omega);have ed:=jb7 hp.2.2.2.2.2.2.1 (s:=nu) (by omega);have ed':List.headD (List.drop us.toNat (bz nu)) 0=jaj nu us.toNat:=by rw[ed];rfl
       generalize jaj nu us.toNat=dd at*;refine c_t (jaa (by omega)) (cond_intro (fun q2=> ?_) (fun q2=> ?_))
       ·refine c_t (ho.ask (k:=1) (by omega)) ?_;rw[w64 (n:=us+1) (by omega)];exact leaf true _ _ (by simp only[wrC,q0,q1,m,n,q2,ed',cond_true,cond_false]) (by simp[wrT,q0,q1,m,n,q2,ed']) (by rw[cond_true,ed,List.tail_cons]) (by omega)
       ·refine c_t (ho.ask (k:=1) (by omega)) ?_;rw[w64 (n:=us+1) (by omega)];exact leaf true _ _ (by simp only[wrC,q0,q1,m,n,q2,ed',cond_true,cond_false]) (by simp[wrT,q0,q1,m,n,q2,ed']) (by rw[cond_true,ed,List.tail_cons]) (by omega)
      ·have n:=jab n;rw[n]at q;cases q
      ·refine cond_intro (fun q2=> ?_) (fun q2=>cond_intro (fun q3=> ?_) (fun q3=> ?_))
       ·refine c_t (ho.ask (k:=1) (by omega)) ?_;exact leaf false _ _ (by simp only[wrC,q0,q1,m,m1,n,q2,cond_true,cond_false]) (by simp[wrT,q0,q1,m,m1,n,q2]) rfl (by omega)
       ·refine c_t (ho.ask (k:=1) (by omega)) ?_;exact leaf false _ _ (by simp only[wrC,q0,q1,m,m1,n,q2,q3,cond_true,cond_false]) (by simp[wrT,q0,q1,m,m1,n,q2,q3]) rfl (by omega)
       ·refine c_t (ho.ask (k:=1) (by omega)) ?_;exact leaf false _ _ (by simp only[wrC,q0,q1,m,m1,n,q2,q3,cond_true,cond_false]) (by simp[wrT,q0,q1,m,m1,n,q2,q3]) rfl (by omega)
      ·refine c_t (by simp) (cond_intro (fun q2=> ?_) (fun q2=>cond_intro (fun q3=> ?_) (fun q3=>cond_intro (fun q4=> ?_) (fun q4=> ?_))))
       ·refine c_t (ho.ask (k:=1) (by omega)) ?_;exact leaf false _ _ (by simp only[wrC,q0,q1,m,m1,m3,n,q2,cond_true,cond_false]) (by simp[wrT,q0,q1,m,m1,m3,n,q2]) rfl (by omega)
       ·refine c_t (ho.ask (k:=1) (by omega)) ?_;exact leaf false _ _ (by simp only[wrC,q0,q1,m,m1,m3,n,q2,cond_true,cond_false];rw[q3];rfl) (by simp[wrT,q0,q1,m,m1,m3,n,q2]) rfl (by omega)
       ·refine c_t (ho.ask (k:=1) (by omega)) ?_;exact leaf false _ _ (by simp only[wrC,q0,q1,m,m1,m3,n,q2,cond_true,cond_false];rw[q3,q4];rfl) (by simp[wrT,q0,q1,m,m1,m3,n,q2]) rfl (by omega)
       ·refine c_t (ho.ask (k:=1) (by omega)) ?_;exact leaf false _ _ (by simp only[wrC,q0,q1,m,m1,m3,n,q2,cond_true,cond_false];rw[q3,q4];rfl) (by simp[wrT,q0,q1,m,m1,m3,n,q2]) rfl (by omega)
      ·have k0:=jac m;have k1:=jac m1;have k3:=jac m3;have k4:=jac m4;have k2':r≠2:=fun e=>by rw[e]at q;cases q
       refine c_t (jaa (by omega)) ?_;refine c_t (ho.ask (k:=1) (by omega)) ?_;exact leaf false _ _ (by simp only[wrC,q0,q1,m,m1,m3,m4,cond_true,cond_false]) (by simp[wrT,q0,q1,m,m1,m3,m4]) rfl (by omega)
   ·have h:=jac h;rw[hr.end (by omega),wrGo]at hf;refine c_t (by rw[hr.good,ho.good];rfl) ?_;rw[hr.rlb,ho.rlb];exact hf.2 us at0 i od om oc (jat.2 ho) (by simp)
end Go.Px
end
