/-
  Part 2: the run and laws.
-/
import Derived.Test.YtiahilhlpmohoaaGreatDoorB11
set_option linter.unusedVariables false
set_option linter.unusedSimpArgs false
set_option linter.unusedSectionVars false
noncomputable section
namespace Go.Px
open Go Go.Ab Go.Proofs Go.Shelf
def s35(s:Y):Bool×Value:=(decide (s.size≤9223372036854775807),.tuple ⟨[picV (bz s),.int .i64 (pE (bz s))]⟩)
def ay(a:F):Value:= .agg ⟨a⟩
def n7(d:Y)(f g:Value)(e:Value→Prop):Prop:=bif pN (bz d)then∀a:Nat,∀b:Nat,∀c:F,jbv c a b=true→zc c a=rolF (pS (bz d))→e f else e g
def az(a:F):Value:= .tuple ⟨a⟩
theorem v35(s:Y)(R:Value→Prop):jaz Tryz.prog G28 noL Tryz.f26 [Enc.enc s] (fun _=>none) 0 (fun v _ _=>R v)=(dt (vOK (bz s)) s (n7 s (az [ay [S (sz (pS (bz s))),B true,I (pW (bz s)),I (pD (bz s)),I (pQ (bz s)),B (pG (bz s))],ak 0]) (gx [] (ay (S (sz (pS (bz s)))::B false::I (pW (bz s))::ak 0::ak 0::fy)) (ak 0)) R) (R (gx [] (ay (bq::B false::ak 0::ak 0::ak 0::fy)) (ak 30)))):=by kernel_rfl
theorem ok35:jan Tryz.prog 26 (sp1 s35):=by
 refine jck ok_G28 hmix (.m Tryz.func26) jaj jag fun s hc=> ?_
 rw[ja5,v35];delta ax dt gx ak ay fy am bq n7 az;have hc:(s.size≤9223372036854775807):=jab hc
 try dsimp only[s35]
 refine c_t (jaa hc) (cond_intro (fun hv=>cond_intro (fun hn k cap d _ _=> ?_) (fun hn=> ?_)) (fun hv=> ?_))
 ·simp[picV,pE,hv,hn]
 ·simp[picV,pE,hv,hn,pD,pQ,pG]
 ·have hn:pN (bz s)=false:=by
   cases q:pN (bz s)with
   | false=>rfl
   | true=>rw[jdh q]at hv;cases hv
  have a1:pS (bz s)=[]:=by rw[pS,if_neg (by rw[hv];simp)]
  have a2:pW (bz s)=0:=by rw[pW,if_neg (by rw[hv];simp)]
  have a3:pD (bz s)=0:=by rw[pD,if_neg (by rw[hn];simp)]
  have a4:pQ (bz s)=0:=by rw[pQ,if_neg (by rw[hn];simp)]
  have a5:pG (bz s)=false:=by rw[pG,hn];rfl
  have a6:pE (bz s)=30:=by rw[pE,if_neg (by rw[hv];simp)]
  rw[picV,a1,a2,a3,a4,a5,a6,hn,jlr]
def s31(s:Y):Bool×Value:=(decide (s.size≤9223372036854775807),.bool (pN (bz s)))
theorem v31(s:Y)(R:Value→Prop):jaz Tryz.prog G28 noL Tryz.f170 [Enc.enc s] (fun _=>none) 0 (fun v _ _=>R v)=(bif ax s then n7 s (B true) (B false) R else False):=by kernel_rfl
theorem ok31:jan Tryz.prog 170 (sp1 s31):=by
 refine jck ok_G28 hmix (.m Tryz.func170) jaj jag fun s hc=> ?_
 rw[ja5,v31];delta n7 ax;have hc:(s.size≤9223372036854775807):=jab hc
 try dsimp only[s31]
 refine c_t (jaa hc) (cond_intro (fun h k cap d _ _=> ?_) (fun h=> ?_))
 ·rw[h]
 ·rw[h]
def G29:Env:=Env.nil.add 26 (sp1 s35)
theorem ok_G29:ja0 Tryz.prog G29:=jak jav ok35
def s33(s:Y):Bool×Value:=(decide (s.size≤9223372036854775807),.int .i64 (pE (bz s)))
theorem v33(s:Y)(R:Value→Prop):jaz Tryz.prog G29 noL Tryz.f122 [Enc.enc s] (fun _=>none) 0 (fun v _ _=>R v)=(bif decide (s.size≤9223372036854775807)then R (I (pE (bz s)))else False):=by kernel_rfl
theorem ok33:jan Tryz.prog 122 (sp1 s33):=by
 refine jck ok_G29 hmix (.m Tryz.func122) jaj jag fun s hc=> ?_
 rw[ja5,v33];have hc:(s.size≤9223372036854775807):=jab hc
 try dsimp only[s33]
 exact c_t (jaa hc) rfl
def s46(s:Y):Bool×Value:=(decide (s.size≤9223372036854775807),.tuple ⟨[tyV (bz s),.int .i64 (pE (bz s))]⟩)
def co(b:F)(a:Value→Prop):Prop:=a (az b)
theorem v46(s:Y)(R:Value→Prop):jaz Tryz.prog G29 noL Tryz.f172 [Enc.enc s] (fun _=>none) 0 (fun v _ _=>R v)=(dt (pE (bz s) !=0) s (co [ay [ak 0,ak 0,ak 0,B false,bq],I (pE (bz s))] R) (bif pN (bz s)then co [ay [ak 1,I (pD (bz s)),I (pQ (bz s)),B false,bq],ak 0] R else co [ay [ak 3,I (pW (bz s)),ak 0,B false,bq],ak 0] R)):=by kernel_rfl
theorem ok46:jan Tryz.prog 172 (sp1 s46):=by
 refine jck ok_G29 hmix (.m Tryz.func172) jaj jag fun s hc=> ?_
 rw[ja5,v46];delta ax dt az co ak ay am bq;have hc:(s.size≤9223372036854775807):=jab hc
 try dsimp only[s46]
 rw[pE_ne];refine c_t (jaa hc) (cond_intro (fun h=> ?_) (fun h=> ?_))
 ·have h:vOK (bz s)=false:=by simpa using h
  have hn:pN (bz s)=false:=by
   cases q:pN (bz s)with
   | false=>rfl
   | true=>rw[jdh q]at h;cases h
  simp[tyV,tyK,tyP,pQ,h,hn]
 ·have h:vOK (bz s)=true:=by simpa using h
  apply cond_intro<;>intro hn
  ·simp[tyV,tyK,tyP,pE,h,hn]
  ·simp[tyV,tyK,tyP,pE,pQ,h,hn]
theorem jf6{l:J}(h:pN l=true):NumL (pS l)∧okR (rolF (pS l))∧(rolF (pS l)).map rmk=ja4 (pS l):=by
 have hv:=jdh h;have e:pS l=exZ l:=by rw[pS,if_pos hv]
 simp only[pN,jaf]at h;rw[e];have hL:=(num_law (l:=exZ l) fun c hm=>(jis (jn6 l)).2 c (body_sub hm)).2 h.2
 have hm:(rolF (exZ l)).map rmk=ja4 (exZ l):=by
  rw[rolF,List.map_append,hL.roles,ja4];congr 1;cases crZ (exZ l) <;>rfl
 refine⟨hL,?_,hm⟩;intro r hr;rcases List.mem_append.1 hr with hr | hr
 ·exact hL.ok r hr
 ·cases hc:crZ (exZ l)with
  | false=>rw[hc]at hr;cases hr
  | true=>
   rw[hc]at hr;have:r=4∨r=4:=by simpa using hr
   omega
theorem rol_len{l:J}(h:pN l=true):(rolF (pS l)).length=(pS l).length:=by
 have:=congrArg List.length (jf6 h).2.2;rw[List.length_map,marks_len]at this;exact this
end Go.Px
end
noncomputable section
namespace Go.Px
open Go Go.Ab Go.Proofs Go.Shelf Go.RowKit Go.Sort Go.Lib
theorem laysM284:LaysM.n284 Tryz.prog Tryz.lays172_ren:={Tryz.lays172 with
 i0:=by kernel_rfl
 i3:=by kernel_rfl
 i4:=by kernel_rfl
 i5:=by kernel_rfl
 i9:=by kernel_rfl
 i46:=by kernel_rfl
 i53:=by kernel_rfl
 i212:=by kernel_rfl
 m17:=by kernel_rfl}
theorem tab_pow {w : World} (h : TabsIn w.heap.size w) : Lib.TabIs Tryz.prog w "internal/strconv.uint64pow10" .u64 Lib.pow10Tab := by
 obtain⟨_,ty,fr,h2⟩:=h 2 _ rfl;unfold Lib.TabIs World.var?
 have e : Tryz.prog.globalNamed "internal/strconv.uint64pow10" = some 2 := by kernel_rfl
 rw[e];simp only[Option.bind_some,h2];rfl
theorem fmt_small(u:Nat)(hu:u<100)(w:World):Calls Tryz.prog 131 #[.int .u64 u,.int .i64 10] w fun e w'=>e= .returned (.string ⟨(Lib.decDigits u).toArray⟩)∧w'=w:=by
 have mixed:=Tryz.lays172.mixed;have e142:∀args w,(callFunc 194 args).run Tryz.prog w= .ok (.enter 194 args) w:=enters_of Tryz.func194 (by kernel_rfl) rfl;have hw:IntKind.i64.wrap (u:Int)=(u:Int):=by rw[IntKind.wrap_i64];omega
 go_enter Tryz.func131,Tryz.ntmps131
 go_wp2_with (go_at_fn 194;refine(Any.internal_strconv_small (ρ:=Tryz.lays172_ren) {Tryz.lays172 with} u hu _).mono ?_;rintro e w' ⟨rfl,rfl⟩)
 go_ret
 exact⟨rfl,rfl⟩
set_option maxHeartbeats 6400000 in
set_option maxRecDepth 100000 in
theorem fmt_big (u : Nat) (hu : 100 ≤ u) (hu64 : u < 18446744073709551616) (w : World) (htab : Lib.TabIs Tryz.prog w "internal/strconv.uint64pow10" .u64 Lib.pow10Tab) :
  Calls Tryz.prog 131 #[.int .u64 u,.int .i64 10] w fun e w'=>e= .returned (.string ⟨(Lib.decDigits u).toArray⟩)∧ ∃k os,w'=grow (w.drewN k) os:=by
 have mixed:=Tryz.lays172.mixed;have e143:∀args w,(callFunc 195 args).run Tryz.prog w= .ok (.enter 195 args) w:=enters_of Tryz.func195 (by kernel_rfl) rfl;have e144:∀args w,(callFunc 196 args).run Tryz.prog w= .ok (.enter 196 args) w:=enters_of Tryz.func196 (by kernel_rfl) rfl;have hu1:1≤u:=by omega
 have hnd20:Lib.nDigits u≤20:=by have:=Lib.numDigits_eq u hu1 hu64;split at this<;>omega
 have iu:(100:Int)≤(u:Int):=by omega
 have t148:=Tryz.underlying222;have hal:Tryz.prog.arrayLen 222=24:=by simp[Program.arrayLen,Tryz.underlying222]
 have hsl:∀W,(Instr.sliceAt 222 (.pointer (some ⟨w.heap.size,0,none⟩)) none (some (.int .i64 (Lib.nDigits u:Int))) none).run Tryz.prog W= .ok (.slice (some ⟨w.heap.size,0,none⟩) (Lib.nDigits u) 24) W:=fun W=>by
  rw[run_sliceAt_array_h W 222 ⟨w.heap.size,0,none⟩ (by simp[Program.arrayLen,Program.elem,Tryz.underlying222]) .i64 (Lib.nDigits u:Int) (by omega) (by rw[hal];omega)]
  go_simp
 have hH0:=Lib.holds_zero0 w 222 (Lib.nDigits u) (by omega);have hfmt:=Any.internal_strconv_formatBase10 (ρ:=Tryz.lays172_ren) {Tryz.lays172 with} w.heap.size 0 24 u (Array.replicate (Lib.nDigits u) 0) (w.alloc (.cells Lib.zeros24 222)) hH0 (by rw[Array.size_replicate];exact Lib.lt_pow_nDigits u) hu64 (by rw[Array.size_replicate];omega);rw[Array.size_replicate]at hfmt;have HH0:=Lib.hid hH0;clear hH0 hal
 go_enter Tryz.func131,Tryz.ntmps131
 go_wp2_with (first
  | (go_at_fn 195;refine(Any.internal_strconv_numDigits (ρ:=Tryz.lays172_ren) laysM284 u hu1 hu64 _ (Lib.tabIs_alloc htab _)).mono ?_;rintro e w' ⟨rfl,rfl⟩))
 go_at_fn 196
 refine hfmt.mono ?_;rintro e w' ⟨rfl,k,v',dk,rfl,hF⟩
 have hcv:(convert 77 9 (.slice (some ⟨w.heap.size,0,none⟩) (Lib.nDigits u) 24)).run Tryz.prog ((putRow (fun(b:UInt8)=>Value.int .u8 (b.toNat:Int)) (w.alloc (.cells Lib.zeros24 222)) w.heap.size 0 dk).drewN k)= .ok (.string ⟨(Lib.decDigits u).toArray⟩) ((putRow (fun(b:UInt8)=>Value.int .u8 (b.toNat:Int)) (w.alloc (.cells Lib.zeros24 222)) w.heap.size 0 dk).drewN k):=by
  have h:=run_convert_bytes_back (P:=Tryz.prog) ((putRow (fun(b:UInt8)=>Value.int .u8 (b.toNat:Int)) (w.alloc (.cells Lib.zeros24 222)) w.heap.size 0 dk).drewN k) 77 9 5 ⟨w.heap.size,0,none⟩ 24 (Lib.decDigits u) Tryz.underlying77 Tryz.underlying5 Tryz.underlying9 (fun j hj=>by
   rw[Lib.row_is_numeral hF j hj,Lib.add_plain,World.cell?_drewN];exact cell?_putRow (fun(b:UInt8)=>Value.int .u8 (b.toNat:Int)) _ w.heap.size 0 _ dk HH0.out (by rw[hF.size,Array.size_replicate]) j (by rw[hF.size];rw[Lib.decDigits_length]at hj;exact hj))
  rw[Lib.decDigits_length]at h;exact h
 go_wp2
 go_ret
 obtain⟨os,eo⟩:=Lib.fin_at w (.cells Lib.zeros24 222) dk k 0;exact⟨rfl,k,os,eo⟩
def decZ(n:Int):J:=zl (Lib.decDigits n.toNat)
theorem c87:jbq Tryz.prog 84:=cal Tryz.func84 (by kernel_rfl) (by kernel_rfl)
theorem fmt_all(u:Nat)(hu64:u<18446744073709551616)(w:World)(ht:TabsIn w.heap.size w):
  Calls Tryz.prog 131 #[.int .u64 u,.int .i64 10] w fun e w'=>e= .returned (.string ⟨(Lib.decDigits u).toArray⟩)∧RowKit.Below w.heap.size w w':=by
 by_cases hu:u<100
 ·exact(fmt_small u hu w).mono fun e w' ⟨h1,h2⟩=>⟨h1,jch h2⟩
 ·exact(fmt_big u (by omega) hu64 w (tab_pow ht)).mono fun e w' ⟨h1,k,os,h2⟩=>⟨h1,by rw[h2];exact Lib.below_grow _ _ (Nat.le_refl _) _ _⟩
theorem fmt87(u:Nat)(hu64:u<18446744073709551616)(w:World)(ht:TabsIn w.heap.size w):
  Calls Tryz.prog 84 #[.int .u64 u,.int .i64 10] w fun e w'=>e= .returned (.string ⟨(Lib.decDigits u).toArray⟩)∧RowKit.Below w.heap.size w w':=by
 have mixed:=Tryz.lays172.mixed;have e115:∀args w,(callFunc 131 args).run Tryz.prog w= .ok (.enter 131 args) w:=enters_of Tryz.func131 (by kernel_rfl) rfl
 go_enter Tryz.func84,Tryz.ntmps84
 go_wp2_with (go_at_fn 131;refine(fmt_all u hu64 _ ht).mono ?_;rintro e w' ⟨rfl,hb⟩)
 go_ret
 exact⟨rfl,hb⟩
def jnq(b:Int):Bool:=b==10
def s87(n:U64)(b:Int):Bool×Value:=(decide (0≤n.n∧n.n<18446744073709551616) &&jnq b,.string (sz (decZ n.n)))
theorem ok87:jan Tryz.prog 84 (sp2 s87):=jda c87 fun n b hc w ht=>by
 simp only[s87,jnq,jaf,jae,beq_iff_eq]at hc;obtain⟨⟨h0,h1⟩,rfl⟩:=hc
 have e:Enc.enc n=Value.int .u64 (n.n.toNat:Int):=by
  show Value.int .u64 n.n=_;rw[Int.toNat_of_nonneg h0]
 rw[e];refine(fmt87 n.n.toNat (by omega) w ht).mono fun e w' ⟨h4,h5⟩=>⟨?_,h5⟩
 rw[h4,jg2];rfl
end Go.Px
end
section
namespace Go.Px
open Go Go.Ab Go.Proofs
def dval(l:J):Int:=numZ l 0
theorem jjh:∀(l:J)(a:Int),numZ l a=a*tenZ l.length+numZ l 0
 | [],a=>by simp[numZ,tenZ]
 | c::r,a=>by
  rw[numZ,jjh r,numZ,jjh r (0*10+(c-48)),List.length_cons,tenZ_succ,Int.add_mul,Int.add_mul,Int.mul_assoc,Int.mul_comm 10 (tenZ r.length)];omega
theorem jd6(a b:J):dval (a++b)=dval a*tenZ b.length+dval b:=by
 have:∀(l:J)(x:Int),numZ (l++b) x=numZ b (numZ l x):=by
  intro l
  induction l with
  | nil=>exact fun _=>rfl
  | cons c r ih=>exact fun x=>ih _
 rw[dval,this,jjh b];rfl
theorem jie(l:J)(c:Int):dval (l++ [c])=dval l*10+(c-48):=by
 rw[jd6];simp[dval,numZ,tenZ]
theorem jik{a b:J}:dgL (a++b)=true↔dgL a=true∧dgL b=true:=by simp[dgL]
theorem jhi{c:Int}{l:J}:dgL (c::l)=true↔(48≤c∧c≤57)∧dgL l=true:=by simp[dgL]
theorem jcy(n:Nat):0<tenZ n:=by unfold tenZ;exact Int.pow_pos (by decide)
theorem jc8:∀l:J,dgL l=true→0≤dval l∧dval l<tenZ l.length
 | [],_=>by simp[dval,numZ,tenZ]
 | c::r,h=>by
  obtain⟨h1,h2⟩:=jhi.1 h;have ih:=jc8 r h2
  have e:dval (c::r)=(c-48)*tenZ r.length+dval r:=by
   have:=jd6 [c] r;simpa[dval,numZ]using this
  have hp:=jcy r.length;rw[e,List.length_cons,tenZ_succ];have h3:(c-48)*tenZ r.length≤9*tenZ r.length:=Int.mul_le_mul_of_nonneg_right (by omega) (by omega);have h4:0≤(c-48)*tenZ r.length:=Int.mul_nonneg (by omega) (by omega);omega
theorem dval_head{c:Int}{r:J}(h:dgL (c::r)=true)(hc:c≠48):tenZ r.length≤dval (c::r):=by
 obtain⟨h1,h2⟩:=jhi.1 h;have ih:=jc8 r h2
 have e:dval (c::r)=(c-48)*tenZ r.length+dval r:=by
  have:=jd6 [c] r;simpa[dval,numZ]using this
 have hp:=jcy r.length;have h3:1*tenZ r.length≤(c-48)*tenZ r.length:=Int.mul_le_mul_of_nonneg_right (by omega) (by omega);rw[e];omega
theorem dec_spec(u:Nat):dgL (zl (Lib.decDigits u))=true∧dval (zl (Lib.decDigits u))=u:=by
 induction u using Nat.strongRecOn with
 | _ u ih=>
  rw[Lib.decDigits];split
  ·rename_i h
   have e:(((UInt8.ofNat (48+u)).toNat:Nat):Int)=48+u:=by
    simp only[UInt8.toNat_ofNat'];omega
   simp only[zl,List.map_cons,List.map_nil,e];exact⟨by simp[dgL];omega,by simp[dval,numZ];omega⟩
  ·rename_i h;obtain⟨h1,h2⟩:=ih (u/10) (by omega)
   have e:(((UInt8.ofNat (48+u%10)).toNat:Nat):Int)=48+(u%10:Nat):=by
    simp only[UInt8.toNat_ofNat'];omega
   have es:zl (Lib.decDigits (u/10)++ [UInt8.ofNat (48+u%10)])=zl (Lib.decDigits (u/10))++ [48+((u%10:Nat):Int)]:=by
    simp only[zl,List.map_append,List.map_cons,List.map_nil,e]
   rw[es];refine⟨jik.2 ⟨h1,by simp[dgL];omega⟩,?_⟩;rw[jie,h2];omega
theorem jii:∀(n:Nat)(l:J),l.length=n→dgL l=true→digZ (dval l) n=l
 | 0,l,hl,_=>by rw[List.length_eq_zero_iff.1 hl];rfl
 | n+1,l,hl,h=>by
  rcases List.eq_nil_or_concat l with rfl | ⟨a,c,rfl⟩
  ·cases hl
  ·rw[List.concat_eq_append]at h hl ⊢;obtain⟨h1,h2⟩:=jik.1 h;have h2:=(jhi.1 h2).1;rw[digZ,jie];have e1:(dval a*10+(c-48))/10=dval a:=by omega
   have e2:48+(dval a*10+(c-48))%10=c:=by omega
   rw[e1,e2,jii n a (by simpa using hl) h1]
theorem digZ_val(l:J)(h:dgL l=true):digZ (dval l) l.length=l:=jii _ l rfl h
theorem digZ_drop:∀(d k:Nat)(v:Int),d≤k→(digZ v k).drop (k-d)=digZ v d
 | 0,k,v,_=>by
  rw[Nat.sub_zero];exact List.drop_eq_nil_of_le (by rw[jd7];exact Nat.le_refl _)
 | d+1,0,v,h=>by omega
 | d+1,k+1,v,h=>by
  rw[digZ,digZ,List.drop_append_of_le_length (by rw[jd7];omega),show k+1-(d+1)=k-d by omega,digZ_drop d k _ (by omega)]
theorem digZ_last{l:J}(h:dgL l=true){d:Nat}(hd:d≤l.length):l.drop (l.length-d)=digZ (dval l) d:=by
 have:=digZ_drop d l.length (dval l) hd;rwa [digZ_val l h]at this
theorem jj2:∀(d:Nat)(v:Int),0≤v→digZ (v%tenZ d) d=digZ v d
 | 0,_,_=>rfl
 | d+1,v,h=>by
  obtain⟨n,rfl⟩:∃n:Nat,v=n:=⟨v.toNat,by omega⟩
  have et:tenZ (d+1)=((10*10^d:Nat):Int):=by
   unfold tenZ;rw[Nat.mul_comm,←Nat.pow_succ];simp
  have ed:tenZ d=((10^d:Nat):Int):=by unfold tenZ;simp
  have e1:((n:Int)%tenZ (d+1))/10=((n:Int)/10)%tenZ d:=by
   rw[et,ed];have:=Nat.mod_mul_right_div_self n 10 (10^d)
   exact_mod_cast this
  have e2:((n:Int)%tenZ (d+1))%10=(n:Int)%10:=by
   rw[et];have:=Nat.mod_mul_right_mod n 10 (10^d)
   exact_mod_cast this
  rw[digZ,digZ,e1,e2,jj2 d _ (by omega)]
theorem dval_take{l:J}(h:dgL l=true)(k:Nat):dval (l.take (l.length-k))=dval l/tenZ k:=by
 by_cases hk:k≤l.length
 ·have e:=List.take_append_drop (l.length-k) l;have hh:dgL (l.take (l.length-k)++l.drop (l.length-k))=true:=by rw[e];exact h
  have h2:=(jik.1 hh).2;have r:=jc8 _ h2;have el:(l.drop (l.length-k)).length=k:=by rw[List.length_drop];omega
  have ev:=jd6 (l.take (l.length-k)) (l.drop (l.length-k));rw[e,el]at ev;rw[el]at r;have hp:=jcy k;rw[ev,Int.add_comm,Int.add_mul_ediv_right _ _ (by omega),Int.ediv_eq_zero_of_lt r.1 r.2,Int.zero_add]
 ·have:l.length-k=0:=by omega
  rw[this,List.take_zero];have r:=jc8 l h
  have hle:tenZ l.length≤tenZ k:=by
   unfold tenZ;have:(10:Nat) ^l.length≤10^k:=Nat.pow_le_pow_right (by decide) (by omega)
   exact_mod_cast this
  rw[Int.ediv_eq_zero_of_lt r.1 (by omega)];rfl
theorem jjy(k:Nat):dval (rep1 48 k)=0∧dgL (rep1 48 k)=true:=by
 induction k with
 | zero=>exact⟨rfl,rfl⟩
 | succ k ih=>
  have e:rep1 48 (k+1)=48::rep1 48 k:=rfl;rw[e];refine⟨?_,jhi.2 ⟨by omega,ih.2⟩⟩;have:=jd6 [48] (rep1 48 k);rw[ih.1]at this;rw[List.singleton_append]at this;rw[this];simp[dval,numZ]
theorem jfo:∀l:J,dval (l.dropWhile (· ==48))=dval l
 | []=>rfl
 | c::r=>by
  rw[List.dropWhile_cons];cases h:c==48 with
  | false=>simp
  | true=>
   rw[if_pos rfl,jfo r];have:=jd6 [c] r;rw[eq_of_beq h]at this ⊢;simp[dval,numZ]
theorem dgL_strip{l:J}(h:dgL l=true):dgL (l.dropWhile (· ==48))=true:=by
 simp only[dgL,List.all_eq_true]at h ⊢;exact fun c hc=>h c ((List.dropWhile_sublist _).subset hc)
theorem strip_head:∀l:J,l.dropWhile (· ==48)=[]∨ ∃c r,l.dropWhile (· ==48)=c::r∧c≠48
 | []=> .inl rfl
 | c::r=>by
  rw[List.dropWhile_cons];cases h:c==48 with
  | true=>rw[if_pos rfl];exact strip_head r
  | false=>exact .inr ⟨c,r,by simp,by simpa using h⟩
theorem tenZ_mono{a b:Nat}(h:a≤b):tenZ a≤tenZ b:=by
 unfold tenZ;have:(10:Nat) ^a≤10^b:=Nat.pow_le_pow_right (by decide) h
 exact_mod_cast this
theorem strip_len{l:J}(h:dgL l=true)(d:Nat):(l.dropWhile (· ==48)).length≤d↔dval l<tenZ d:=by
 have hs:=dgL_strip h;have r:=jc8 _ hs;rw[jfo]at r;constructor
 ·intro hl;have:=tenZ_mono hl;omega
 ·intro hv;rcases strip_head l with e | ⟨c,t,e,hc⟩
  ·rw[e];exact Nat.zero_le _
  ·have:=dval_head (e▸hs) hc;rw[←e,jfo]at this;rw[e,List.length_cons];have hlt:¬d≤t.length:=fun q=>by have:=tenZ_mono q;omega
   omega
theorem strip_nil{l:J}(h:dgL l=true):l.dropWhile (· ==48)=[]↔dval l=0:=by
 have r:=strip_len h 0;have hv:=(jc8 l h).1;have e:tenZ 0=1:=rfl;rw[e,Nat.le_zero,List.length_eq_zero_iff]at r;rw[r];omega
theorem jjz:∀(d:Nat)(v:Int),0≤v→dval (digZ v d)=v%tenZ d
 | 0,v,_=>by simp[digZ,dval,numZ,tenZ]
 | d+1,v,h=>by
  have e:=jj2 (d+1) v h;have r:=jc8 (digZ v (d+1)) (jfz _ _);rw[digZ,jie,jjz d _ (by omega)];obtain⟨n,rfl⟩:∃n:Nat,v=n:=⟨v.toNat,by omega⟩
  have et:tenZ (d+1)=((10*10^d:Nat):Int):=by
   unfold tenZ;rw[Nat.mul_comm,←Nat.pow_succ];simp
  have ed:tenZ d=((10^d:Nat):Int):=by unfold tenZ;simp
  have e1:((n:Int)%tenZ (d+1))/10=((n:Int)/10)%tenZ d:=by
   rw[et,ed];have:=Nat.mod_mul_right_div_self n 10 (10^d)
   exact_mod_cast this
  have e2:((n:Int)%tenZ (d+1))%10=(n:Int)%10:=by
   rw[et];have:=Nat.mod_mul_right_mod n 10 (10^d)
   exact_mod_cast this
  omega
end Go.Px
end
noncomputable section
namespace Go.Px
open Go Go.Ab Go.Proofs Go.Shelf
def fmL(s:Y)(nb:Bool)(w d sc:Int)(sg:Bool)(x k cap:Nat)(dr f:Int)(cr:Bool)(fl fm:Int):F:=
 [.string s,.bool nb,.int .i64 w,.int .i64 d,.int .i64 sc,.bool sg,.slice (some ⟨x,0,some 1⟩) k cap,.int .u8 dr,.int .i64 f,.bool cr,.int .u8 fl,.int .i64 fm]
def vwF(c:F):Lk:=fun j=>match Nat.beq j 0 with | true=>some ⟨c,132,false⟩ | false=>none
def vwF2(c d:F):Lk:=fun j=>match Nat.beq j 0 with | true=>some ⟨c,132,false⟩ | false=>match Nat.beq j 1 with | true=>some ⟨d,221,false⟩ | false=>none
def rho2(a x:Nat):Nat→Nat:=fun j=>match j with | 0=>a | _=>x
theorem sub_F{m:Lk}{a x k cap:Nat}{s:Y}{nb:Bool}{w d sc:Int}{sg:Bool}{dr f:Int}{cr:Bool}{fl fm:Int}{own:Bool}(ha:m a=some ⟨fmL s nb w d sc sg x k cap dr f cr fl fm,132,own⟩):
  SubM m (rho2 a x) (vwF (fmL s nb w d sc sg 1 k cap dr f cr fl fm)) 2:=by
 have hget:∀j b,vwF (fmL s nb w d sc sg 1 k cap dr f cr fl fm) j=some b→j=0∧b=⟨fmL s nb w d sc sg 1 k cap dr f cr fl fm,132,false⟩:=fun j b h=>by
  simp only[vwF]at h;split at h
  ·rename_i h0;cases h;exact⟨jah h0,rfl⟩
  ·cases h
 refine⟨fun j b h=> ?_,fun j b h=> ?_⟩
 ·obtain⟨rfl,rfl⟩:=hget j b h;refine⟨by omega,fun i hi=> ?_⟩;have:i=1:=by simpa[fmL,idsL,ids]using hi
  omega
 ·obtain⟨rfl,rfl⟩:=hget j b h;refine⟨rfl,⟨fmL s nb w d sc sg x k cap dr f cr fl fm,132,own⟩,?_,fun ι=> ?_⟩
  ·show noIt (m a)=_;rw[ha];simp only[noIt];have:(own&&Nat.beq 132 itTy)=false:=by cases own<;>rfl
   rw[this]
  ·simp[fmL,ren,ren1,rho2]
theorem sub_F2{m:Lk}{a x k cap:Nat}{s:Y}{nb:Bool}{w d sc:Int}{sg:Bool}{dr f:Int}{cr:Bool}{fl fm:Int}{own own2:Bool}{r:F}(hr:jay r=true)
  (ha:m a=some ⟨fmL s nb w d sc sg x k cap dr f cr fl fm,132,own⟩) (hx:m x=some ⟨r,221,own2⟩):
  SubM m (rho2 a x) (vwF2 (fmL s nb w d sc sg 1 k cap dr f cr fl fm) r) 2:=by
 have hget:∀j b,vwF2 (fmL s nb w d sc sg 1 k cap dr f cr fl fm) r j=some b→(j=0∧b=⟨fmL s nb w d sc sg 1 k cap dr f cr fl fm,132,false⟩)∨(j=1∧b=⟨r,221,false⟩):=fun j b h=>by
  simp only[vwF2]at h;split at h
  ·rename_i h0;cases h;exact .inl ⟨jah h0,rfl⟩
  ·split at h
   ·rename_i h0;cases h;exact .inr ⟨jah h0,rfl⟩
   ·cases h
 refine⟨fun j b h=> ?_,fun j b h=> ?_⟩
 ·rcases hget j b h with⟨rfl,rfl⟩ | ⟨rfl,rfl⟩
  ·refine⟨by omega,fun i hi=> ?_⟩;have:i=1:=by simpa[fmL,idsL,ids]using hi
   omega
  ·exact⟨by omega,fun i hi=>by rw[jao hr]at hi;cases hi⟩
 ·rcases hget j b h with⟨rfl,rfl⟩ | ⟨rfl,rfl⟩
  ·refine⟨rfl,⟨fmL s nb w d sc sg x k cap dr f cr fl fm,132,own⟩,?_,fun ι=> ?_⟩
   ·show noIt (m a)=_;rw[ha];simp only[noIt];have:(own&&Nat.beq 132 itTy)=false:=by cases own<;>rfl
    rw[this]
   ·simp[fmL,ren,ren1,rho2]
  ·refine⟨rfl,⟨r,221,own2⟩,?_,fun ι=>renMap_congr fun k hk=>by rw[jao hr]at hk;cases hk⟩;show noIt (m x)=_;rw[hx];simp only[noIt];have:(own2&&Nat.beq 221 itTy)=false:=by cases own2<;>rfl
   rw[this]
def hideS(sp:Ab.Spec):F→Lk→Nat→(Value→Lk→Nat→Prop)→Prop:=fun args m n K=>match sp args (args.map (blkOf m))with
 | some (c,.string e)=>match cnd c with
  | true=>∀s':Y,e=s'→K (.string s') m n
  | false=>False
 | _=>False
theorem jjq{P:Program}{f:FuncId}{sp:Ab.Spec}(h:jan P f sp):jcw P f (hideS sp):=by
 obtain⟨hc,hp⟩:=h;refine⟨hc,fun args m n K hh N w0 ι w hrel hwf hargs=> ?_⟩;unfold hideS at hh;split at hh
 case h_2=>exact hh.elim
 rename_i c e hs;split at hh
 case h_2=>exact hh.elim
 rename_i hcc;have hcc:c=true:=hcc;subst hcc;refine(hp args (.string e) N w0 m ι w hrel hs rfl).mono fun e' w' ⟨h1,h2⟩=> ?_
 exact⟨.string e,m,n,ι,by rw[h1];rfl,hh e rfl,Nat.le_refl _,fun _ _=>rfl,hrel.grow h2,hwf,by simp[ids]⟩
def G31:Env:=(((Env.nil.add 124 (sp2 s89)).addG 84 (hideS (sp2 s87))).addG 110 (hideS (sp2 s88))).addG 114 (hideS (sp2 s78))
theorem ok_G31:ja0 Tryz.prog G31:=jau (jau (jau (jak jav ok89) (jjq ok87)) (jjq ok88)) (jjq ok78)
def g8(a b:Bool)(c:Value)(d:Value→Prop):Prop:=bif a then aq b c d else False
def oz(d:Bool)(a:Y)(b c:Int):Bool:=decide (al a≤b) && (f9 c 0 || (d || du a am))
def cv:Y:=⟨#[48]⟩
def lr(a b:Y)(c:Int):Y:=(a++b).extract c.toNat (a++b).size
def bu(a b:Int):Int:=IntKind.i64.wrap (a-b)
def jd(a b:Y):Int:=((a++b).size:Int)
def io(a b:Int):Int:=IntKind.i64.wrap (a-b)
def fu(a b:Y):Bool:=jbn (a.size+b.size)
def mw(a b:Int):Int:=imax 0 (io a b)
def gq(b:Y)(a:Int):Bool:=decide (0≤a∧a≤1000∧b.size≤1000)
def po(a g:Bool)(d:Y)(e f:Int)(h:Value→Prop):Prop:=bif a then∀b:Y,sz ((bz d).dropWhile (fun c:Int=>c==jz cv))=b→ji (decide (al b≤e)) (f9 f 0 || (g || true)) true (gq cv (mw e (al b))) (∀c:Y,sz (repZ (bz cv) (mw e (al b)).toNat)=c→(bif fu c b then g8 (ez 0 (io (jd c b) e) (jd c b) (jd c b) (jd c b)) (cm (au f 0) (bif g then ic (lr c b (io (jd c b) e)) &&ir [] 48&&true else true) true) (az [.string (bif au f 0 then bif g then lr c b (io (jd c b) e)else lr c b (bu (jd c b) e)else lr c b (bu (jd c b) e)),.bool (au f 0&& (g&& !ig (lr c b (bu (jd c b) e)) cv)),.bool (cm (au f 0) (bif g then oz g b e f else oz g b e f) (oz g b e f))]) h else False)) False else False
def jv(a b:Int):Int:=IntKind.i64.wrap (a-b)
def o7(f:Bool)(c d e g h:Int)(i:Value→Prop):Prop:=bif ct (IntKind.u64.wrap c) 18446744073709551616&&true then∀a:Y,sz (decZ (IntKind.u64.wrap c))=a→(bif f9 d e then bif gq cv (jv d e)then∀b:Y,sz (repZ (bz cv) (jv d e).toNat)=b→po (fu a b) f (a++b) g h i else False else po (ez 0 0 (mw (al a) (jv e d)) (mw (al a) (jv e d)) (al a)) f (a.extract 0 (mw (al a) (jv e d)).toNat) g h i)else False
theorem v63(s:Y)(nb:Bool)(w:Int)(d:Int)(sc:Int)(sg:Bool)(k:Nat)(cap:Nat)(dr:Int)(f:Int)(cr:Bool)(fl:Int)(fm:Int)(n:Int)(q:Int)(R:Value→Prop):(jaz Tryz.prog G31 noL Tryz.f282 [.pointer (some ⟨0,0,some 0⟩),I n,I q] (vwF (fmL s nb w d sc sg 1 k cap dr f cr fl fm)) 2 (fun v _ _=>R v))=(bif au n 0 then o7 sg (0-IntKind.u64.wrap n) sc q d n R else o7 sg n sc q d n R):=by kernel_rfl
theorem jms:∀k:Nat,repZ [48] k=rep1 48 k
 | 0=>rfl
 | k+1=>by rw[repZ,jms k];rfl
theorem all48{l:J}(h:dgL l=true):(∀c∈l,hasZ [48] c=true)↔dval l=0:=by
 rw[←strip_nil h,jif];constructor
 ·intro q c hc;have:=q c hc;rw[jbk]at this;simpa using this
 ·intro q c hc;rw[jbk];simpa using q c hc
theorem jgg(s:Y):(s.toList==ByteArray.toList (ByteArray.mk #[]))=(bz s).isEmpty:=by
 rw[jfg];have:bz ⟨#[]⟩=[]:=rfl;rw[this];cases bz s<;>rfl
theorem trim_isB{l cs:J}(h:IsB l):IsB (jap l cs):=by
 intro c hc;refine h c ?_;unfold jap at hc;have:=List.dropWhile_sublist _ |>.subset hc
 have:c∈l.reverse.dropWhile (hasZ cs):=by simpa using this
 simpa using List.dropWhile_sublist _ |>.subset this
theorem jhm{n d M:Int}{sg:Bool}{l1:J}{s1:Y}(hs1:bz s1=l1)(hdg:dgL l1=true)(hv:dval l1=M)(hlen:l1.length≤100)(hd:0≤d∧d≤9){R:Value→Prop}
  (hR:R (.tuple ⟨[.string (sz (digZ (M%tenZ d.toNat) d.toNat)),.bool (decide (n<0) && (sg&& !(M%tenZ d.toNat==0))),.bool (decide (M<tenZ d.toNat) && (decide (n≥0) || (sg || M%tenZ d.toNat==0)))]⟩)):
  ∀(s2:Y),sz (List.dropWhile (fun x=>x==List.getD (bz (ByteArray.mk #[48])) 0 0) (bz s1))=s2→
   bif bif decide ((↑(ByteArray.size s2):Int)≤d)then decide (n≥0) || (sg || true)else true then
    bif decide (0≤imax 0 (IntKind.wrap IntKind.i64 (d-(↑(ByteArray.size s2):Int)))∧imax 0 (IntKind.wrap IntKind.i64 (d-(↑(ByteArray.size s2):Int)))≤1000∧ByteArray.size (ByteArray.mk #[48])≤1000)then
     ∀(s':Y),sz (repZ (bz (ByteArray.mk #[48])) (Int.toNat (imax 0 (IntKind.wrap IntKind.i64 (d-(↑(ByteArray.size s2):Int))))))=s'→
      bif jbn (ByteArray.size s'+ByteArray.size s2)then
       bif decide (0≤IntKind.wrap IntKind.i64 ((↑(ByteArray.size (s'++s2)):Int)-d)∧IntKind.wrap IntKind.i64 ((↑(ByteArray.size (s'++s2)):Int)-d)≤(↑(ByteArray.size (s'++s2)):Int)∧(↑(ByteArray.size (s'++s2)):Int)≤(↑(ByteArray.size (s'++s2)):Int))then
        bif bif decide (n<0)then bif sg then decide (ByteArray.size (ByteArray.extract (s'++s2) (Int.toNat (IntKind.wrap IntKind.i64 ((↑(ByteArray.size (s'++s2)):Int)-d))) (ByteArray.size (s'++s2)))≤1000) && (decide (ByteArray.size (ByteArray.mk #[48])≤1000) &&asc (bz (ByteArray.mk #[48]))) &&true else true else true then
         R (Value.tuple (Array.mk [Value.string (bif decide (n<0)then bif sg then ByteArray.extract (s'++s2) (Int.toNat (IntKind.wrap IntKind.i64 ((↑(ByteArray.size (s'++s2)):Int)-d))) (ByteArray.size (s'++s2))else ByteArray.extract (s'++s2) (Int.toNat (IntKind.wrap IntKind.i64 ((↑(ByteArray.size (s'++s2)):Int)-d))) (ByteArray.size (s'++s2))else ByteArray.extract (s'++s2) (Int.toNat (IntKind.wrap IntKind.i64 ((↑(ByteArray.size (s'++s2)):Int)-d))) (ByteArray.size (s'++s2))),
          Value.bool (decide (n<0) && (sg&& !ByteArray.toList (szO (jap (bz (ByteArray.extract (s'++s2) (Int.toNat (IntKind.wrap IntKind.i64 ((↑(ByteArray.size (s'++s2)):Int)-d))) (ByteArray.size (s'++s2)))) (bz (ByteArray.mk #[48]))))==ByteArray.toList (ByteArray.mk #[]))),
          Value.bool (bif decide (n<0)then bif sg then decide ((↑(ByteArray.size s2):Int)≤d) && (decide (n≥0) || (sg || ByteArray.toList s2==ByteArray.toList (ByteArray.mk #[])))else decide ((↑(ByteArray.size s2):Int)≤d) && (decide (n≥0) || (sg || ByteArray.toList s2==ByteArray.toList (ByteArray.mk #[])))else decide ((↑(ByteArray.size s2):Int)≤d) && (decide (n≥0) || (sg || ByteArray.toList s2==ByteArray.toList (ByteArray.mk #[]))))]))
        else False
       else False
      else False
    else False
   else False:=by
 intro s2 h2;have k0:(bz ⟨#[48]⟩).getD 0 0=48:=rfl;have k1:bz ⟨#[48]⟩=[48]:=rfl;rw[k0,hs1]at h2;have hB:∀{l:J},dgL l=true→IsB l:=jij;have h2d:=dgL_strip hdg;have b2:bz s2=l1.dropWhile (· ==48):=by rw[←h2,je1 (hB h2d)]
 have hl2:(l1.dropWhile (· ==48)).length≤100:=Nat.le_trans (List.dropWhile_sublist _).length_le hlen;have z2:s2.size=(l1.dropWhile (· ==48)).length:=by rw[←jam,b2]
 rw[z2,w64 (n:=d-((l1.dropWhile (· ==48)).length:Int)) (by omega),k1];have hv2:dval (l1.dropWhile (· ==48))=M:=by rw[jfo,hv]
 have hlt:=strip_len hdg d.toNat;have hnl:=strip_nil hdg;rw[hv]at hlt hnl;generalize l1.dropWhile (· ==48)=l2 at*;have hk:0≤imax 0 (d-(l2.length:Int))∧imax 0 (d-(l2.length:Int))≤9∧d≤imax 0 (d-(l2.length:Int))+l2.length:=by unfold imax;split<;>omega
 generalize imax 0 (d-(l2.length:Int))=k at*;refine c_t (by cases decide ((l2.length:Int)≤d) <;>simp) (c_t (jaa ⟨hk.1,by omega,by decide⟩) fun s3 h3=> ?_);obtain⟨r1,r2⟩:=jjy k.toNat;have b3:bz s3=rep1 48 k.toNat:=by rw[←h3,jms,je1 (hB r2)]
 have z3:s3.size=k.toNat:=by rw[←jam,b3];simp[rep1]
 have bE:bz (s3++s2)=rep1 48 k.toNat++l2:=by rw[jbr,b3,b2]
 have zE:(s3++s2).size=k.toNat+l2.length:=by rw[←jam,bE,List.length_append];simp[rep1]
 rw[zE,w64 (n:=((k.toNat+l2.length:Nat):Int)-d) (by omega)];refine c_t (by simp only[jbn,Nat.ble_eq];omega) (c_t (jaa (by omega)) ?_);have d3:dgL (rep1 48 k.toNat++l2)=true:=jik.2 ⟨r2,h2d⟩;have v3:dval (rep1 48 k.toNat++l2)=M:=by rw[jd6,r1,hv2];omega
 have l3:(rep1 48 k.toNat++l2).length=k.toNat+l2.length:=by rw[List.length_append];simp[rep1]
 have hM:0≤M:=by have:=(jc8 _ d3).1;omega
 have bx:bz ((s3++s2).extract (((k.toNat+l2.length:Nat):Int)-d).toNat (k.toNat+l2.length))=digZ (M%tenZ d.toNat) d.toNat:=by
  rw[jb7,bE,List.take_of_length_le (by rw[l3];exact Nat.le_refl _)];have:=digZ_last d3 (d:=d.toNat) (by rw[l3];omega);rw[v3,l3]at this;rw[jj2 _ _ hM,←this];congr 1;omega
 have ex:(s3++s2).extract (((k.toNat+l2.length:Nat):Int)-d).toNat (k.toNat+l2.length)=sz (digZ (M%tenZ d.toNat) d.toNat):=by rw[←bx,jf3]
 have hdd:=jfz d.toNat (M%tenZ d.toNat);rw[ex,je1 (hB hdd),jcl,jgg,je1 (trim_isB (hB hdd)),jgg,b2]
 have e1:(jap (digZ (M%tenZ d.toNat) d.toNat) [48]).isEmpty=(M%tenZ d.toNat==0):=by
  have hm:=Int.emod_nonneg M (b:=tenZ d.toNat) (by have:=jcy d.toNat;omega);have hm2:=Int.emod_lt_of_pos M (jcy d.toNat);have hz:dval (digZ (M%tenZ d.toNat) d.toNat)=M%tenZ d.toNat:=by rw[jjz _ _ hm,Int.emod_eq_of_lt hm hm2]
  rw[Bool.eq_iff_iff,List.isEmpty_iff,ji7,all48 hdd,hz,beq_iff_eq]
 have e2:(decide ((l2.length:Int)≤d) && (decide (n≥0) || (sg || l2.isEmpty)))=(decide (M<tenZ d.toNat) && (decide (n≥0) || (sg || M%tenZ d.toNat==0))):=by
  by_cases hq:M<tenZ d.toNat
  ·have h5:(l2.length:Int)≤d:=by have:=hlt.2 hq;omega
   have h6:l2.isEmpty=(M%tenZ d.toNat==0):=by
    rw[Int.emod_eq_of_lt hM hq,Bool.eq_iff_iff,List.isEmpty_iff,hnl,beq_iff_eq]
   rw[jaa hq,jaa h5,h6]
  ·have h5:¬(l2.length:Int)≤d:=fun q=>hq (hlt.1 (by omega))
   rw[jad hq,jad h5];rfl
 rw[e1,e2,jgh,jd7];have a1:decide (d.toNat≤1000)=true:=jaa (by omega);rw[a1];refine c_t (by cases decide (n<0) <;>cases sg<;>rfl) ?_;cases hn:decide (n<0) <;>cases sg<;>simpa[hn]using hR
def cutV(n q sc d:Int)(sg:Bool):Value:= .tuple ⟨[.string (sz (digZ ((cuN n q sc d sg).natAbs:Int) d.toNat)),.bool (decide (cuN n q sc d sg<0)),.bool (cuF n q sc d sg)]⟩
theorem cutV_eq{n q sc d:Int}{sg:Bool}(hM:0≤cuM n q sc):cutV n q sc d sg= .tuple ⟨[.string (sz (digZ (cuM n q sc%tenZ d.toNat) d.toNat)),.bool (decide (n<0) && (sg&& !(cuM n q sc%tenZ d.toNat==0))),.bool (decide (cuM n q sc<tenZ d.toNat) && (decide (n≥0) || (sg || cuM n q sc%tenZ d.toNat==0)))]⟩:=by
 have hm:=Int.emod_nonneg (cuM n q sc) (b:=tenZ d.toNat) (by have:=jcy d.toNat;omega)
 have e1:((cuN n q sc d sg).natAbs:Int)=cuM n q sc%tenZ d.toNat:=by
  unfold cuN cuV;split<;>omega
 have e2:decide (cuN n q sc d sg<0)=(decide (n<0) && (sg&& !(cuM n q sc%tenZ d.toNat==0))):=by
  unfold cuN cuV;rw[Bool.eq_iff_iff];simp only[jae,jaf,Bool.not_eq_true',beq_eq_false_iff_ne];split
  ·rename_i h;constructor
   ·exact fun q=>⟨h.1,h.2,by omega⟩
   ·exact fun q=>by omega
  ·rename_i h;constructor
   ·exact fun q=>by omega
   ·exact fun q=>absurd ⟨q.1,q.2.1⟩ h
 rw[cutV,e1,e2];rfl
theorem w63(s:Y)(nb:Bool)(w:Int)(d:Int)(sc:Int)(sg:Bool)(k:Nat)(cap:Nat)(dr:Int)(f:Int)(cr:Bool)(fl:Int)(fm:Int)(n q:Int)(hn: -9223372036854775808≤n∧n≤9223372036854775807)(hq:0≤q∧q≤9)(hsc:0≤sc∧sc≤9)(hd:0≤d∧d≤9){R:Value→Prop}(hR:R (cutV n q sc d sg)):
  jea Tryz.prog G31 noL Tryz.f282 [.pointer (some ⟨0,0,some 0⟩),.int .i64 n,.int .i64 q] (vwF (fmL s nb w d sc sg 1 k cap dr f cr fl fm)) 2 (fun v _ _=>R v):=by
 rw[jea,v63];delta ji aq g8 az cm du am f9 al oz au ig cv lr bu jd io ic ir ez fu mw gq jz po jv ct o7;obtain⟨u,hu⟩:∃u:Nat,n.natAbs=u:=⟨_,rfl⟩
 obtain⟨U,hU⟩:∃U:Int,U=u:=⟨_,rfl⟩
 obtain⟨g1,g2⟩:=dec_spec u
 have gl:(zl (Lib.decDigits u)).length≤20:=by
  rw[zl,List.length_map,Lib.decDigits_length];exact Lib.nDigits_le20 u (by omega)
 have eD:decZ U=zl (Lib.decDigits u):=by rw[hU,decZ,Int.toNat_natCast]
 have eM1:sc≥q→cuM n q sc=u*tenZ (sc-q).toNat:=fun h=>by
  unfold cuM;split
  ·have:sc=q:=by omega
   rw[this,hu,Int.sub_self];simp[tenZ]
  ·rw[hu]
 have eM2:¬sc≥q→cuM n q sc=u/tenZ (q-sc).toNat:=fun h=>by
  unfold cuM;rw[if_pos (by omega),hu]
 have hM:0≤cuM n q sc:=by
  by_cases h:sc≥q
  ·rw[eM1 h];exact Int.mul_nonneg (by omega) (by have:=jcy (sc-q).toNat;omega)
  ·rw[eM2 h];exact Int.ediv_nonneg (by omega) (by have:=jcy (q-sc).toNat;omega)
 have k1:bz ⟨#[48]⟩=[48]:=rfl
 have tail1:∀(s1 s2:Y),sz (decZ U)=s1→sc≥q→sz (repZ (bz (ByteArray.mk #[48])) (Int.toNat (sc-q)))=s2→jbn (s1.size+s2.size)=true∧bz (s1++s2)=zl (Lib.decDigits u)++rep1 48 (sc-q).toNat:=fun s1 s2 h1 h2 h3=>by
  have r:=jjy (sc-q).toNat;have b1:bz s1=zl (Lib.decDigits u):=by rw[←h1,eD,je1 (jij g1)]
  have b2:bz s2=rep1 48 (sc-q).toNat:=by rw[←h3,k1,jms,je1 (jij r.2)]
  have z1:s1.size≤20:=by rw[←jam,b1];exact gl
  have z2:s2.size≤9:=by rw[←jam,b2];simp[rep1];omega
  exact⟨by simp only[jbn,Nat.ble_eq];omega,by rw[jbr,b1,b2]⟩
 have tv1:∀h:sc≥q,dgL (zl (Lib.decDigits u)++rep1 48 (sc-q).toNat)=true∧dval (zl (Lib.decDigits u)++rep1 48 (sc-q).toNat)=cuM n q sc∧(zl (Lib.decDigits u)++rep1 48 (sc-q).toNat).length≤100:=fun h=>by
  have r:=jjy (sc-q).toNat;refine⟨jik.2 ⟨g1,r.2⟩,?_,?_⟩
  ·rw[jd6,g2,r.1,eM1 h];simp[rep1]
  ·rw[List.length_append];simp only[rep1,List.length_replicate];omega
 have tail2:∀(s1:Y),sz (decZ U)=s1→ ¬sc≥q→(0≤imax 0 ((s1.size:Int)-(q-sc))∧imax 0 ((s1.size:Int)-(q-sc))≤s1.size)∧s1.size≤20∧bz (s1.extract 0 (Int.toNat (imax 0 ((s1.size:Int)-(q-sc)))))=(zl (Lib.decDigits u)).take ((zl (Lib.decDigits u)).length-(q-sc).toNat):=fun s1 h1 h2=>by
  have b1:bz s1=zl (Lib.decDigits u):=by rw[←h1,eD,je1 (jij g1)]
  have z1:s1.size=(zl (Lib.decDigits u)).length:=by rw[←jam,b1]
  refine⟨by unfold imax;split<;>omega,by omega,?_⟩;rw[jb7,b1,List.drop_zero];congr 1;unfold imax;split<;>omega
 have tv2:∀h:¬sc≥q,dgL ((zl (Lib.decDigits u)).take ((zl (Lib.decDigits u)).length-(q-sc).toNat))=true∧dval ((zl (Lib.decDigits u)).take ((zl (Lib.decDigits u)).length-(q-sc).toNat))=cuM n q sc∧((zl (Lib.decDigits u)).take ((zl (Lib.decDigits u)).length-(q-sc).toNat)).length≤100:=fun h=>by
  refine⟨?_,?_,?_⟩
  ·simp only[dgL,List.all_eq_true]at g1 ⊢;exact fun c hc=>g1 c (List.mem_of_mem_take hc)
  ·rw[dval_take g1,g2,eM2 h]
  ·rw[List.length_take];omega
 rw[cutV_eq hM]at hR;apply cond_intro<;>intro hneg
 ·have hneg':=jab hneg;have e:IntKind.wrap .u64 (0-IntKind.wrap .u64 n)=U:=by rw[jni,jni];omega
  rw[e,w64 (n:=sc-q) (by omega),w64 (n:=q-sc) (by omega)];refine c_t (by rw[jaa (show(0:Int)≤U∧U<18446744073709551616 by omega)];rfl) fun s1 h1=>cond_intro (fun h=> ?_) (fun h=> ?_)
  ·have h:=jab h;refine c_t (jaa ⟨by omega,by omega,by decide⟩) fun s2 h2=> ?_
   obtain⟨a1,a2⟩:=tail1 s1 s2 h1 h h2;obtain⟨t1,t2,t3⟩:=tv1 h;exact c_t a1 (jhm a2 t1 t2 t3 hd hR)
  ·have h:=jac h;obtain⟨a1,a2,a3⟩:=tail2 s1 h1 h;obtain⟨t1,t2,t3⟩:=tv2 h;rw[w64 (n:=(s1.size:Int)-(q-sc)) (by omega)];have b1:decide ((0:Int)≤0∧0≤imax 0 ((s1.size:Int)-(q-sc))∧imax 0 ((s1.size:Int)-(q-sc))≤(s1.size:Int))=true:=jaa ⟨by decide,a1.1,a1.2⟩;exact c_t b1 (jhm a3 t1 t2 t3 hd hR)
 ·have hneg':=jac hneg;have e:IntKind.wrap .u64 n=U:=by rw[jni];omega
  rw[e,w64 (n:=sc-q) (by omega),w64 (n:=q-sc) (by omega)];refine c_t (by rw[jaa (show(0:Int)≤U∧U<18446744073709551616 by omega)];rfl) fun s1 h1=>cond_intro (fun h=> ?_) (fun h=> ?_)
  ·have h:=jab h;refine c_t (jaa ⟨by omega,by omega,by decide⟩) fun s2 h2=> ?_
   obtain⟨a1,a2⟩:=tail1 s1 s2 h1 h h2;obtain⟨t1,t2,t3⟩:=tv1 h;exact c_t a1 (jhm a2 t1 t2 t3 hd hR)
  ·have h:=jac h;obtain⟨a1,a2,a3⟩:=tail2 s1 h1 h;obtain⟨t1,t2,t3⟩:=tv2 h;rw[w64 (n:=(s1.size:Int)-(q-sc)) (by omega)];have b1:decide ((0:Int)≤0∧0≤imax 0 ((s1.size:Int)-(q-sc))∧imax 0 ((s1.size:Int)-(q-sc))≤(s1.size:Int))=true:=jaa ⟨by decide,a1.1,a1.2⟩;exact c_t b1 (jhm a3 t1 t2 t3 hd hR)
def i64B(n:Int):Bool:=decide (-9223372036854775808≤n∧n≤9223372036854775807)
def h63:F→Lk→Nat→(Value→Lk→Nat→Prop)→Prop:=fun args m n K=>match args with
 | [.pointer (some ⟨a,0,some 0⟩),.int .i64 x,.int .i64 q]=>match m a with
  | some ⟨[.string s,.bool nb,.int .i64 w,.int .i64 d,.int .i64 sc,.bool sg,.slice (some ⟨y,0,some 1⟩) k cap,.int .u8 dr,.int .i64 f,.bool cr,.int .u8 fl,.int .i64 fm],132,own⟩=>
   match cnd (i64B x&& (decide (0≤q∧q≤9) && (decide (0≤sc∧sc≤9) &&decide (0≤d∧d≤9))))with
   | true=>K (cutV x q sc d sg) m n
   | false=>False
  | _=>False
 | _=>False
theorem h63_ok:jcw Tryz.prog 282 h63:=by
 refine jh9 ok_G31 hmix (.m Tryz.func282) jaj fun args m n K h=> ?_
 unfold h63 at h;split at h
 case h_2=>exact h.elim
 rename_i a x q;split at h
 case h_2=>exact h.elim
 rename_i s nb w d sc sg y k cap dr f cr fl fm own hm;split at h
 case h_2=>exact h.elim
 rename_i hc;simp only[cnd,i64B,jaf,jae]at hc;obtain⟨h1,h2,h3,h4⟩:=hc;refine⟨[.pointer (some ⟨0,0,some 0⟩),.int .i64 x,.int .i64 q],_,2,rho2 a y,cutV x q sc d sg,sub_F hm,fun ι=>by simp[ren,ren1,rho2],jag,fun v hv j hj=> ?_,rfl,w63 s nb w d sc sg k cap dr f cr fl fm x q h1 h2 h3 h4 (R:=fun v=>v=cutV x q sc d sg) rfl,h⟩;simp at hv;rcases hv with rfl | rfl | rfl
 ·have:j=0:=by simpa[ids]using hj
  omega
 ·simp[ids]at hj
 ·simp[ids]at hj
def G32:Env:=Env.nil.add 124 (sp2 s89)
theorem ok_G32:ja0 Tryz.prog G32:=jak jav ok89
def enOn:J→Bool
 | []=>false
 | r::rs=>bif r==0 || r==1 then r==1 else enOn rs
def enGo(ze:Bool)(fm:Int):J→J→Int→Int
 | [],_,_=> -1
 | r::rs,ds,at_=>bif r==0 then at_ else bif r==1 then(bif ds.headD 0 !=48 then at_ else enGo ze fm rs ds.tail (at_+1))
  else bif r==2 then(bif decide (fm>0) || !ze then at_ else enGo ze fm rs ds at_)else enGo ze fm rs ds (at_+1)
def cn1:J→Int
 | []=>0
 | r::rs=>(bif r==1 then 1 else 0)+cn1 rs
theorem jl8:∀l,0≤cn1 l
 | []=>by simp[cn1]
 | r::rs=>by have:=jl8 rs;rw[cn1];cases r==1<;>simp<;>omega
def V90_0:Int×Int×Int×Bool×Bool×Nat×Nat×Int×Int×Y×Bool×Int×Int×Int×Bool×Nat×Nat×Int×Int×Bool×Int×Int×Y×Bool×Int×Int×Int×F→F:=fun(r2,r3,r4,ze,on,k2,cap2,L,i,s,nb,w,dg,sc,sg,k,cap,dr,f,cr,fl,fm,nu,mi,us,at0,ld,d)=> [.pointer (some ⟨0,0,some 0⟩),I r2,I r3,I r4,B ze,B on,.slice (some ⟨2,0,some 1⟩) k2 cap2,I L,I i]
def B90_0:Int×Int×Int×Bool×Bool×Nat×Nat×Int×Int×Y×Bool×Int×Int×Int×Bool×Nat×Nat×Int×Int×Bool×Int×Int×Y×Bool×Int×Int×Int×F→O:=fun(r2,r3,r4,ze,on,k2,cap2,L,i,s,nb,w,dg,sc,sg,k,cap,dr,f,cr,fl,fm,nu,mi,us,at0,ld,d)=> [some ⟨[.pointer (some ⟨1,0,some 0⟩),.string nu,.bool mi,.int .i64 us,.int .i64 at0,.int .i64 ld],280,false⟩,some ⟨[.string s,.bool nb,.int .i64 w,.int .i64 dg,.int .i64 sc,.bool sg,.slice (some ⟨2,0,some 1⟩) k cap,.int .u8 dr,.int .i64 f,.bool cr,.int .u8 fl,.int .i64 fm],132,false⟩,some ⟨d,221,false⟩]
def S90_0:LSpecA (Int×Int×Int×Bool×Bool×Nat×Nat×Int×Int×Y×Bool×Int×Int×Int×Bool×Nat×Nat×Int×Int×Bool×Int×Int×Y×Bool×Int×Int×Int×F) where
 live:=[0,2,3,4,5,6,23,24,25]
 mid:=[0,1,2]
 n:=100
 ap:=[]
 dec vs bs:=match vs,bs with | [.pointer (some ⟨0,0,some 0⟩),.int .i64 r2,.int .i64 r3,.int .i64 r4,.bool ze,.bool on,.slice (some ⟨2,0,some 1⟩) k2 cap2,.int .i64 L,.int .i64 i],[some ⟨[.pointer (some ⟨1,0,some 0⟩),.string nu,.bool mi,.int .i64 us,.int .i64 at0,.int .i64 ld],280,false⟩,some ⟨[.string s,.bool nb,.int .i64 w,.int .i64 dg,.int .i64 sc,.bool sg,.slice (some ⟨2,0,some 1⟩) k cap,.int .u8 dr,.int .i64 f,.bool cr,.int .u8 fl,.int .i64 fm],132,false⟩,some ⟨d,221,false⟩]=>some (r2,r3,r4,ze,on,k2,cap2,L,i,s,nb,w,dg,sc,sg,k,cap,dr,f,cr,fl,fm,nu,mi,us,at0,ld,d) | _,_=>none
 pre:=fun(r2,r3,r4,ze,on,k2,cap2,L,i,s,nb,w,dg,sc,sg,k,cap,dr,f,cr,fl,fm,nu,mi,us,at0,ld,d)=>jbv d k2 cap2&&decide (0≤i∧i≤k2∧k2≤1000∧L=k2∧on=false)
 fin:=fun(r2,r3,r4,ze,on,k2,cap2,L,i,s,nb,w,dg,sc,sg,k,cap,dr,f,cr,fl,fm,nu,mi,us,at0,ld,d) Z=>∀i',Z (.exit 0) [.pointer (some ⟨0,0,some 0⟩),I r2,I r3,I r4,B ze,B (enOn ((zc d k2).drop i.toNat)),.slice (some ⟨2,0,some 1⟩) k2 cap2,I L,I i'] [some ⟨[.pointer (some ⟨1,0,some 0⟩),.string nu,.bool mi,.int .i64 us,.int .i64 at0,.int .i64 ld],280,false⟩,some ⟨[.string s,.bool nb,.int .i64 w,.int .i64 dg,.int .i64 sc,.bool sg,.slice (some ⟨2,0,some 1⟩) k cap,.int .u8 dr,.int .i64 f,.bool cr,.int .u8 fl,.int .i64 fm],132,false⟩,some ⟨d,221,false⟩]
def f0(a:List (Prod Nat Nat))(b:F):Option Blk:=some (.mk (rlbL a b) 221 false)
def jl(b f l:Bool)(a:Y)(c d e j k m n:Int)(g h i:Nat):Option Blk:=some (.mk [.string a,.bool b,ak c,ak d,ak e,.bool f,dv g 0 h i,bm j,ak k,.bool l,bm m,ak n] 132 false)
def kv(b:Bool)(a:Y)(c d e:Int):Option Blk:=some (.mk [ar 1,.string a,.bool b,ak c,ak d,ak e] 280 false)
theorem r90_0(r2:Int)(r3:Int)(r4:Int)(ze:Bool)(on:Bool)(k2:Nat)(cap2:Nat)(L:Int)(i:Int)(s:Y)(nb:Bool)(w:Int)(dg:Int)(sc:Int)(sg:Bool)(k:Nat)(cap:Nat)(dr:Int)(f:Int)(cr:Bool)(fl:Int)(fm:Int)(nu:Y)(mi:Bool)(us:Int)(at0:Int)(ld:Int)(d:F)(jk:Tmps)(R:Exit→F→O→Prop):(jb6 Tryz.prog G32 noL Tryz.f246.ntmps (jbb Tryz.f246 0) (tl S90_0.live (V90_0 (r2,r3,r4,ze,on,k2,cap2,L,i,s,nb,w,dg,sc,sg,k,cap,dr,f,cr,fl,fm,nu,mi,us,at0,ld,d)) jk) (ml S90_0.mid (B90_0 (r2,r3,r4,ze,on,k2,cap2,L,i,s,nb,w,dg,sc,sg,k,cap,dr,f,cr,fl,fm,nu,mi,us,at0,ld,d))) S90_0.n fun e t' m' _=>S90_0.out R e t' m')=(jg R i L .i64 [jl nb sg cr s w dg sc dr f fl fm 2 k cap,f0 [] d] [] d (ar 0::ak r2::ak r3::ak r4::B ze::B on::dy L i 2 k2 cap2) k2 0 (kv mi nu us at0 ld) (br (c7 i 0 d) true (c7 i 0 d || c7 i 1 d) (bif bw [] d then R (.exit 0) (ar 0::ak r2::ak r3::ak r4::B ze::B (c7 i 1 d)::dy L i 2 k2 cap2) [kv mi nu us at0 ld,jl nb sg cr s w dg sc dr f fl fm 2 k cap,f0 [] d]else False) (cu (bw [] d) R [kv mi nu us at0 ld,jl nb sg cr s w dg sc dr f fl fm 2 k cap,f0 [] d] (ar 0::ak r2::ak r3::ak r4::B ze::B on::dm L i 2 k2 cap2)))):=by kernel_rfl
theorem l90_0:∀t m n K,S90_0.hA t m n K→Ab.Sem Tryz.prog Tryz.f246.ntmps (.loop (jbb Tryz.f246 0)) t m n K:=by
 refine jbu ok_G32 hmix (by kernel_rfl) (jbf _) S90_0 V90_0 B90_0 (fun(r2,r3,r4,ze,on,k2,cap2,L,i,s,nb,w,dg,sc,sg,k,cap,dr,f,cr,fl,fm,nu,mi,us,at0,ld,d)=>(k2-i).toNat) ?_ ?_ ?_
 ·intro vs bs s h;simp only[S90_0]at h;split at h
  all_goals first | (cases h;exact⟨rfl,rfl⟩) | cases h | (split at h<;>first | (rename_i hq;cases h;have hq:=jah hq;subst hq;exact⟨rfl,rfl⟩) | cases h)
 ·exact fun⟨r2,r3,r4,ze,on,k2,cap2,L,i,s,nb,w,dg,sc,sg,k,cap,dr,f,cr,fl,fm,nu,mi,us,at0,ld,d⟩ hp=>by
   simp only[S90_0,jaf]at hp;have hr:=jar.1 hp.1;simp[V90_0,B90_0,S90_0,jaw,jbt,idsL,ids,jao hr.plain]
 ·intro⟨r2,r3,r4,ze,on,k2,cap2,L,i,s,nb,w,dg,sc,sg,k,cap,dr,f,cr,fl,fm,nu,mi,us,at0,ld,d⟩ jk Z hp hf;rw[r90_0];delta c9 ft e7 bw ct dp au jg br cu bp ak d8 dq dv dm ar f0 bm jl kv dy cq c7;simp only[S90_0]at hp hf;simp only[jaf,jae]at hp;obtain⟨hR,hp⟩:=hp;have hr:=jar.1 hR;have hzl:=jbg hr;have e0:0+i.toNat*1=i.toNat:=by omega
  rw[e0];simp only[hr.rlb];have hg:(jas [] d&&true&&true)=true:=by rw[hr.good];rfl
  apply cond_intro<;>intro h
  ·have h:=jab h;obtain⟨a1,a3⟩:=hr.at hp.1 (by omega);rw[a3,enOn]at hf;rw[a1,w64 (n:=i+1) (by omega)];generalize jaq d i.toNat=c at*;refine c_t (jaa (by omega)) (c_t rfl (c_t (by simp) (cond_intro (fun z=>c_t hg ?_) (fun z=>c_t hg ?_))))
   ·rw[z,cond_true]at hf;exact hf i
   ·rw[z,cond_false]at hf;exact⟨(r2,r3,r4,ze,on,k2,cap2,L,i+1,s,nb,w,dg,sc,sg,k,cap,dr,f,cr,fl,fm,nu,mi,us,at0,ld,d),rfl,rfl,by simp only[S90_0,jaf,jae];exact⟨hR,by omega,by omega,by omega,by omega,hp.2.2.2.2⟩,by simp only;omega,hf⟩
  ·have h:=jac h;rw[hr.end (by omega),enOn]at hf;rw[hp.2.2.2.2];exact c_t hg (hf i)
def V90_2:Int×Int×Int×Bool×Nat×Nat×Int×Int×Y×Bool×Int×Int×Int×Bool×Nat×Nat×Int×Int×Bool×Int×Int×Y×Bool×Int×Int×Int×F→F:=fun(r2,aa,kk,ze,k2,cap2,L,i,s,nb,w,dg,sc,sg,k,cap,dr,f,cr,fl,fm,nu,mi,us,at0,ld,d)=> [.pointer (some ⟨0,0,some 0⟩),I r2,I aa,I kk,B ze,.slice (some ⟨2,0,some 1⟩) k2 cap2,I L,I i]
def B90_2:Int×Int×Int×Bool×Nat×Nat×Int×Int×Y×Bool×Int×Int×Int×Bool×Nat×Nat×Int×Int×Bool×Int×Int×Y×Bool×Int×Int×Int×F→O:=fun(r2,aa,kk,ze,k2,cap2,L,i,s,nb,w,dg,sc,sg,k,cap,dr,f,cr,fl,fm,nu,mi,us,at0,ld,d)=> [some ⟨[.pointer (some ⟨1,0,some 0⟩),.string nu,.bool mi,.int .i64 us,.int .i64 at0,.int .i64 ld],280,false⟩,some ⟨[.string s,.bool nb,.int .i64 w,.int .i64 dg,.int .i64 sc,.bool sg,.slice (some ⟨2,0,some 1⟩) k cap,.int .u8 dr,.int .i64 f,.bool cr,.int .u8 fl,.int .i64 fm],132,false⟩,some ⟨d,221,false⟩]
def S90_2:LSpecA (Int×Int×Int×Bool×Nat×Nat×Int×Int×Y×Bool×Int×Int×Int×Bool×Nat×Nat×Int×Int×Bool×Int×Int×Y×Bool×Int×Int×Int×F) where
 live:=[0,2,3,4,5,46,47,48]
 mid:=[0,1,2]
 n:=140
 ap:=[]
 dec vs bs:=match vs,bs with | [.pointer (some ⟨0,0,some 0⟩),.int .i64 r2,.int .i64 aa,.int .i64 kk,.bool ze,.slice (some ⟨2,0,some 1⟩) k2 cap2,.int .i64 L,.int .i64 i],[some ⟨[.pointer (some ⟨1,0,some 0⟩),.string nu,.bool mi,.int .i64 us,.int .i64 at0,.int .i64 ld],280,false⟩,some ⟨[.string s,.bool nb,.int .i64 w,.int .i64 dg,.int .i64 sc,.bool sg,.slice (some ⟨2,0,some 1⟩) k cap,.int .u8 dr,.int .i64 f,.bool cr,.int .u8 fl,.int .i64 fm],132,false⟩,some ⟨d,221,false⟩]=>some (r2,aa,kk,ze,k2,cap2,L,i,s,nb,w,dg,sc,sg,k,cap,dr,f,cr,fl,fm,nu,mi,us,at0,ld,d) | _,_=>none
 pre:=fun(r2,aa,kk,ze,k2,cap2,L,i,s,nb,w,dg,sc,sg,k,cap,dr,f,cr,fl,fm,nu,mi,us,at0,ld,d)=>jbv d k2 cap2&&decide (0≤i∧i≤k2∧k2≤1000∧L=k2∧0≤kk∧kk≤i∧0≤aa∧aa≤i∧kk+cn1 ((zc d k2).drop i.toNat)≤nu.size)
 fin:=fun(r2,aa,kk,ze,k2,cap2,L,i,s,nb,w,dg,sc,sg,k,cap,dr,f,cr,fl,fm,nu,mi,us,at0,ld,d) Z=>(∀a' k' i',enGo ze fm ((zc d k2).drop i.toNat) ((bz nu).drop kk.toNat) aa=a'→0≤a'→Z .ret [.pointer (some ⟨0,0,some 0⟩),I a',I a',I k',B ze,.slice (some ⟨2,0,some 1⟩) k2 cap2,I L,I i'] [some ⟨[.pointer (some ⟨1,0,some 0⟩),.string nu,.bool mi,.int .i64 us,.int .i64 at0,.int .i64 ld],280,false⟩,some ⟨[.string s,.bool nb,.int .i64 w,.int .i64 dg,.int .i64 sc,.bool sg,.slice (some ⟨2,0,some 1⟩) k cap,.int .u8 dr,.int .i64 f,.bool cr,.int .u8 fl,.int .i64 fm],132,false⟩,some ⟨d,221,false⟩])∧(enGo ze fm ((zc d k2).drop i.toNat) ((bz nu).drop kk.toNat) aa= -1→ ∀a' k' i',Z (.exit 2) [.pointer (some ⟨0,0,some 0⟩),I r2,I a',I k',B ze,.slice (some ⟨2,0,some 1⟩) k2 cap2,I L,I i'] [some ⟨[.pointer (some ⟨1,0,some 0⟩),.string nu,.bool mi,.int .i64 us,.int .i64 at0,.int .i64 ld],280,false⟩,some ⟨[.string s,.bool nb,.int .i64 w,.int .i64 dg,.int .i64 sc,.bool sg,.slice (some ⟨2,0,some 1⟩) k cap,.int .u8 dr,.int .i64 f,.bool cr,.int .u8 fl,.int .i64 fm],132,false⟩,some ⟨d,221,false⟩])
def bv(a:Y)(b:Int):Int:=jai a b.toNat
theorem r90_2(r2:Int)(aa:Int)(kk:Int)(ze:Bool)(k2:Nat)(cap2:Nat)(L:Int)(i:Int)(s:Y)(nb:Bool)(w:Int)(dg:Int)(sc:Int)(sg:Bool)(k:Nat)(cap:Nat)(dr:Int)(f:Int)(cr:Bool)(fl:Int)(fm:Int)(nu:Y)(mi:Bool)(us:Int)(at0:Int)(ld:Int)(d:F)(jk:Tmps)(R:Exit→F→O→Prop):(jb6 Tryz.prog G32 noL Tryz.f246.ntmps (jbb Tryz.f246 2) (tl S90_2.live (V90_2 (r2,aa,kk,ze,k2,cap2,L,i,s,nb,w,dg,sc,sg,k,cap,dr,f,cr,fl,fm,nu,mi,us,at0,ld,d)) jk) (ml S90_2.mid (B90_2 (r2,aa,kk,ze,k2,cap2,L,i,s,nb,w,dg,sc,sg,k,cap,dr,f,cr,fl,fm,nu,mi,us,at0,ld,d))) S90_2.n fun e t' m' _=>S90_2.out R e t' m')=(jg R i L .i64 [jl nb sg cr s w dg sc dr f fl fm 2 k cap,f0 [] d] [] d (ar 0::ak r2::ak aa::kh ze kk L i 2 k2 cap2) k2 2 (kv mi nu us at0 ld) (bif c7 i 0 d then bif bw [] d then R .ret (ar 0::ak aa::ak aa::kh ze kk L i 2 k2 cap2) [kv mi nu us at0 ld,jl nb sg cr s w dg sc dr f fl fm 2 k cap,f0 [] d]else False else bif c7 i 1 d then bif dp kk nu.size then kg (bv nu kk !=48) R [jl nb sg cr s w dg sc dr f fl fm 2 k cap,f0 [] d] [] d (ak aa::kh ze kk L i 2 k2 cap2) (bp (aa+1)::bp (kk+1)::B ze::dm L i 2 k2 cap2) (kv mi nu us at0 ld) (ar 0) (ak aa) (ar 0) (ak r2)else False else bif c7 i 2 d then bif dw fm 0 || true then kg (dw fm 0 || !ze) R [jl nb sg cr s w dg sc dr f fl fm 2 k cap,f0 [] d] [] d (ak aa::kh ze kk L i 2 k2 cap2) (ak aa::ak kk::B ze::dm L i 2 k2 cap2) (kv mi nu us at0 ld) (ar 0) (ak aa) (ar 0) (ak r2)else False else cu (bw [] d) R [kv mi nu us at0 ld,jl nb sg cr s w dg sc dr f fl fm 2 k cap,f0 [] d] (ar 0::ak r2::bp (aa+1)::ak kk::B ze::dm L i 2 k2 cap2))):=by kernel_rfl
theorem l90_2:∀t m n K,S90_2.hA t m n K→Ab.Sem Tryz.prog Tryz.f246.ntmps (.loop (jbb Tryz.f246 2)) t m n K:=by
 refine jbu ok_G32 hmix (by kernel_rfl) (jbf _) S90_2 V90_2 B90_2 (fun(r2,aa,kk,ze,k2,cap2,L,i,s,nb,w,dg,sc,sg,k,cap,dr,f,cr,fl,fm,nu,mi,us,at0,ld,d)=>(k2-i).toNat) ?_ ?_ ?_
 ·intro vs bs s h;simp only[S90_2]at h;split at h
  all_goals first | (cases h;exact⟨rfl,rfl⟩) | cases h | (split at h<;>first | (rename_i hq;cases h;have hq:=jah hq;subst hq;exact⟨rfl,rfl⟩) | cases h)
 ·exact fun⟨r2,aa,kk,ze,k2,cap2,L,i,s,nb,w,dg,sc,sg,k,cap,dr,f,cr,fl,fm,nu,mi,us,at0,ld,d⟩ hp=>by
   simp only[S90_2,jaf]at hp;have hr:=jar.1 hp.1;simp[V90_2,B90_2,S90_2,jaw,jbt,idsL,ids,jao hr.plain]
 ·intro⟨r2,aa,kk,ze,k2,cap2,L,i,s,nb,w,dg,sc,sg,k,cap,dr,f,cr,fl,fm,nu,mi,us,at0,ld,d⟩ jk Z hp hf;rw[r90_2];delta c9 ft e7 bw ct dp au jg cu bp ak d8 dq dv dm ar f0 bm jl kv kg dy kh dw cq c7 bv;simp only[S90_2]at hp hf;simp only[jaf,jae]at hp;obtain⟨hR,hp⟩:=hp;have hr:=jar.1 hR;have hzl:=jbg hr;have e0:0+i.toNat*1=i.toNat:=by omega
  rw[e0];simp only[hr.rlb];have hg:(jas [] d&&true&&true)=true:=by rw[hr.good];rfl
  apply cond_intro<;>intro h
  ·have h:=jab h;obtain⟨a1,a3⟩:=hr.at hp.1 (by omega);rw[a3]at hp hf;rw[enGo]at hf;rw[cn1]at hp;rw[a1,w64 (n:=i+1) (by omega)];have hc:=jl8 ((zc d k2).drop (i+1).toNat);generalize jaq d i.toNat=c at*;refine c_t (jaa (by omega)) (c_t rfl (cond_intro (fun z=>c_t hg ?_) (fun z=> ?_)))
   ·rw[z,cond_true]at hf;exact hf.1 aa kk i rfl (by omega)
   ·rw[z,cond_false]at hf;apply cond_intro<;>intro z
    ·rw[z,cond_true]at hf hp;obtain⟨hp1,hp2,hp3,hp4,hp5,hp6,hp7,hp8⟩:=hp;rw[jd2 hp5 (by omega),List.headD_cons,List.tail_cons]at hf;refine c_t (jaa (by omega)) (cond_intro (fun z=>c_t hg ?_) (fun z=>c_t hg ?_))
     ·rw[z,cond_true]at hf;exact hf.1 aa kk i rfl (by omega)
     ·rw[z,cond_false]at hf;rw[w64 (n:=aa+1) (by omega),w64 (n:=kk+1) (by omega)];exact⟨(r2,aa+1,kk+1,ze,k2,cap2,L,i+1,s,nb,w,dg,sc,sg,k,cap,dr,f,cr,fl,fm,nu,mi,us,at0,ld,d),rfl,rfl,by simp only[S90_2,jaf,jae];exact⟨hR,by omega⟩,by simp only;omega,hf⟩
    ·rw[z,cond_false]at hf hp;refine cond_intro (fun z=>c_t (by simp) (cond_intro (fun z2=>c_t hg ?_) (fun z2=>c_t hg ?_))) (fun z=>c_t hg ?_)
     ·rw[z,cond_true,z2,cond_true]at hf;exact hf.1 aa kk i rfl (by omega)
     ·rw[z,cond_true,z2,cond_false]at hf;exact⟨(r2,aa,kk,ze,k2,cap2,L,i+1,s,nb,w,dg,sc,sg,k,cap,dr,f,cr,fl,fm,nu,mi,us,at0,ld,d),rfl,rfl,by simp only[S90_2,jaf,jae];exact⟨hR,by omega⟩,by simp only;omega,hf⟩
     ·rw[z,cond_false]at hf;rw[w64 (n:=aa+1) (by omega)];exact⟨(r2,aa+1,kk,ze,k2,cap2,L,i+1,s,nb,w,dg,sc,sg,k,cap,dr,f,cr,fl,fm,nu,mi,us,at0,ld,d),rfl,rfl,by simp only[S90_2,jaf,jae];exact⟨hR,by omega⟩,by simp only;omega,hf⟩
  ·have h:=jac h;rw[hr.end (by omega),enGo]at hf;exact c_t hg (hf.2 rfl aa kk i)
def pnL(x:Nat)(nu:Y)(mi:Bool)(us at0 ld:Int):F:=[.pointer (some ⟨x,0,some 0⟩),.string nu,.bool mi,.int .i64 us,.int .i64 at0,.int .i64 ld]
def vwF3(p c d:F):Lk:=fun j=>match Nat.beq j 0 with | true=>some ⟨p,280,false⟩ | false=>match Nat.beq j 1 with | true=>some ⟨c,132,false⟩ | false=>match Nat.beq j 2 with | true=>some ⟨d,221,false⟩ | false=>none
def rho3(a x y:Nat):Nat→Nat:=fun j=>match j with | 0=>a | 1=>x | _=>y
theorem sub_F3{m:Lk}{a x y k cap:Nat}{nu:Y}{mi:Bool}{us at0 ld:Int}{s:Y}{nb:Bool}{w d sc:Int}{sg:Bool}{dr f:Int}{cr:Bool}{fl fm:Int}{own own2 own3:Bool}{r:F}(hr:jay r=true)
  (hp:m a=some ⟨pnL x nu mi us at0 ld,280,own⟩) (ha:m x=some ⟨fmL s nb w d sc sg y k cap dr f cr fl fm,132,own2⟩) (hx:m y=some ⟨r,221,own3⟩):
  SubM m (rho3 a x y) (vwF3 (pnL 1 nu mi us at0 ld) (fmL s nb w d sc sg 2 k cap dr f cr fl fm) r) 3:=by
 have hget:∀j b,vwF3 (pnL 1 nu mi us at0 ld) (fmL s nb w d sc sg 2 k cap dr f cr fl fm) r j=some b→(j=0∧b=⟨pnL 1 nu mi us at0 ld,280,false⟩)∨(j=1∧b=⟨fmL s nb w d sc sg 2 k cap dr f cr fl fm,132,false⟩)∨(j=2∧b=⟨r,221,false⟩):=fun j b h=>by
  simp only[vwF3]at h;split at h
  ·rename_i h0;cases h;exact .inl ⟨jah h0,rfl⟩
  ·split at h
   ·rename_i h0;cases h;exact .inr (.inl ⟨jah h0,rfl⟩)
   ·split at h
    ·rename_i h0;cases h;exact .inr (.inr ⟨jah h0,rfl⟩)
    ·cases h
 refine⟨fun j b h=> ?_,fun j b h=> ?_⟩
 ·rcases hget j b h with⟨rfl,rfl⟩ | ⟨rfl,rfl⟩ | ⟨rfl,rfl⟩
  ·refine⟨by omega,fun i hi=> ?_⟩;have:i=1:=by simpa[pnL,idsL,ids]using hi
   omega
  ·refine⟨by omega,fun i hi=> ?_⟩;have:i=2:=by simpa[fmL,idsL,ids]using hi
   omega
  ·exact⟨by omega,fun i hi=>by rw[jao hr]at hi;cases hi⟩
 ·rcases hget j b h with⟨rfl,rfl⟩ | ⟨rfl,rfl⟩ | ⟨rfl,rfl⟩
  ·refine⟨rfl,⟨pnL x nu mi us at0 ld,280,own⟩,?_,fun ι=> ?_⟩
   ·show noIt (m a)=_;rw[hp];simp only[noIt];have:(own&&Nat.beq 280 itTy)=false:=by cases own<;>rfl
    rw[this]
   ·simp[pnL,ren,ren1,rho3]
  ·refine⟨rfl,⟨fmL s nb w d sc sg y k cap dr f cr fl fm,132,own2⟩,?_,fun ι=> ?_⟩
   ·show noIt (m x)=_;rw[ha];simp only[noIt];have:(own2&&Nat.beq 132 itTy)=false:=by cases own2<;>rfl
    rw[this]
   ·simp[fmL,ren,ren1,rho3]
  ·refine⟨rfl,⟨r,221,own3⟩,?_,fun ι=>renMap_congr fun k hk=>by rw[jao hr]at hk;cases hk⟩;show noIt (m y)=_;rw[hx];simp only[noIt];have:(own3&&Nat.beq 221 itTy)=false:=by cases own3<;>rfl
   rw[this]
theorem lok90:LOKf Tryz.prog (twoL 0 S90_0.hA 2 S90_2.hA) Tryz.f246:=jgb (by kernel_rfl) (by kernel_rfl) l90_0 l90_2
def enV(nu:J)(fm:Int)(ro:J):Int:=bif enOn ro then enGo (jap nu [48]).isEmpty fm ro nu 0 else 0
def kw(a:Bool)(c:Prop)(b:Type):Prop:=bif a then b→c else False
def kx(a:F)(b:Nat):J:=(zc (rlbL [] a) b).drop (Int.toNat 0)
theorem v90(s:Y)(nb:Bool)(w:Int)(dg:Int)(sc:Int)(sg:Bool)(k:Nat)(cap:Nat)(dr:Int)(f:Int)(cr:Bool)(fl:Int)(fm:Int)(nu:Y)(mi:Bool)(us:Int)(at0:Int)(ld:Int)(d:F)(R:Value→Prop):(jaz Tryz.prog G32 (twoL 0 S90_0.hA 2 S90_2.hA) Tryz.f246 [.pointer (some ⟨0,0,some 0⟩)] (vwF3 (pnL 1 nu mi us at0 ld) (fmL s nb w dg sc sg 2 k cap dr f cr fl fm) d) 3 (fun v _ _=>R v))=(fw (ic nu) (ir [] 48) (bw [] d&&j2 d 100) (kw (S90_0.toLSpec.pre ((0:Int),((0:Int),((0:Int),(ig nu cv,(false,(k,(cap,(natO k,((0:Int),(s,(nb,(w,(dg,(sc,(sg,(k,(cap,(dr,(f,(cr,(fl,(fm,(nu,(mi,(us,(at0,(ld,rlbL [] d)))))))))))))))))))))))))))) (bif j2 d 100 then Tmps→(bif !enOn (kx d k)then R (ak 0)else bif bw [] (rlbL [] d) && (jaw 140 (j1 d) &&true)then bif S90_2.toLSpec.pre ((0:Int),((0:Int),((0:Int),(ig nu cv,(k,(cap,(natO k,((0:Int),(s,(nb,(w,(dg,(sc,(sg,(k,(cap,(dr,(f,(cr,(fl,(fm,(nu,(mi,(us,(at0,(ld,j1 d))))))))))))))))))))))))))then(∀a:Int,Int→Int→enGo (ig nu cv) fm (kx (rlbL [] d) k) (fk nu) 0=a→0≤a→gy (j1 d) 140 (R (ak a)))∧(enGo (ig nu cv) fm (kx (rlbL [] d) k) (fk nu) 0= -(1:Int)→Int→Int→Int→gy (j1 d) 140 (R (I (-1))))else False else False)else False) Int) False):=by kernel_rfl
theorem w90(s:Y)(nb:Bool)(w:Int)(dg:Int)(sc:Int)(sg:Bool)(k:Nat)(cap:Nat)(dr:Int)(f:Int)(cr:Bool)(fl:Int)(fm:Int)(nu:Y)(mi:Bool)(us:Int)(at0:Int)(ld:Int)(d:F)(hR:jbv d k cap=true)(hk:k≤1000)(hn:nu.size≤1000)(hc:cn1 (zc d k)≤nu.size){R:Value→Prop}(hr:R (.int .i64 (enV (bz nu) fm (zc d k)))):
  jea Tryz.prog G32 (twoL 0 S90_0.hA 2 S90_2.hA) Tryz.f246 [.pointer (some ⟨0,0,some 0⟩)] (vwF3 (pnL 1 nu mi us at0 ld) (fmL s nb w dg sc sg 2 k cap dr f cr fl fm) d) 3 (fun v _ _=>R v):=by
 rw[jea,v90];delta fw kw gy j1 fk kx du am ig cv ak bw j2 ic ir;have h:=jar.1 hR;have k1:bz ⟨#[48]⟩=[48]:=rfl
 have e1:(ByteArray.toList (szO (jap (bz nu) (bz (ByteArray.mk #[48]))))==ByteArray.toList (ByteArray.mk #[]))=(jap (bz nu) [48]).isEmpty:=by
  rw[jcl,jgg,je1 (trim_isB (jdb nu)),k1]
 have z0:Int.toNat 0=0:=rfl;simp only[h.rlb,e1,z0,List.drop_zero];have hg:∀n,(jas [] d&&true&&true&& (jaw n d&&true))=true:=fun n=>by rw[h.good];simp[jaw,idsL,jao h.plain]
 have hi:∀n,(jaw n d&&true)=true:=fun n=>by simp[jaw,idsL,jao h.plain]
 have c1:(decide (ByteArray.size (ByteArray.mk #[48])≤1000) &&asc (bz (ByteArray.mk #[48])))=true:=by kernel_rfl
 have c2:(decide (nu.size≤1000) && (decide (ByteArray.size (ByteArray.mk #[48])≤1000) &&asc (bz (ByteArray.mk #[48]))))=true:=by rw[c1,jaa hn];rfl
 refine c_t c2 (c_t (hg _) (c_t ?_ fun i'=>c_t (hi _) fun _=>cond_intro (fun ho=> ?_) (fun ho=>c_t (hg _) (c_t ?_ ⟨fun a' k' i' ha h0=>c_t (hi _) fun _=> ?_,fun ha a' k' i'=>c_t (hi _) fun _=> ?_⟩))))
 ·simp only[S90_0,jaf,jae,jb1];exact⟨hR,by omega,by omega,by omega,trivial,trivial⟩
 ·rw[Bool.not_eq_true']at ho;rw[enV,ho]at hr;exact hr
 ·simp only[S90_2,jaf,jae,jb1,z0,List.drop_zero];exact⟨hR,by omega,by omega,by omega,trivial,by omega,by omega,by omega,by omega,by omega⟩
 ·rw[Bool.not_eq_false']at ho;rw[enV,ho,cond_true,ha]at hr;exact hr
 ·rw[Bool.not_eq_false']at ho;rw[enV,ho,cond_true,ha]at hr;exact hr
def h90:F→Lk→Nat→(Value→Lk→Nat→Prop)→Prop:=fun args m n K=>match args with
 | [.pointer (some ⟨a,0,some 0⟩)]=>match m a with
  | some ⟨[.pointer (some ⟨x,0,some 0⟩),.string nu,.bool mi,.int .i64 us,.int .i64 at0,.int .i64 ld],280,own⟩=>match m x with
   | some ⟨[.string s,.bool nb,.int .i64 w,.int .i64 dg,.int .i64 sc,.bool sg,.slice (some ⟨y,0,some 1⟩) k cap,.int .u8 dr,.int .i64 f,.bool cr,.int .u8 fl,.int .i64 fm],132,own2⟩=>match m y with
    | some ⟨d,221,own3⟩=>
     match cnd (jbv d k cap&&decide (k≤1000∧nu.size≤1000∧cn1 (zc d k)≤nu.size))with
     | true=>K (.int .i64 (enV (bz nu) fm (zc d k))) m n
     | false=>False
    | _=>False
   | _=>False
  | _=>False
 | _=>False
theorem h90_ok:jcw Tryz.prog 246 h90:=by
 refine jh9 ok_G32 hmix (.m Tryz.func246) lok90 fun args m n K h=> ?_
 unfold h90 at h;split at h
 case h_2=>exact h.elim
 rename_i a;split at h
 case h_2=>exact h.elim
 rename_i x nu mi us at0 ld own hm;split at h
 case h_2=>exact h.elim
 rename_i s nb w dg sc sg y k cap dr f cr fl fm own2 hx;split at h
 case h_2=>exact h.elim
 rename_i d own3 hy;split at h
 case h_2=>exact h.elim
 rename_i hc;simp only[cnd,jaf,jae]at hc;obtain⟨h1,h2,h3,h4⟩:=hc;refine⟨[.pointer (some ⟨0,0,some 0⟩)],_,3,rho3 a x y,.int .i64 (enV (bz nu) fm (zc d k)),sub_F3 (jar.1 h1).plain hm hx hy,fun ι=>by simp[ren,ren1,rho3],jag,fun v hv j hj=> ?_,rfl,w90 s nb w dg sc sg k cap dr f cr fl fm nu mi us at0 ld d h1 h2 h3 h4 (R:=fun v=>v= .int .i64 (enV (bz nu) fm (zc d k))) rfl,h⟩;simp at hv;subst hv;have:j=0:=by simpa[ids]using hj
 omega
end Go.Px
end
noncomputable section
set_option maxHeartbeats 3200000
namespace Go.Px
open Go Go.Ab Go.Proofs Go.Shelf
def G33:Env:=Env.nil
def G34:Env:=(Env.nil.add 297 (sp2 s26)).addG 296 (inlQ Tryz.prog G33 noL Tryz.f296)
def G35:Env:=((((((Env.nil.add 114 (sp2 s78)).addG 246 h90).addG 247 (inlQ Tryz.prog G34 noL Tryz.f247)).addG 248 (inlQ Tryz.prog G34 noL Tryz.f248)).addG 249 (inlQ Tryz.prog G34 noL Tryz.f249)).addG 250 (inlQ Tryz.prog G34 noL Tryz.f250)).addG 251 (inlQ Tryz.prog G34 noL Tryz.f251)
theorem fn91:Fn1 Tryz.prog 247 Tryz.f247:= .m Tryz.func247
theorem fn92:Fn1 Tryz.prog 248 Tryz.f248:= .m Tryz.func248
theorem fn93:Fn1 Tryz.prog 249 Tryz.f249:= .m Tryz.func249
theorem fn94:Fn1 Tryz.prog 250 Tryz.f250:= .m Tryz.func250
theorem fn95:Fn1 Tryz.prog 251 Tryz.f251:= .m Tryz.func251
theorem fn64:Fn1 Tryz.prog 184 Tryz.f184:= .m Tryz.func184
theorem ok_G33:ja0 Tryz.prog G33:=jav
theorem ok_G34:ja0 Tryz.prog G34:=jau (jak jav ok26) (jbd ok_G33 hmix (.m Tryz.func296) jaj)
theorem ok_G35:ja0 Tryz.prog G35:=jau (jau (jau (jau (jau (jau (jak jav ok78) h90_ok) (jbd ok_G34 hmix fn91 jaj)) (jbd ok_G34 hmix fn92 jaj)) (jbd ok_G34 hmix fn93 jaj)) (jbd ok_G34 hmix fn94 jaj)) (jbd ok_G34 hmix fn95 jaj)
def wrC(f:Int)(cr:Bool)(n:Int)(mi:Bool)(ld fl:Int)(r c d i a:Int):Int:=
 bif i==f then fl else bif cr&&decide (i≥n-2)then(bif !mi then 32 else c)
 else bif decide (r=0)then fmZ c d mi else bif decide (r=1)then(bif decide (a<ld)then fl else d)
 else bif decide (r=3)then(bif c==66 then 32 else bif decide (a<ld)then fl else c)
 else bif decide (r=4)then(bif c==83&&mi then 45 else bif c==83 then 43 else bif (c==43)==mi then 32 else c)else c
def wrT(f:Int)(cr:Bool)(n:Int)(r i:Int):Bool:= !(i==f) && (!(cr&&decide (i≥n-2)) && (decide (r=0) || decide (r=1)))
def wrGo(f:Int)(cr:Bool)(n:Int)(mi:Bool)(ld fl:Int):J→J→J→Int→Int→J
 | [],_,_,_,_=> []
 | r::rs,cs,ds,i,a=>bif r==2 then wrGo f cr n mi ld fl rs cs.tail ds (i+1) a
  else wrC f cr n mi ld fl r (cs.headD 0) (ds.headD 0) i a::wrGo f cr n mi ld fl rs cs.tail (bif wrT f cr n r i then ds.tail else ds) (i+1) (a+1)
def cdg:J→Int
 | []=>0
 | r::rs=>(bif decide (r=0) || decide (r=1)then 1 else 0)+cdg rs
def roOK(l:J):Bool:=l.all fun r=>decide (0≤r∧r<6)
def jnr:F→Bool
 | [.func (.func a) ⟨[]⟩ ⟨[]⟩,.func (.func b) ⟨[]⟩ ⟨[]⟩,.nilFunc,.func (.func c) ⟨[]⟩ ⟨[]⟩,.func (.func d) ⟨[]⟩ ⟨[]⟩,.func (.func e) ⟨[]⟩ ⟨[]⟩]=>Nat.beq a 247&& (Nat.beq b 248&& (Nat.beq c 249&& (Nat.beq d 250&&Nat.beq e 251)))
 | _=>false
def how:F:=[.func (.func 247) ⟨[]⟩ ⟨[]⟩,.func (.func 248) ⟨[]⟩ ⟨[]⟩,.nilFunc,.func (.func 249) ⟨[]⟩ ⟨[]⟩,.func (.func 250) ⟨[]⟩ ⟨[]⟩,.func (.func 251) ⟨[]⟩ ⟨[]⟩]
theorem isHow_eq{l:F}(h:jnr l=true):l=how:=by
 unfold jnr at h;split at h
 ·simp only[jaf,Nat.beq_eq]at h;obtain⟨rfl,rfl,rfl,rfl,rfl⟩:=h;rfl
 ·cases h
theorem jnf:∀l,0≤cdg l
 | []=>by simp[cdg]
 | r::rs=>by have:=jnf rs;rw[cdg];cases decide (r=0) || decide (r=1) <;>simp<;>omega
theorem cdg_c{r:Int}{rs:J}:cdg rs≤cdg (r::rs):=by rw[cdg];cases decide (r=0) || decide (r=1) <;>simp<;>omega
theorem jnw{r:Int}{rs:J}(h:r=0∨r=1):cdg (r::rs)=1+cdg rs:=by rw[cdg];rcases h with rfl | rfl<;>rfl
theorem roOK_at{l:J}(h:roOK l=true){j:Nat}{r:Int}{rs:J}(hj:l.drop j=r::rs):0≤r∧r<6:=by
 simp only[roOK,List.all_eq_true,jae]at h;exact h r (List.drop_subset j l (by rw[hj];exact List.mem_cons_self))
theorem jl7{s:Y}(h:dgL (bz s)=true){j:Int}(h0:0≤j)(hj:j<s.size):48≤jai s j.toNat∧jai s j.toNat≤57:=by
 simp only[dgL,List.all_eq_true,jae]at h;exact h _ (List.drop_subset j.toNat (bz s) (by rw[jd2 h0 hj];exact List.mem_cons_self))
theorem fm_a{c d:Int}{m:Bool}(h:(c==89&&d==48)=true):fmZ c d m=32:=by
 have:c=89∧d=48:=by simpa using h
 rw[fmZ,if_pos this]
theorem fm_b{c d:Int}{m:Bool}(h:(c==89&&d==48)=false)(q:(c==84 || bif c==73 then !m || c==82&&m else c==82&&m)=true):fmZ c d m=puZ (d-48) m:=by
 have h1:¬(c=89∧d=48):=fun e=>by rw[e.1,e.2]at h;cases h
 rw[fmZ,if_neg h1,if_pos];cases m<;>by_cases a:c=84<;>by_cases b:c=73<;>by_cases e:c=82<;>simp_all
theorem fm_c{c d:Int}{m:Bool}(h:(c==89&&d==48)=false)(q:(c==84 || bif c==73 then !m || c==82&&m else c==82&&m)=false):fmZ c d m=d:=by
 have h1:¬(c=89∧d=48):=fun e=>by rw[e.1,e.2]at h;cases h
 rw[fmZ,if_neg h1,if_neg];cases m<;>by_cases a:c=84<;>by_cases b:c=73<;>by_cases e:c=82<;>simp_all
def V64_0:Bool×Y×Int×Rw×Nat×Nat×Int×Int×Y×Bool×Int×Int×Int×Bool×Nat×Nat×Int×Int×Bool×Int×Int×Y×Bool×Int×Int×Int×F→F:=fun(m2,r6,r7,o,k2,cap2,L,i,s,nb,w,dg,sc,sg,k,cap,dr,f,cr,fl,fm,nu,mi,us,at0,ld,d)=> [.pointer (some ⟨0,0,some 0⟩),.bool m2,.string r6,.int .i64 r7,.pointer (some ⟨8,0,some 0⟩),.pointer (some ⟨22,0,some 0⟩),o.v 200,.slice (some ⟨1,0,some 1⟩) k2 cap2,.int .i64 L,.int .i64 i]
def B64_0:Bool×Y×Int×Rw×Nat×Nat×Int×Int×Y×Bool×Int×Int×Int×Bool×Nat×Nat×Int×Int×Bool×Int×Int×Y×Bool×Int×Int×Int×F→O:=fun(m2,r6,r7,o,k2,cap2,L,i,s,nb,w,dg,sc,sg,k,cap,dr,f,cr,fl,fm,nu,mi,us,at0,ld,d)=> [some ⟨[.string s,.bool nb,.int .i64 w,.int .i64 dg,.int .i64 sc,.bool sg,.slice (some ⟨1,0,some 1⟩) k cap,.int .u8 dr,.int .i64 f,.bool cr,.int .u8 fl,.int .i64 fm],132,false⟩,some ⟨d,221,false⟩,some ⟨[.pointer (some ⟨0,0,some 0⟩),.string nu,.bool mi,.int .i64 us,.int .i64 at0,.int .i64 ld],280,true⟩,some ⟨how,283,true⟩,o.b]
def S64_0:LSpecA (Bool×Y×Int×Rw×Nat×Nat×Int×Int×Y×Bool×Int×Int×Int×Bool×Nat×Nat×Int×Int×Bool×Int×Int×Y×Bool×Int×Int×Int×F) where
 live:=[0,2,6,7,8,9,10,49,50,51]
 mid:=[0,1,8,22,200]
 n:=210
 ap:=[(.tmp 10,200)]
 dec vs bs:=match vs,bs with | [.pointer (some ⟨0,0,some 0⟩),.bool m2,.string r6,.int .i64 r7,.pointer (some ⟨8,0,some 0⟩),.pointer (some ⟨22,0,some 0⟩),.slice none 0 0,.slice (some ⟨1,0,some 1⟩) k2 cap2,.int .i64 L,.int .i64 i],[some ⟨[.string s,.bool nb,.int .i64 w,.int .i64 dg,.int .i64 sc,.bool sg,.slice (some ⟨1,0,some 1⟩) k cap,.int .u8 dr,.int .i64 f,.bool cr,.int .u8 fl,.int .i64 fm],132,false⟩,some ⟨d,221,false⟩,some ⟨[.pointer (some ⟨0,0,some 0⟩),.string nu,.bool mi,.int .i64 us,.int .i64 at0,.int .i64 ld],280,true⟩,some ⟨hw,283,true⟩,none]=>(match jnr hw with | true=>some (m2,r6,r7,.nil,k2,cap2,L,i,s,nb,w,dg,sc,sg,k,cap,dr,f,cr,fl,fm,nu,mi,us,at0,ld,d) | false=>none) | [.pointer (some ⟨0,0,some 0⟩),.bool m2,.string r6,.int .i64 r7,.pointer (some ⟨8,0,some 0⟩),.pointer (some ⟨22,0,some 0⟩),.slice (some ⟨200,0,some 1⟩) om oc,.slice (some ⟨1,0,some 1⟩) k2 cap2,.int .i64 L,.int .i64 i],[some ⟨[.string s,.bool nb,.int .i64 w,.int .i64 dg,.int .i64 sc,.bool sg,.slice (some ⟨1,0,some 1⟩) k cap,.int .u8 dr,.int .i64 f,.bool cr,.int .u8 fl,.int .i64 fm],132,false⟩,some ⟨d,221,false⟩,some ⟨[.pointer (some ⟨0,0,some 0⟩),.string nu,.bool mi,.int .i64 us,.int .i64 at0,.int .i64 ld],280,true⟩,some ⟨hw,283,true⟩,some ⟨od,5,true⟩]=>(match jnr hw with | true=>some (m2,r6,r7,.own od om oc,k2,cap2,L,i,s,nb,w,dg,sc,sg,k,cap,dr,f,cr,fl,fm,nu,mi,us,at0,ld,d) | false=>none) | _,_=>none
 pre:=fun(m2,r6,r7,o,k2,cap2,L,i,s,nb,w,dg,sc,sg,k,cap,dr,f,cr,fl,fm,nu,mi,us,at0,ld,d)=>o.ok&& (jbv d k2 cap2&& (roOK (zc d k2) && (dgL (bz nu) &&decide (m2=mi∧0≤i∧i≤k2∧k2≤1000∧L=k2∧k2≤s.size∧s.size≤1000∧0≤us∧us≤i∧0≤at0∧at0≤i∧us+cdg ((zc d k2).drop i.toNat)≤nu.size∧o.z.length≤i))))
 fin:=fun(m2,r6,r7,o,k2,cap2,L,i,s,nb,w,dg,sc,sg,k,cap,dr,f,cr,fl,fm,nu,mi,us,at0,ld,d) Z=>(o.is=false→wrGo f cr s.size mi ld fl ((zc d k2).drop i.toNat) ((bz s).drop i.toNat) ((bz nu).drop us.toNat) i at0=[]→ ∀us' at' i',Z (.exit 0) [.pointer (some ⟨0,0,some 0⟩),.bool m2,.string r6,.int .i64 r7,.pointer (some ⟨8,0,some 0⟩),.pointer (some ⟨22,0,some 0⟩),.slice none 0 0,.slice (some ⟨1,0,some 1⟩) k2 cap2,.int .i64 L,.int .i64 i'] [some ⟨[.string s,.bool nb,.int .i64 w,.int .i64 dg,.int .i64 sc,.bool sg,.slice (some ⟨1,0,some 1⟩) k cap,.int .u8 dr,.int .i64 f,.bool cr,.int .u8 fl,.int .i64 fm],132,false⟩,some ⟨d,221,false⟩,some ⟨[.pointer (some ⟨0,0,some 0⟩),.string nu,.bool mi,.int .i64 us',.int .i64 at',.int .i64 ld],280,true⟩,some ⟨how,283,true⟩,none])∧(∀us' at' i' od' om' oc',jc6 od' om' oc'=true→zc od' om'=o.z++wrGo f cr s.size mi ld fl ((zc d k2).drop i.toNat) ((bz s).drop i.toNat) ((bz nu).drop us.toNat) i at0→Z (.exit 0) [.pointer (some ⟨0,0,some 0⟩),.bool m2,.string r6,.int .i64 r7,.pointer (some ⟨8,0,some 0⟩),.pointer (some ⟨22,0,some 0⟩),.slice (some ⟨200,0,some 1⟩) om' oc',.slice (some ⟨1,0,some 1⟩) k2 cap2,.int .i64 L,.int .i64 i'] [some ⟨[.string s,.bool nb,.int .i64 w,.int .i64 dg,.int .i64 sc,.bool sg,.slice (some ⟨1,0,some 1⟩) k cap,.int .u8 dr,.int .i64 f,.bool cr,.int .u8 fl,.int .i64 fm],132,false⟩,some ⟨d,221,false⟩,some ⟨[.pointer (some ⟨0,0,some 0⟩),.string nu,.bool mi,.int .i64 us',.int .i64 at',.int .i64 ld],280,true⟩,some ⟨how,283,true⟩,some ⟨od',5,true⟩])
def e64(m2:Bool)(r6:Y)(r7:Int)(k2:Nat)(cap2:Nat)(L:Int)(i:Int)(s:Y)(nb:Bool)(w:Int)(dg:Int)(sc:Int)(sg:Bool)(k:Nat)(cap:Nat)(dr:Int)(f:Int)(cr:Bool)(fl:Int)(fm:Int)(nu:Y)(mi:Bool)(us:Int)(at0:Int)(ld:Int)(d:F)(pre:F)(ln N:Nat)(X U:Int)(R:Exit→F→O→Prop):Prop:=∀(cap_1:Nat)(tail:F),jbm tail cap_1 ln 1=true→bif jas [(N,200)] d&& (jas [(N,200)] (pre++ [.int .u8 X]++tail) &&true) &&true then R Exit.normal [.pointer (some (.mk 0 0 (some 0))),B m2,S r6,I r7,.pointer (some (.mk 8 0 (some 0))),.pointer (some (.mk 22 0 (some 0))),.slice (some (.mk 200 0 (some 1))) ln cap_1,.slice (some (.mk 1 0 (some 1))) k2 cap2,I L,I (IntKind.wrap .i64 (i+1))] [some (.mk [S s,B nb,I w,I dg,I sc,B sg,.slice (some (.mk 1 0 (some 1))) k cap,.int .u8 dr,I f,B cr,.int .u8 fl,I fm] 132 false),some (.mk (rlbL [(N,200)] d) 221 false),some (.mk [.pointer (some (.mk 0 0 (some 0))),S nu,B mi,I U,I (IntKind.wrap .i64 (at0+1)),I ld] 280 true),some (.mk [Value.func (Fn.func 247) ⟨[]⟩ ⟨[]⟩,Value.func (Fn.func 248) ⟨[]⟩ ⟨[]⟩,Value.nilFunc,Value.func (Fn.func 249) ⟨[]⟩ ⟨[]⟩,Value.func (Fn.func 250) ⟨[]⟩ ⟨[]⟩,Value.func (Fn.func 251) ⟨[]⟩ ⟨[]⟩] 283 true),some (.mk (rlbL [(N,200)] (pre++ [.int .u8 X]++tail)) 5 true)]else False
def ky(a c:Int)(b:F):Bool:=decide ((jx (cq a b 0 1):Int)=c)
def cw(a:Y)(b c:Int):Bool:=jai a b.toNat==c
def n9(i:Bool)(c:Y)(a e f:Int)(b:F)(d g h j k l m n:Prop):Prop:=bif ky a 2 b then False else bif ky a 3 b then bif cw c a 66 then d else bif au e f then g else h else bif ky a 4 b then br (cw c a 83) true (cw c a 83&&i) j (bif cw c a 83 then k else bif cw c a 43==i then l else m)else c9 (ky a 5 b) n
def oa(f:Bool)(b c:Y)(a d:Int)(e g h:Prop):Prop:=bif ct (io (bk a 1) 1) (al b)then br (cw c d 89) true (cw c d 89&&jai b (io (bk a 1) 1).toNat==48) e (jw (cw c d 84 || cm (cw c d 73) (!f || (cw c d 82 || true)) (cw c d 82 || true)) (cw c d 84 || cm (cw c d 73) (!f || cw c d 82&&f) (cw c d 82&&f)) g h)else False
def j4(a:FuncId)(b:F):Value:= .func (.func a) ⟨[]⟩ ⟨b⟩
def j5(a:FuncId)(b d:F)(c:Value):F:=j4 a b::c::d
def mg:Option Blk:=some (.mk (j5 247 [] [Value.nilFunc,j4 249 [],j4 250 [],j4 251 []] (j4 248 [])) 283 true)
def mh(b:Bool)(a:Y)(c d e:Int):Option Blk:=some (.mk [ar 0,.string a,.bool b,ak c,ak d,ak e] 280 true)
theorem r64_0n(m2:Bool)(r6:Y)(r7:Int)(k2:Nat)(cap2:Nat)(L:Int)(i:Int)(s:Y)(nb:Bool)(w:Int)(dg:Int)(sc:Int)(sg:Bool)(k:Nat)(cap:Nat)(dr:Int)(f:Int)(cr:Bool)(fl:Int)(fm:Int)(nu:Y)(mi:Bool)(us:Int)(at0:Int)(ld:Int)(d:F)(jk:Tmps)(R:Exit→F→O→Prop):(jb6 Tryz.prog G35 noL Tryz.f184.ntmps (jbb Tryz.f184 0) (tl S64_0.live (V64_0 (m2,r6,r7,.nil,k2,cap2,L,i,s,nb,w,dg,sc,sg,k,cap,dr,f,cr,fl,fm,nu,mi,us,at0,ld,d)) jk) (ml S64_0.mid (B64_0 (m2,r6,r7,.nil,k2,cap2,L,i,s,nb,w,dg,sc,sg,k,cap,dr,f,cr,fl,fm,nu,mi,us,at0,ld,d))) S64_0.n fun e t' m' _=>S64_0.out R e t' m')=(jg R i L .i64 [f0 [] d,mh mi nu us at0 ld,mg,none] [] d (ar 0::B m2::S r6::ak r7::ar 8::ar 22::ip::dy L i 1 k2 cap2) k2 0 (jl nb sg cr s w dg sc dr f fl fm 1 k cap) (bif dp i s.size then bif c7 i 2 d then cu (bw [] d) R [jl nb sg cr s w dg sc dr f fl fm 1 k cap,f0 [] d,mh mi nu us at0 ld,mg,none] (ar 0::B m2::S r6::ak r7::ar 8::ar 22::ip::dm L i 1 k2 cap2)else bif i==f then e64 m2 r6 r7 k2 cap2 L i s nb w dg sc sg k cap dr f cr fl fm nu mi us at0 ld d [] 1 240 fl us R else br cr true (cr&&decide (i≥fq s 2)) (bif !m2 then e64 m2 r6 r7 k2 cap2 L i s nb w dg sc sg k cap dr f cr fl fm nu mi us at0 ld d [] 1 256 32 us R else e64 m2 r6 r7 k2 cap2 L i s nb w dg sc sg k cap dr f cr fl fm nu mi us at0 ld d [] 1 255 (bv s i) us R) (bif ct (cq i d 0 1) 6 then bif ky i 0 d then oa mi nu s us i (e64 m2 r6 r7 k2 cap2 L i s nb w dg sc sg k cap dr f cr fl fm nu mi us at0 ld d [] 1 303 32 (bk us 1) R) (e64 m2 r6 r7 k2 cap2 L i s nb w dg sc sg k cap dr f cr fl fm nu mi us at0 ld d [] 1 328 (puZ (IntKind.i64.wrap (IntKind.u8.wrap (bv nu (bu (bk us 1) 1)-48))) mi) (bk us 1) R) (e64 m2 r6 r7 k2 cap2 L i s nb w dg sc sg k cap dr f cr fl fm nu mi us at0 ld d [] 1 328 (bv nu (bu (bk us 1) 1)) (bk us 1) R)else bif ky i 1 d then bif ct (bu (bk us 1) 1) (al nu)then bif au at0 ld then e64 m2 r6 r7 k2 cap2 L i s nb w dg sc sg k cap dr f cr fl fm nu mi us at0 ld d [] 1 299 fl (bk us 1) R else e64 m2 r6 r7 k2 cap2 L i s nb w dg sc sg k cap dr f cr fl fm nu mi us at0 ld d [] 1 293 (bv nu (bu (bk us 1) 1)) (bk us 1) R else False else n9 mi s i at0 ld d (e64 m2 r6 r7 k2 cap2 L i s nb w dg sc sg k cap dr f cr fl fm nu mi us at0 ld d [] 1 263 32 us R) (e64 m2 r6 r7 k2 cap2 L i s nb w dg sc sg k cap dr f cr fl fm nu mi us at0 ld d [] 1 280 fl us R) (e64 m2 r6 r7 k2 cap2 L i s nb w dg sc sg k cap dr f cr fl fm nu mi us at0 ld d [] 1 274 (bv s i) us R) (e64 m2 r6 r7 k2 cap2 L i s nb w dg sc sg k cap dr f cr fl fm nu mi us at0 ld d [] 1 269 45 us R) (e64 m2 r6 r7 k2 cap2 L i s nb w dg sc sg k cap dr f cr fl fm nu mi us at0 ld d [] 1 272 43 us R) (e64 m2 r6 r7 k2 cap2 L i s nb w dg sc sg k cap dr f cr fl fm nu mi us at0 ld d [] 1 280 32 us R) (e64 m2 r6 r7 k2 cap2 L i s nb w dg sc sg k cap dr f cr fl fm nu mi us at0 ld d [] 1 281 (bv s i) us R) (e64 m2 r6 r7 k2 cap2 L i s nb w dg sc sg k cap dr f cr fl fm nu mi us at0 ld d [] 1 261 (bv s i) us R)else False)else False)):=by kernel_rfl
def l5(a b:F):Bool:=jr [] a b 200 200&&true
theorem r64_0o(m2:Bool)(r6:Y)(r7:Int)(od:F)(om:Nat)(oc:Nat)(k2:Nat)(cap2:Nat)(L:Int)(i:Int)(s:Y)(nb:Bool)(w:Int)(dg:Int)(sc:Int)(sg:Bool)(k:Nat)(cap:Nat)(dr:Int)(f:Int)(cr:Bool)(fl:Int)(fm:Int)(nu:Y)(mi:Bool)(us:Int)(at0:Int)(ld:Int)(d:F)(jk:Tmps)(R:Exit→F→O→Prop):(jb6 Tryz.prog G35 noL Tryz.f184.ntmps (jbb Tryz.f184 0) (tl S64_0.live (V64_0 (m2,r6,r7,(.own od om oc),k2,cap2,L,i,s,nb,w,dg,sc,sg,k,cap,dr,f,cr,fl,fm,nu,mi,us,at0,ld,d)) jk) (ml S64_0.mid (B64_0 (m2,r6,r7,(.own od om oc),k2,cap2,L,i,s,nb,w,dg,sc,sg,k,cap,dr,f,cr,fl,fm,nu,mi,us,at0,ld,d))) S64_0.n fun e t' m' _=>S64_0.out R e t' m')=(ft (au i L) (dp i k2) (l5 d od) (bif jbc .i64 d (e7 i)then bif dp i s.size then bif c7 i 2 d then cu (l5 d od) R [jl nb sg cr s w dg sc dr f fl fm 1 k cap,f0 e8 d,mh mi nu us at0 ld,mg,d9 e8 od] (ar 0::B m2::S r6::ak r7::ar 8::ar 22::jf om oc::dm L i 1 k2 cap2)else bif i==f then bif f8 od oc om 1 then e64 m2 r6 r7 k2 cap2 L i s nb w dg sc sg k cap dr f cr fl fm nu mi us at0 ld d (fv od om) (om+1) 240 fl us R else False else br cr true (cr&&decide (i≥fq s 2)) (bif !m2 then bif f8 od oc om 1 then e64 m2 r6 r7 k2 cap2 L i s nb w dg sc sg k cap dr f cr fl fm nu mi us at0 ld d (fv od om) (om+1) 256 32 us R else False else bif f8 od oc om 1 then e64 m2 r6 r7 k2 cap2 L i s nb w dg sc sg k cap dr f cr fl fm nu mi us at0 ld d (fv od om) (om+1) 255 (bv s i) us R else False) (bif ct (cq i d 0 1) 6 then bif ky i 0 d then oa mi nu s us i (bif f8 od oc om 1 then e64 m2 r6 r7 k2 cap2 L i s nb w dg sc sg k cap dr f cr fl fm nu mi us at0 ld d (fv od om) (om+1) 303 32 (bk us 1) R else False) (bif f8 od oc om 1 then e64 m2 r6 r7 k2 cap2 L i s nb w dg sc sg k cap dr f cr fl fm nu mi us at0 ld d (fv od om) (om+1) 328 (puZ (IntKind.i64.wrap (IntKind.u8.wrap (bv nu (bu (bk us 1) 1)-48))) mi) (bk us 1) R else False) (bif f8 od oc om 1 then e64 m2 r6 r7 k2 cap2 L i s nb w dg sc sg k cap dr f cr fl fm nu mi us at0 ld d (fv od om) (om+1) 328 (bv nu (bu (bk us 1) 1)) (bk us 1) R else False)else bif ky i 1 d then bif ct (bu (bk us 1) 1) (al nu)then bif au at0 ld then bif f8 od oc om 1 then e64 m2 r6 r7 k2 cap2 L i s nb w dg sc sg k cap dr f cr fl fm nu mi us at0 ld d (fv od om) (om+1) 299 fl (bk us 1) R else False else bif f8 od oc om 1 then e64 m2 r6 r7 k2 cap2 L i s nb w dg sc sg k cap dr f cr fl fm nu mi us at0 ld d (fv od om) (om+1) 293 (bv nu (bu (bk us 1) 1)) (bk us 1) R else False else False else n9 mi s i at0 ld d (bif f8 od oc om 1 then e64 m2 r6 r7 k2 cap2 L i s nb w dg sc sg k cap dr f cr fl fm nu mi us at0 ld d (fv od om) (om+1) 263 32 us R else False) (bif f8 od oc om 1 then e64 m2 r6 r7 k2 cap2 L i s nb w dg sc sg k cap dr f cr fl fm nu mi us at0 ld d (fv od om) (om+1) 280 fl us R else False) (bif f8 od oc om 1 then e64 m2 r6 r7 k2 cap2 L i s nb w dg sc sg k cap dr f cr fl fm nu mi us at0 ld d (fv od om) (om+1) 274 (bv s i) us R else False) (bif f8 od oc om 1 then e64 m2 r6 r7 k2 cap2 L i s nb w dg sc sg k cap dr f cr fl fm nu mi us at0 ld d (fv od om) (om+1) 269 45 us R else False) (bif f8 od oc om 1 then e64 m2 r6 r7 k2 cap2 L i s nb w dg sc sg k cap dr f cr fl fm nu mi us at0 ld d (fv od om) (om+1) 272 43 us R else False) (bif f8 od oc om 1 then e64 m2 r6 r7 k2 cap2 L i s nb w dg sc sg k cap dr f cr fl fm nu mi us at0 ld d (fv od om) (om+1) 280 32 us R else False) (bif f8 od oc om 1 then e64 m2 r6 r7 k2 cap2 L i s nb w dg sc sg k cap dr f cr fl fm nu mi us at0 ld d (fv od om) (om+1) 281 (bv s i) us R else False) (bif f8 od oc om 1 then e64 m2 r6 r7 k2 cap2 L i s nb w dg sc sg k cap dr f cr fl fm nu mi us at0 ld d (fv od om) (om+1) 261 (bv s i) us R else False)else False)else False else False) (R (.exit 0) (ar 0::B m2::S r6::ak r7::ar 8::ar 22::jf om oc::dy L i 1 k2 cap2) [jl nb sg cr s w dg sc dr f fl fm 1 k cap,f0 e8 d,mh mi nu us at0 ld,mg,d9 e8 od])):=by kernel_rfl
theorem l64_0:LOKf Tryz.prog (oneL 0 S64_0.hA) Tryz.f184:=by
 refine jcb (h:=S64_0.hA) (by kernel_rfl) (jbu ok_G35 hmix (by kernel_rfl) (jbf _) S64_0 V64_0 B64_0 (fun(m2,r6,r7,o,k2,cap2,L,i,s,nb,w,dg,sc,sg,k,cap,dr,f,cr,fl,fm,nu,mi,us,at0,ld,d)=>(k2-i).toNat) ?_ ?_ ?_)
 ·intro vs bs s h;simp only[S64_0]at h;split at h
  all_goals first | (cases h;exact⟨rfl,rfl⟩) | cases h | (split at h<;>first | (rename_i hq;cases h;have hq:=isHow_eq hq;subst hq;exact⟨rfl,rfl⟩) | cases h)
 ·exact fun⟨m2,r6,r7,o,k2,cap2,L,i,s,nb,w,dg,sc,sg,k,cap,dr,f,cr,fl,fm,nu,mi,us,at0,ld,d⟩ hp=>by
   simp only[S64_0,jaf]at hp;have hr:=jar.1 hp.2.1;cases o with
   | nil=>simp[how,V64_0,B64_0,S64_0,jaw,jbt,idsL,ids,Rw.v,Rw.b,jao hr.plain]
   | own od om oc=>simp[how,V64_0,B64_0,S64_0,jaw,jbt,idsL,ids,Rw.v,Rw.b,jao hr.plain,jao (jat.1 hp.1).plain]
 ·intro⟨m2,r6,r7,o,k2,cap2,L,i,s,nb,w,dg,sc,sg,k,cap,dr,f,cr,fl,fm,nu,mi,us,at0,ld,d⟩ jk Z hp hf;simp only[S64_0]at hp hf;cases o with
  | nil=>
   rw[r64_0n];delta c9 ft e7 bw ct dp au jg br jx cq ky cw n9 bv bk bu al jw cm io oa fq cu bp ak d8 dq dv dm ip ar j4 j5 mg mh f0 bm jl c7 dy;simp only[jaf,jae]at hp;obtain⟨-,hR,hO,hD,rfl,hp⟩:=hp;have hr:=jar.1 hR;simp only[Rw.z,List.length_nil]at hp hf;have e0:0+i.toNat*1=i.toNat:=by omega
   rw[e0];apply cond_intro<;>intro h
   ·have h:=jab h;obtain⟨a1,a3⟩:=hr.at hp.1 (by omega);have hro:=roOK_at hO a3;rw[a3,wrGo,jd2 hp.1 (by omega),List.headD_cons,List.tail_cons]at hf;rw[a3]at hp;have hc1:= @cdg_c (jaq d i.toNat) ((zc d k2).drop (i+1).toNat);have hc2:=jnf ((zc d k2).drop (i+1).toNat);rw[a1,w64 (n:=i+1) (by omega),w64 (n:=(s.size:Int)-2) (by omega)];have eu:IntKind.wrap .i64 (IntKind.wrap .i64 (us+1)-1)=us:=by rw[w64 (n:=us+1) (by omega),w64 (by omega)];omega
    rw[eu];generalize jaq d i.toNat=r at*;generalize jai s i.toNat=c at*;have er:((0+r.toNat*1:Nat):Int)=r:=by omega
    rw[er];refine c_t (jaa (by omega)) (c_t rfl (c_t (jaa (by omega)) (cond_intro (fun q=> ?_) (fun q=> ?_))))
    ·rw[q,cond_true]at hf;refine c_t (by rw[hr.good];rfl) ?_;rw[hr.rlb];exact⟨(m2,r6,r7,.nil,k2,cap2,L,i+1,s,nb,w,dg,sc,sg,k,cap,dr,f,cr,fl,fm,nu,m2,us,at0,ld,d),rfl,rfl,by simp only[S64_0,jaf,jae];exact⟨rfl,hR,hO,hD,trivial,by simp only[Rw.z,List.length_nil];omega⟩,by simp only;omega,hf⟩
    ·rw[q,cond_false]at hf
     have leaf:∀(b:Bool)(N:Nat)(X:Int){U:Int},wrC f cr s.size m2 ld fl r c (List.headD (List.drop us.toNat (bz nu)) 0) i at0=X→wrT f cr s.size r i=b→(bif b then(List.drop us.toNat (bz nu)).tail else List.drop us.toNat (bz nu))=List.drop U.toNat (bz nu)→(U+cdg ((zc d k2).drop (i+1).toNat)≤nu.size∧0≤U∧U≤i+1)→e64 m2 r6 r7 k2 cap2 L i s nb w dg sc sg k cap dr f cr fl fm nu m2 us at0 ld d [] 1 N X U (S64_0.step V64_0 B64_0 (fun(m2,r6,r7,o,k2,cap2,L,i,s,nb,w,dg,sc,sg,k,cap,dr,f,cr,fl,fm,nu,mi,us,at0,ld,d)=>(k2-i).toNat) (m2,r6,r7,.nil,k2,cap2,L,i,s,nb,w,dg,sc,sg,k,cap,dr,f,cr,fl,fm,nu,m2,us,at0,ld,d) Z):=by
      intro b N X U e eT eD hU;rw[e,eT,eD]at hf;intro cap1 tail ht;obtain⟨h1,h2⟩:RowP ([]++ [Value.int IntKind.u8 X]++tail) 1 cap1∧zc ([]++ [Value.int IntKind.u8 X]++tail) 1=[X]:=jfx [X] ht;have hl1:=ja6 h1;rw[w64 (n:=i+1) (by omega),w64 (n:=at0+1) (by omega)];generalize []++ [Value.int IntKind.u8 X]++tail=od' at*;refine c_t (by rw[hr.good,h1.good];rfl) ?_;rw[hr.rlb,h1.rlb];exact⟨(m2,r6,r7,.own od' (1) cap1,k2,cap2,L,i+1,s,nb,w,dg,sc,sg,k,cap,dr,f,cr,fl,fm,nu,m2,U,at0+1,ld,d),rfl,rfl,by simp only[S64_0,jaf,jae];exact⟨jat.2 h1,hR,hO,hD,trivial,by simp only[Rw.z,hl1];omega⟩,by simp only;omega,⟨fun q=>(by cases q),fun us' at' i' od'' om'' oc'' g1 g2=>hf.2 us' at' i' od'' om'' oc'' g1 (by rw[g2];simp only[Rw.z,h2,List.append_assoc,List.cons_append,List.nil_append])⟩⟩
     refine cond_intro (fun q0=> ?_) (fun q0=>c_t (by simp) (cond_intro (fun q1=>cond_intro (fun q2=> ?_) (fun q2=> ?_)) (fun q1=>c_t (jaa hro) ?_)))
     ·exact leaf false _ _ (by simp only[wrC,q0,cond_true,cond_false]) (by simp[wrT,q0]) rfl (by omega)
     ·exact leaf false _ _ (by simp only[wrC,q0,q1,q2,cond_true,cond_false]) (by simp[wrT,q0,q1,q2]) rfl (by omega)
     ·exact leaf false _ _ (by simp only[wrC,q0,q1,q2,cond_true,cond_false]) (by simp[wrT,q0,q1,q2]) rfl (by omega)
     ·refine cond_intro (fun n=> ?_) (fun m=>cond_intro (fun n=> ?_) (fun m1=>cond_intro (fun n=> ?_) (fun m2'=>cond_intro (fun n=> ?_) (fun m3=>cond_intro (fun n=> ?_) (fun m4=> ?_)))))
      ·have n0:=jab n;have hc3:= @jnw r ((zc d k2).drop (i+1).toNat) (by omega);have hd:=jl7 hD hp.2.2.2.2.2.2.1 (by omega);have ed:=jd2 hp.2.2.2.2.2.2.1 (s:=nu) (by omega);have ed':List.headD (List.drop us.toNat (bz nu)) 0=jai nu us.toNat:=by rw[ed];rfl
       rw[w8 (n:=jai nu us.toNat-48) (by omega),w64 (n:=jai nu us.toNat-48) (by omega)];generalize jai nu us.toNat=dd at*;refine c_t (jaa (by omega)) (c_t (by simp) (cond_intro (fun q2=> ?_) (fun q2=>c_t (by cases c==84<;>cases c==73<;>simp) (cond_intro (fun q3=> ?_) (fun q3=> ?_)))))
       ·rw[w64 (n:=us+1) (by omega)];exact leaf true _ _ (by simp only[wrC,q0,q1,n,ed',cond_true,cond_false];exact fm_a q2) (by simp[wrT,q0,q1,n,ed']) (by rw[cond_true,ed,List.tail_cons]) (by omega)
       ·rw[w64 (n:=us+1) (by omega)];exact leaf true _ _ (by simp only[wrC,q0,q1,n,ed',cond_true,cond_false];exact fm_b q2 q3) (by simp[wrT,q0,q1,n,ed']) (by rw[cond_true,ed,List.tail_cons]) (by omega)
       ·rw[w64 (n:=us+1) (by omega)];exact leaf true _ _ (by simp only[wrC,q0,q1,n,ed',cond_true,cond_false];exact fm_c q2 q3) (by simp[wrT,q0,q1,n,ed']) (by rw[cond_true,ed,List.tail_cons]) (by omega)
      ·have n0:=jab n;have hc3:= @jnw r ((zc d k2).drop (i+1).toNat) (by omega);have hd:=jl7 hD hp.2.2.2.2.2.2.1 (by omega);have ed:=jd2 hp.2.2.2.2.2.2.1 (s:=nu) (by omega);have ed':List.headD (List.drop us.toNat (bz nu)) 0=jai nu us.toNat:=by rw[ed];rfl
       generalize jai nu us.toNat=dd at*;refine c_t (jaa (by omega)) (cond_intro (fun q2=> ?_) (fun q2=> ?_))
       ·rw[w64 (n:=us+1) (by omega)];exact leaf true _ _ (by simp only[wrC,q0,q1,m,n,q2,ed',cond_true,cond_false]) (by simp[wrT,q0,q1,m,n,q2,ed']) (by rw[cond_true,ed,List.tail_cons]) (by omega)
       ·rw[w64 (n:=us+1) (by omega)];exact leaf true _ _ (by simp only[wrC,q0,q1,m,n,q2,ed',cond_true,cond_false]) (by simp[wrT,q0,q1,m,n,q2,ed']) (by rw[cond_true,ed,List.tail_cons]) (by omega)
      ·have n:=jab n;rw[n]at q;cases q
      ·refine cond_intro (fun q2=> ?_) (fun q2=>cond_intro (fun q3=> ?_) (fun q3=> ?_))
       ·exact leaf false _ _ (by simp only[wrC,q0,q1,m,m1,n,q2,cond_true,cond_false]) (by simp[wrT,q0,q1,m,m1,n,q2]) rfl (by omega)
       ·exact leaf false _ _ (by simp only[wrC,q0,q1,m,m1,n,q2,q3,cond_true,cond_false]) (by simp[wrT,q0,q1,m,m1,n,q2,q3]) rfl (by omega)
       ·exact leaf false _ _ (by simp only[wrC,q0,q1,m,m1,n,q2,q3,cond_true,cond_false]) (by simp[wrT,q0,q1,m,m1,n,q2,q3]) rfl (by omega)
      ·refine c_t (by simp) (cond_intro (fun q2=> ?_) (fun q2=>cond_intro (fun q3=> ?_) (fun q3=>cond_intro (fun q4=> ?_) (fun q4=> ?_))))
       ·exact leaf false _ _ (by simp only[wrC,q0,q1,m,m1,m3,n,q2,cond_true,cond_false]) (by simp[wrT,q0,q1,m,m1,m3,n,q2]) rfl (by omega)
       ·exact leaf false _ _ (by simp only[wrC,q0,q1,m,m1,m3,n,q2,cond_true,cond_false];rw[q3];rfl) (by simp[wrT,q0,q1,m,m1,m3,n,q2]) rfl (by omega)
       ·exact leaf false _ _ (by simp only[wrC,q0,q1,m,m1,m3,n,q2,cond_true,cond_false];rw[q3,q4];rfl) (by simp[wrT,q0,q1,m,m1,m3,n,q2]) rfl (by omega)
       ·exact leaf false _ _ (by simp only[wrC,q0,q1,m,m1,m3,n,q2,cond_true,cond_false];rw[q3,q4];rfl) (by simp[wrT,q0,q1,m,m1,m3,n,q2]) rfl (by omega)
      ·have k0:=jac m;have k1:=jac m1;have k3:=jac m3;have k4:=jac m4;have k2':r≠2:=fun e=>by rw[e]at q;cases q
       refine c_t (jaa (by omega)) ?_;exact leaf false _ _ (by simp only[wrC,q0,q1,m,m1,m3,m4,cond_true,cond_false]) (by simp[wrT,q0,q1,m,m1,m3,m4]) rfl (by omega)
   ·have h:=jac h;rw[hr.end (by omega),wrGo]at hf;refine c_t (by rw[hr.good];rfl) ?_;rw[hr.rlb];exact hf.1 rfl rfl us at0 i
  | own od om oc=>
   rw[r64_0o];delta c9 ft d9 e8 j4 j5 mg ak dq ar mh f0 bm dv jl dy jf br jx cq ky cw au n9 bv fv f8 bk bu ct al jw cm io oa fq cu bp d8 dm jr l5 c7 dp e7;simp only[jaf,jae]at hp;obtain⟨ho,hR,hO,hD,rfl,hp⟩:=hp;have hr:=jar.1 hR;have ho:=jat.1 ho;have hzl:=ja6 ho;simp only[Rw.z,hzl]at hp hf;have e0:0+i.toNat*1=i.toNat:=by omega
   rw[e0];apply cond_intro<;>intro h
   ·have h:=jab h;obtain⟨a1,a3⟩:=hr.at hp.1 (by omega);have hro:=roOK_at hO a3;rw[a3,wrGo,jd2 hp.1 (by omega),List.headD_cons,List.tail_cons]at hf;rw[a3]at hp;have hc1:= @cdg_c (jaq d i.toNat) ((zc d k2).drop (i+1).toNat);have hc2:=jnf ((zc d k2).drop (i+1).toNat);rw[a1,w64 (n:=i+1) (by omega),w64 (n:=(s.size:Int)-2) (by omega)];have eu:IntKind.wrap .i64 (IntKind.wrap .i64 (us+1)-1)=us:=by rw[w64 (n:=us+1) (by omega),w64 (by omega)];omega
    rw[eu];generalize jaq d i.toNat=r at*;generalize jai s i.toNat=c at*;have er:((0+r.toNat*1:Nat):Int)=r:=by omega
    rw[er];refine c_t (jaa (by omega)) (c_t rfl (c_t (jaa (by omega)) (cond_intro (fun q=> ?_) (fun q=> ?_))))
    ·rw[q,cond_true]at hf;refine c_t (by rw[hr.good,ho.good];rfl) ?_;rw[hr.rlb,ho.rlb];exact⟨(m2,r6,r7,.own od om oc,k2,cap2,L,i+1,s,nb,w,dg,sc,sg,k,cap,dr,f,cr,fl,fm,nu,m2,us,at0,ld,d),rfl,rfl,by simp only[S64_0,jaf,jae];exact⟨jat.2 ho,hR,hO,hD,trivial,by simp only[Rw.z,hzl];omega⟩,by simp only;omega,hf⟩
    ·rw[q,cond_false]at hf
     have leaf:∀(b:Bool)(N:Nat)(X:Int){U:Int},wrC f cr s.size m2 ld fl r c (List.headD (List.drop us.toNat (bz nu)) 0) i at0=X→wrT f cr s.size r i=b→(bif b then(List.drop us.toNat (bz nu)).tail else List.drop us.toNat (bz nu))=List.drop U.toNat (bz nu)→(U+cdg ((zc d k2).drop (i+1).toNat)≤nu.size∧0≤U∧U≤i+1)→e64 m2 r6 r7 k2 cap2 L i s nb w dg sc sg k cap dr f cr fl fm nu m2 us at0 ld d (List.take (om*1) od) (om+1) N X U (S64_0.step V64_0 B64_0 (fun(m2,r6,r7,o,k2,cap2,L,i,s,nb,w,dg,sc,sg,k,cap,dr,f,cr,fl,fm,nu,mi,us,at0,ld,d)=>(k2-i).toNat) (m2,r6,r7,.own od om oc,k2,cap2,L,i,s,nb,w,dg,sc,sg,k,cap,dr,f,cr,fl,fm,nu,m2,us,at0,ld,d) Z):=by
      intro b N X U e eT eD hU;rw[e,eT,eD]at hf;intro cap1 tail ht;obtain⟨h1,h2⟩:=ho.app1 X ht;have hl1:=ja6 h1;rw[w64 (n:=i+1) (by omega),w64 (n:=at0+1) (by omega)];generalize List.take (om*1) od++ [Value.int IntKind.u8 X]++tail=od' at*;refine c_t (by rw[hr.good,h1.good];rfl) ?_;rw[hr.rlb,h1.rlb];exact⟨(m2,r6,r7,.own od' (om+1) cap1,k2,cap2,L,i+1,s,nb,w,dg,sc,sg,k,cap,dr,f,cr,fl,fm,nu,m2,U,at0+1,ld,d),rfl,rfl,by simp only[S64_0,jaf,jae];exact⟨jat.2 h1,hR,hO,hD,trivial,by simp only[Rw.z,hl1];omega⟩,by simp only;omega,⟨fun q=>(by cases q),fun us' at' i' od'' om'' oc'' g1 g2=>hf.2 us' at' i' od'' om'' oc'' g1 (by rw[g2];simp only[Rw.z,h2,List.append_assoc,List.cons_append,List.nil_append])⟩⟩
     refine cond_intro (fun q0=> ?_) (fun q0=>c_t (by simp) (cond_intro (fun q1=>cond_intro (fun q2=> ?_) (fun q2=> ?_)) (fun q1=>c_t (jaa hro) ?_)))
     ·refine c_t (ho.ask (k:=1) (by omega)) ?_;exact leaf false _ _ (by simp only[wrC,q0,cond_true,cond_false]) (by simp[wrT,q0]) rfl (by omega)
     ·refine c_t (ho.ask (k:=1) (by omega)) ?_;exact leaf false _ _ (by simp only[wrC,q0,q1,q2,cond_true,cond_false]) (by simp[wrT,q0,q1,q2]) rfl (by omega)
     ·refine c_t (ho.ask (k:=1) (by omega)) ?_;exact leaf false _ _ (by simp only[wrC,q0,q1,q2,cond_true,cond_false]) (by simp[wrT,q0,q1,q2]) rfl (by omega)
     ·refine cond_intro (fun n=> ?_) (fun m=>cond_intro (fun n=> ?_) (fun m1=>cond_intro (fun n=> ?_) (fun m2'=>cond_intro (fun n=> ?_) (fun m3=>cond_intro (fun n=> ?_) (fun m4=> ?_)))))
      ·have n0:=jab n;have hc3:= @jnw r ((zc d k2).drop (i+1).toNat) (by omega);have hd:=jl7 hD hp.2.2.2.2.2.2.1 (by omega);have ed:=jd2 hp.2.2.2.2.2.2.1 (s:=nu) (by omega);have ed':List.headD (List.drop us.toNat (bz nu)) 0=jai nu us.toNat:=by rw[ed];rfl
       rw[w8 (n:=jai nu us.toNat-48) (by omega),w64 (n:=jai nu us.toNat-48) (by omega)];generalize jai nu us.toNat=dd at*;refine c_t (jaa (by omega)) (c_t (by simp) (cond_intro (fun q2=> ?_) (fun q2=>c_t (by cases c==84<;>cases c==73<;>simp) (cond_intro (fun q3=> ?_) (fun q3=> ?_)))))
       ·refine c_t (ho.ask (k:=1) (by omega)) ?_;rw[w64 (n:=us+1) (by omega)];exact leaf true _ _ (by simp only[wrC,q0,q1,n,ed',cond_true,cond_false];exact fm_a q2) (by simp[wrT,q0,q1,n,ed']) (by rw[cond_true,ed,List.tail_cons]) (by omega)
       ·refine c_t (ho.ask (k:=1) (by omega)) ?_;rw[w64 (n:=us+1) (by omega)];exact leaf true _ _ (by simp only[wrC,q0,q1,n,ed',cond_true,cond_false];exact fm_b q2 q3) (by simp[wrT,q0,q1,n,ed']) (by rw[cond_true,ed,List.tail_cons]) (by omega)
       ·refine c_t (ho.ask (k:=1) (by omega)) ?_;rw[w64 (n:=us+1) (by omega)];exact leaf true _ _ (by simp only[wrC,q0,q1,n,ed',cond_true,cond_false];exact fm_c q2 q3) (by simp[wrT,q0,q1,n,ed']) (by rw[cond_true,ed,List.tail_cons]) (by omega)
      ·have n0:=jab n;have hc3:= @jnw r ((zc d k2).drop (i+1).toNat) (by omega);have hd:=jl7 hD hp.2.2.2.2.2.2.1 (by omega);have ed:=jd2 hp.2.2.2.2.2.2.1 (s:=nu) (by omega);have ed':List.headD (List.drop us.toNat (bz nu)) 0=jai nu us.toNat:=by rw[ed];rfl
       generalize jai nu us.toNat=dd at*;refine c_t (jaa (by omega)) (cond_intro (fun q2=> ?_) (fun q2=> ?_))
       ·refine c_t (ho.ask (k:=1) (by omega)) ?_;rw[w64 (n:=us+1) (by omega)];exact leaf true _ _ (by simp only[wrC,q0,q1,m,n,q2,ed',cond_true,cond_false]) (by simp[wrT,q0,q1,m,n,q2,ed']) (by rw[cond_true,ed,List.tail_cons]) (by omega)
       ·refine c_t (ho.ask (k:=1) (by omega)) ?_;rw[w64 (n:=us+1) (by omega)];exact leaf true _ _ (by simp only[wrC,q0,q1,m,n,q2,ed',cond_true,cond_false]) (by simp[wrT,q0,q1,m,n,q2,ed']) (by rw[cond_true,ed,List.tail_cons]) (by omega)
      ·have n:=jab n;rw[n]at q;cases q
      ·refine cond_intro (fun q2=> ?_) (fun q2=>cond_intro (fun q3=> ?_) (fun q3=> ?_))
       ·refine c_t (ho.ask (k:=1) (by omega)) ?_;exact leaf false _ _ (by simp only[wrC,q0,q1,m,m1,n,q2,cond_true,cond_false]) (by simp[wrT,q0,q1,m,m1,n,q2]) rfl (by omega)
       ·refine c_t (ho.ask (k:=1) (by omega)) ?_;exact leaf false _ _ (by simp only[wrC,q0,q1,m,m1,n,q2,q3,cond_true,cond_false]) (by simp[wrT,q0,q1,m,m1,n,q2,q3]) rfl (by omega)
       ·refine c_t (ho.ask (k:=1) (by omega)) ?_;exact leaf false _ _ (by simp only[wrC,q0,q1,m,m1,n,q2,q3,cond_true,cond_false]) (by simp[wrT,q0,q1,m,m1,n,q2,q3]) rfl (by omega)
      ·refine c_t (by simp) (cond_intro (fun q2=> ?_) (fun q2=>cond_intro (fun q3=> ?_) (fun q3=>cond_intro (fun q4=> ?_) (fun q4=> ?_))))
       ·refine c_t (ho.ask (k:=1) (by omega)) ?_;exact leaf false _ _ (by simp only[wrC,q0,q1,m,m1,m3,n,q2,cond_true,cond_false]) (by simp[wrT,q0,q1,m,m1,m3,n,q2]) rfl (by omega)
       ·refine c_t (ho.ask (k:=1) (by omega)) ?_;exact leaf false _ _ (by simp only[wrC,q0,q1,m,m1,m3,n,q2,cond_true,cond_false];rw[q3];rfl) (by simp[wrT,q0,q1,m,m1,m3,n,q2]) rfl (by omega)
       ·refine c_t (ho.ask (k:=1) (by omega)) ?_;exact leaf false _ _ (by simp only[wrC,q0,q1,m,m1,m3,n,q2,cond_true,cond_false];rw[q3,q4];rfl) (by simp[wrT,q0,q1,m,m1,m3,n,q2]) rfl (by omega)
       ·refine c_t (ho.ask (k:=1) (by omega)) ?_;exact leaf false _ _ (by simp only[wrC,q0,q1,m,m1,m3,n,q2,cond_true,cond_false];rw[q3,q4];rfl) (by simp[wrT,q0,q1,m,m1,m3,n,q2]) rfl (by omega)
      ·have k0:=jac m;have k1:=jac m1;have k3:=jac m3;have k4:=jac m4;have k2':r≠2:=fun e=>by rw[e]at q;cases q
       refine c_t (jaa (by omega)) ?_;refine c_t (ho.ask (k:=1) (by omega)) ?_;exact leaf false _ _ (by simp only[wrC,q0,q1,m,m1,m3,m4,cond_true,cond_false]) (by simp[wrT,q0,q1,m,m1,m3,m4]) rfl (by omega)
   ·have h:=jac h;rw[hr.end (by omega),wrGo]at hf;refine c_t (by rw[hr.good,ho.good];rfl) ?_;rw[hr.rlb,ho.rlb];exact hf.2 us at0 i od om oc (jat.2 ho) (by simp)
def vwN(p:F):Lk:=fun j=>match Nat.beq j 0 with | true=>some ⟨p,280,false⟩ | false=>none
theorem sub_N{m:Lk}{a x:Nat}{nu:Y}{mi:Bool}{us at0 ld:Int}{own:Bool}(hp:m a=some ⟨pnL x nu mi us at0 ld,280,own⟩):SubM m (rho2 a x) (vwN (pnL 1 nu mi us at0 ld)) 2:=by
 have hget:∀j b,vwN (pnL 1 nu mi us at0 ld) j=some b→j=0∧b=⟨pnL 1 nu mi us at0 ld,280,false⟩:=fun j b h=>by
  simp only[vwN]at h;split at h
  ·rename_i h0;cases h;exact⟨jah h0,rfl⟩
  ·cases h
 refine⟨fun j b h=> ?_,fun j b h=> ?_⟩
 ·obtain⟨rfl,rfl⟩:=hget j b h;refine⟨by omega,fun i hi=> ?_⟩;have:i=1:=by simpa[pnL,idsL,ids]using hi
  omega
 ·obtain⟨rfl,rfl⟩:=hget j b h;refine⟨rfl,⟨pnL x nu mi us at0 ld,280,own⟩,?_,fun ι=> ?_⟩
  ·show noIt (m a)=_;rw[hp];simp only[noIt];have:(own&&Nat.beq 280 itTy)=false:=by cases own<;>rfl
   rw[this]
  ·simp[pnL,ren,ren1,rho2]
def sgC(c:Int)(m:Bool):Int:=bif c==83&&m then 45 else bif c==83 then 43 else bif (c==43)==m then 32 else c
theorem v94(nu:Y)(mi:Bool)(us:Int)(at0:Int)(ld:Int)(c:Int)(R:Value→Prop):(jaz Tryz.prog G33 noL Tryz.f250 [.pointer (some ⟨0,0,some 0⟩),.int .u8 c] (vwN (pnL 1 nu mi us at0 ld)) 2 (fun v _ _=>R v))=(br (c==83) true (c==83&&mi) (R (bm 45)) (bif c==83 then R (bm 43)else bif (c==43)==mi then R (bm 32)else R (bm c))):=by kernel_rfl
def h94:F→Lk→Nat→(Value→Lk→Nat→Prop)→Prop:=fun args m n K=>match args with
 | [.pointer (some ⟨a,0,some 0⟩),.int .u8 c]=>match m a with
  | some ⟨[.pointer (some ⟨x,0,some 0⟩),.string nu,.bool mi,.int .i64 us,.int .i64 at0,.int .i64 ld],280,own⟩=>∀e,sgC c mi=e→K (.int .u8 e) m n
  | _=>False
 | _=>False
def h90h:F→Lk→Nat→(Value→Lk→Nat→Prop)→Prop:=fun args m n K=>h90 args m n fun v m' n'=>match v with
 | .int .i64 x=>∀e,x=e→K (.int .i64 e) m' n'
 | _=>False
def G36:Env:=((((((Env.nil.add 114 (sp2 s78)).addG 247 (inlQ Tryz.prog G34 noL Tryz.f247)).addG 248 (inlQ Tryz.prog G34 noL Tryz.f248)).addG 249 (inlQ Tryz.prog G34 noL Tryz.f249)).addG 251 (inlQ Tryz.prog G34 noL Tryz.f251)).addG 246 h90h).addG 250 h94
theorem w94(nu:Y)(mi:Bool)(us at0 ld c:Int){R:Value→Prop}(h:R (.int .u8 (sgC c mi))):jea Tryz.prog G33 noL Tryz.f250 [.pointer (some ⟨0,0,some 0⟩),.int .u8 c] (vwN (pnL 1 nu mi us at0 ld)) 2 (fun v _ _=>R v):=by
 rw[jea,v94];delta br bm;rw[sgC]at h;refine c_t (by simp) (cond_intro (fun q=> ?_) (fun q=>cond_intro (fun q2=> ?_) (fun q2=>cond_intro (fun q3=> ?_) (fun q3=> ?_))))
 ·rw[q]at h;exact h
 ·rw[q,q2]at h;exact h
 ·rw[q,q2,q3]at h;exact h
 ·rw[q,q2,q3]at h;exact h
theorem h94_ok:jcw Tryz.prog 250 h94:=by
 refine jh9 ok_G33 hmix fn94 jaj fun args m n K h=> ?_
 unfold h94 at h;split at h
 case h_2=>exact h.elim
 rename_i a c;split at h
 case h_2=>exact h.elim
 rename_i x nu mi us at0 ld own hm;refine⟨[.pointer (some ⟨0,0,some 0⟩),.int .u8 c],_,2,rho2 a x,.int .u8 (sgC c mi),sub_N hm,fun ι=>by simp[ren,ren1,rho2],jag,fun v hv j hj=> ?_,rfl,w94 nu mi us at0 ld c (R:=fun v=>v= .int .u8 (sgC c mi)) rfl,h _ rfl⟩;simp at hv;rcases hv with rfl | rfl
 ·have:j=0:=by simpa[ids]using hj
  omega
 ·simp[ids]at hj
theorem gen_imp{P:Program}{f:FuncId}{h h':F→Lk→Nat→(Value→Lk→Nat→Prop)→Prop}(hh:∀args m n K,h' args m n K→h args m n K)(hg:jcw P f h):jcw P f h':=
 ⟨hg.1,fun args m n K hk=>hg.2 args m n K (hh args m n K hk)⟩
theorem h90h_ok:jcw Tryz.prog 246 h90h:=by
 refine gen_imp (fun args m n K h=> ?_) h90_ok;unfold h90h h90 at h;unfold h90;split at h
 case h_2=>exact h.elim
 split at h
 case h_2=>exact h.elim
 split at h
 case h_2=>exact h.elim
 split at h
 case h_2=>exact h.elim
 split at h
 case h_2=>exact h.elim
 rename_i hm _ _ _ _ _ _ _ _ _ _ _ _ _ _ _ _ _ hx _ _ hy hc;simp only[*]
theorem ok_G36:ja0 Tryz.prog G36:=jau (jau (jau (jau (jau (jau (jak jav ok78) (jbd ok_G34 hmix fn91 jaj)) (jbd ok_G34 hmix fn92 jaj)) (jbd ok_G34 hmix fn93 jaj)) (jbd ok_G34 hmix fn95 jaj)) h90h_ok) h94_ok
theorem lok64:LOKf Tryz.prog (oneL 0 S64_0.hA) Tryz.f184:=l64_0
def pz(a:Prop):Prop:=(((((a∧a)∧a)∧a)∧a)∧a)∧(((((a∧a)∧a)∧a)∧a)∧((((a∧a)∧a)∧a)∧(((a∧a)∧a)∧((a∧a)∧(a∧a)∧a)∧a)∧a)∧a)∧a
def o8(a b:Int)(c d e:Prop):Prop:=Tmps→br (a==36) true (a==36&&dw b 0) c (bif a !=0 || true then bif a !=0&&dw b 0 then pz d else e else False)
def o9(a d:Int)(c:F)(b:Nat)(e:Value→Prop):Prop:=bif ct (bu a 1) (b:Int)then g8 (Nat.ble (jx (bu a 1)+1) c.length) (jbe (setL c (jx (bu a 1)) [bm d]) 0 b) (az [.string (ja8 (setL c (jx (bu a 1)) [bm d]) 0 b),ak a]) e else False
theorem v64(s:Y)(nb:Bool)(w:Int)(dg:Int)(sc:Int)(sg:Bool)(k:Nat)(cap:Nat)(dr:Int)(f:Int)(cr:Bool)(fl:Int)(fm:Int)(nu:Y)(mi:Bool)(d:F)(R:Value→Prop):(jaz Tryz.prog G36 (oneL 0 S64_0.hA) Tryz.f184 [.pointer (some ⟨0,0,some 0⟩),S nu,B mi] (vwF2 (fmL s nb w dg sc sg 1 k cap dr f cr fl fm) d) 2 (fun v _ _=>R v))=(bif jbv d k cap&&decide (k≤1000∧nu.size≤1000∧cn1 (zc d k)≤al nu)then∀a:Int,enV (bz nu) fm (zc d k)=a→(bif au a 0 then aq (gq (Utf8.encode fl) w) (az [S (sz (repZ (bz (Utf8.encode fl)) w.toNat)),ak w]) R else fw (bw [] d) (j2 d 210) (S64_0.toLSpec.pre (mi,(am,((0:Int),(Rw.nil,(k,(cap,(natO k,((0:Int),(s,(nb,(w,(dg,(sc,(sg,(k,(cap,(dr,(f,(cr,(fl,(fm,(nu,(mi,((0:Int),((0:Int),(a,rlbL [] d))))))))))))))))))))))))))) ((Rw.is Rw.nil=false→wrGo f cr (al s) mi a fl (kx d k) (fk s) (fk nu) 0 0=([]:J)→Int→Int→Int→(bif j2 d 210 then o8 dr a False (∀b:Int,sgC dr mi=b→False) (co [S ByteArray.empty,ak a] R)else False))∧(Int→Int→Int→(∀b:F,∀c:Nat,∀e:Nat,jc6 b c e=true→zc b c=Rw.z Rw.nil++wrGo f cr (al s) mi a fl (kx d k) (fk s) (fk nu) 0 0→(bif ku (rlbL [] d) b 210 then o8 dr a (o9 a 36 b c R) (∀g:Int,sgC dr mi=g→o9 a g b c R) (aq (jbe b 0 c) (az [S (ja8 b 0 c),ak a]) R)else False)))) False)else False):=by kernel_rfl
def wrV(sp:J)(w f:Int)(cr:Bool)(dr fl fm:Int)(ro nu:J)(mi:Bool):J×Int:=
 bif decide (enV nu fm ro<0)then(repZ [fl] w.toNat,w)
 else(bif dr !=0&&decide (enV nu fm ro>0)then(wrGo f cr sp.length mi (enV nu fm ro) fl ro sp nu 0 0).set (enV nu fm ro-1).toNat (bif dr==36 then 36 else sgC dr mi)
  else wrGo f cr sp.length mi (enV nu fm ro) fl ro sp nu 0 0,enV nu fm ro)
def wrR(x:J×Int):Value:= .tuple ⟨[.string (sz x.1),.int .i64 x.2]⟩
def cN:J→Int
 | []=>0
 | r::rs=>(bif r==2 then 0 else 1)+cN rs
theorem jng:∀l,0≤cN l
 | []=>by simp[cN]
 | r::rs=>by have:=jng rs;rw[cN];cases r==2<;>simp<;>omega
theorem cn1_cdg:∀l,cn1 l≤cdg l
 | []=>by simp[cn1,cdg]
 | r::rs=>by
  have:=cn1_cdg rs;rw[cn1,cdg];by_cases h1:r=1
  ·subst h1;show 1+_≤1+_;omega
  ·have e:(r==1)=false:=by simpa using h1
   rw[e];cases decide (r=0) || decide (r=1) <;>simp<;>omega
theorem ji6{f:Int}{cr:Bool}{n:Int}{mi:Bool}{ld fl:Int}:∀(rs cs ds:J)(i a:Int),((wrGo f cr n mi ld fl rs cs ds i a).length:Int)=cN rs
 | [],_,_,_,_=>rfl
 | r::rs,cs,ds,i,a=>by
  rw[wrGo,cN];cases r==2
  ·simp only[cond_false,List.length_cons];have:=ji6 (f:=f) (cr:=cr) (n:=n) (mi:=mi) (ld:=ld) (fl:=fl) rs cs.tail (bif wrT f cr n r i then ds.tail else ds) (i+1) (a+1);omega
  ·simp only[cond_true];rw[ji6];omega
theorem jjw{ze:Bool}{fm:Int}:∀(ro ds:J)(a:Int),-1≤a→enGo ze fm ro ds a≤a+cN ro
 | [],_,a,h=>by rw[enGo,cN];omega
 | r::rs,ds,a,h=>by
  have h0:=jng rs;rw[enGo,cN];by_cases h2:r=2
  ·subst h2;have e0:((2:Int)==0)=false:=rfl;have e1:((2:Int)==1)=false:=rfl;have e2:((2:Int)==2)=true:=rfl;rw[e0,e1,e2];simp only[cond_true,cond_false];have:=jjw (ze:=ze) (fm:=fm) rs ds a h;cases decide (fm>0) || !ze<;>simp<;>omega
  ·have e2:(r==2)=false:=by simpa using h2
   rw[e2];have h1:=jjw (ze:=ze) (fm:=fm) rs ds (a+1) (by omega);have h3:=jjw (ze:=ze) (fm:=fm) rs ds.tail (a+1) (by omega);cases r==0
   ·cases r==1
    ·simp only[cond_false];omega
    ·simp only[cond_true,cond_false];cases ds.headD 0 !=48<;>simp<;>omega
   ·simp only[cond_true,cond_false];omega
theorem enV_le{nu:J}{fm:Int}{ro:J}:enV nu fm ro≤cN ro:=by
 rw[enV];have:=jng ro;have:=jjw (ze:=(jap nu [48]).isEmpty) (fm:=fm) ro nu 0 (by omega);cases enOn ro<;>simp<;>omega
theorem enc_fl{fl:Int}(h:fl=32∨fl=42):bz (Utf8.encode fl)=[fl]:=by
 rcases h with rfl | rfl<;>kernel_rfl
theorem w_64(s:Y)(nb:Bool)(w:Int)(dg:Int)(sc:Int)(sg:Bool)(k:Nat)(cap:Nat)(dr:Int)(f:Int)(cr:Bool)(fl:Int)(fm:Int)(nu:Y)(mi:Bool)(d:F)(hR:jbv d k cap=true)(hO:roOK (zc d k)=true)(hD:dgL (bz nu)=true)(hk:k≤1000∧nu.size≤1000∧k≤s.size∧s.size≤1000∧0≤w∧w≤1000)(hc:cdg (zc d k)≤nu.size)(hfl:fl=32∨fl=42)
  {R:Value→Prop} (hV:R (wrR (wrV (bz s) w f cr dr fl fm (zc d k) (bz nu) mi))):
  jea Tryz.prog G36 (oneL 0 S64_0.hA) Tryz.f184 [.pointer (some ⟨0,0,some 0⟩),.string nu,.bool mi] (vwF2 (fmL s nb w dg sc sg 1 k cap dr f cr fl fm) d) 2 (fun v _ _=>R v):=by
 rw[jea,v64];delta fw br pz dw o8 aq az ak g8 bm jx bu ct o9 ku fk kx al co j2 am bw gq au;have h:=jar.1 hR;have h1:=cn1_cdg (zc d k);have hl:= @enV_le (bz nu) fm (zc d k);have z0:Int.toNat 0=0:=rfl;have hg:(jas [] d&&true&&true&& (jaw 210 d&&true))=true:=by rw[h.good];simp[jaw,idsL,jao h.plain]
 have hi:(jaw 210 d&&true)=true:=by simp[jaw,idsL,jao h.plain]
 have sl:((bz s).length:Int)=s.size:=by rw[jam]
 rw[wrV,wrR,sl]at hV;simp only[h.rlb,z0,List.drop_zero];refine c_t (by rw[hR];simp only[Bool.true_and,jae];omega) fun e he=> ?_
 rw[he]at hV hl;have hw:=fun a=> @ji6 f cr s.size mi e fl (zc d k) (bz s) (bz nu) 0 a
 have hw:=hw 0;generalize wrGo f cr s.size mi e fl (zc d k) (bz s) (bz nu) 0 0=W at*;apply cond_intro<;>intro q
 ·rw[q,cond_true]at hV;have eb:=enc_fl hfl;have es:(Utf8.encode fl).size=1:=by rw[←jam,eb];rfl
  rw[es,eb];exact c_t (jaa (by omega)) hV
 ·rw[q,cond_false]at hV;refine c_t hg (c_t ?_ ⟨fun _ hn us' at' i'=>c_t hi fun _=>c_t (by simp) ?_,fun us' at' i' od om oc g1 g2=> ?_⟩)
  ·show(Rw.nil.ok&& (jbv d k cap&& (roOK (zc d k) && (dgL (bz nu) &&decide (mi=mi∧(0:Int)≤0∧(0:Int)≤k∧k≤1000∧natO k=k∧k≤s.size∧s.size≤1000∧(0:Int)≤0∧(0:Int)≤0∧(0:Int)≤0∧(0:Int)≤0∧0+cdg ((zc d k).drop (Int.toNat 0))≤nu.size∧((Rw.nil.z.length:Nat):Int)≤0)))))=true;rw[hR,hO,hD,jb1,z0,List.drop_zero];simp only[Bool.true_and,Rw.ok,Rw.z,List.length_nil,jae];exact⟨trivial,by omega,by omega,by omega,trivial,by omega,by omega,by omega,by omega,by omega,by omega,by omega,by omega⟩
  ·rw[hn,List.length_nil]at hw;have e0:decide (e>0)=false:=jad (by omega);rw[e0,Bool.and_false,Bool.and_false,cond_false];rw[e0,Bool.and_false,cond_false,hn]at hV;exact c_t (by simp) hV
  ·have ho:=jat.1 g1;have hzl:=ja6 ho;rw[g2]at hzl;have g3:zc od om=W:=by rw[g2];rfl
   have hzl:W.length=om:=hzl;have hio:(jaw 210 d&& (jaw 210 od&&true))=true:=by simp[jaw,idsL,jao h.plain,jao ho.plain]
   have hset:∀x:Int,e>0→R (.tuple ⟨[.string (sz (W.set (e-1).toNat x)),.int .i64 e]⟩)→
     (bif decide (0 ≤ IntKind.wrap IntKind.i64 (e-1) ∧ IntKind.wrap IntKind.i64 (e-1)<(↑om : Int)) then
      bif Nat.ble (0+Int.toNat (IntKind.wrap IntKind.i64 (e-1))*1+1) (List.length od)then
       bif jbe (setL od (0+Int.toNat (IntKind.wrap IntKind.i64 (e-1))*1) [Value.int IntKind.u8 x]) 0 om then
        R (Value.tuple (Array.mk [Value.string (ja8 (setL od (0+Int.toNat (IntKind.wrap IntKind.i64 (e-1))*1) [Value.int IntKind.u8 x]) 0 om),Value.int IntKind.i64 e]))
       else False
      else False
     else False):=fun x h0 hx=>by
    have hb:(W.length:Int)≤1000:=by
     have:=hw
     have h2:cN (zc d k)≤k:=by
      have:∀l:J,cN l≤l.length:=fun l=>by
       induction l with
       | nil=>simp[cN]
       | cons r rs ih=>rw[cN,List.length_cons];cases r==2<;>simp<;>omega
      have:=this (zc d k);rw[jbg h]at this;exact this
     omega
    rw[w64 (n:=e-1) (by omega)];obtain⟨s1,s2,s4⟩:=ho.set x (i:=(e-1).toNat) (by omega);have s3:=s1.str;rw[s2,g3]at s3;exact c_t (jaa (by omega)) (c_t s4 (c_t s3.1 (by rw[s3.2];exact hx)))
   refine c_t hio fun _=>c_t (by simp) (cond_intro (fun p=> ?_) (fun p=>c_t (by simp) (cond_intro (fun p2=> ?_) (fun p2=> ?_))))
   ·obtain⟨p1,p3⟩:=Bool.and_eq_true_iff.1 p;have pe:dr=36:=by simpa using p1
    have pn:(dr !=0)=true:=by rw[pe];rfl
    rw[pn,p3,p1,Bool.true_and,cond_true,cond_true]at hV;exact hset 36 (jab p3) hV
   ·obtain⟨p1,p3⟩:=Bool.and_eq_true_iff.1 p2
    have pe:(dr==36)=false:=by
     rw[p3,Bool.and_true]at p;exact p
    rw[p1,p3,pe,Bool.true_and,cond_true,cond_false]at hV;have hX:∀e_1:Int,sgC dr mi=e_1→_:=fun e_1 h1=>hset e_1 (jab p3) (by rw[←h1];exact hV)
    repeat' (first | exact hX | apply And.intro)
   ·rw[p2,cond_false]at hV;have s3:=ho.str;rw[g3]at s3;exact c_t s3.1 (by rw[s3.2];exact hV)
def w64C(s nu:Y)(k cap:Nat)(w fl:Int)(d:F):Bool:=jbv d k cap&& (roOK (zc d k) && (dgL (bz nu) &&decide ((k≤1000∧nu.size≤1000∧k≤s.size∧s.size≤1000∧0≤w∧w≤1000)∧cdg (zc d k)≤nu.size∧(fl=32∨fl=42))))
def h64:F→Lk→Nat→(Value→Lk→Nat→Prop)→Prop:=fun args m n K=>match args with
 | [.pointer (some ⟨a,0,some 0⟩),.string nu,.bool mi]=>match m a with
  | some ⟨[.string s,.bool nb,.int .i64 w,.int .i64 dg,.int .i64 sc,.bool sg,.slice (some ⟨y,0,some 1⟩) k cap,.int .u8 dr,.int .i64 f,.bool cr,.int .u8 fl,.int .i64 fm],132,own⟩=>match m y with
   | some ⟨d,221,own2⟩=>match cnd (w64C s nu k cap w fl d)with
    | true=>∀(t:Y)(l:Int),sz (wrV (bz s) w f cr dr fl fm (zc d k) (bz nu) mi).1=t→(wrV (bz s) w f cr dr fl fm (zc d k) (bz nu) mi).2=l→K (.tuple ⟨[.string t,.int .i64 l]⟩) m n
    | false=>False
   | _=>False
  | _=>False
 | _=>False
theorem jm4:jcw Tryz.prog 184 h64:=by
 refine jh9 ok_G36 hmix fn64 lok64 fun args m n K h=> ?_
 unfold h64 at h;split at h
 case h_2=>exact h.elim
 rename_i a nu mi;split at h
 case h_2=>exact h.elim
 rename_i s nb w dg sc sg y k cap dr f cr fl fm own hm;split at h
 case h_2=>exact h.elim
 rename_i d own2 hy;split at h
 case h_2=>exact h.elim
 rename_i hc;simp only[cnd,w64C,jaf,jae]at hc;obtain⟨h1,h2,h3,h4,h5,h6⟩:=hc
 refine⟨[.pointer (some ⟨0,0,some 0⟩),.string nu,.bool mi],_,2,rho2 a y,wrR (wrV (bz s) w f cr dr fl fm (zc d k) (bz nu) mi),sub_F2 (jar.1 h1).plain hm hy,fun ι=>by simp[ren,ren1,rho2],jag,fun v hv j hj=> ?_,rfl,
  w_64 s nb w dg sc sg k cap dr f cr fl fm nu mi d h1 h2 h3 h4 h5 h6 (R:=fun v=>v=wrR (wrV (bz s) w f cr dr fl fm (zc d k) (bz nu) mi)) rfl,h _ _ rfl rfl⟩
 simp at hv;rcases hv with rfl | rfl | rfl
 ·have:j=0:=by simpa[ids]using hj
  omega
 ·simp[ids]at hj
 ·simp[ids]at hj
def G37:Env:=(((Env.nil.add 243 (sp1 s28)).addG 181 h62).addG 282 h63).addG 184 h64
theorem ok_G37:ja0 Tryz.prog G37:=jau (jau (jau (jak jav ok28) jm5) h63_ok) jm4
end Go.Px
end
noncomputable section
namespace Go.Px
open Go Go.Ab Go.Proofs Go.Shelf
theorem jid{ze:Bool}{fm:Int}:∀(rs:J)(ds:J)(a:Int),okR rs→0≤a→(decide (fm>0) || !ze)=true→
  enGo ze fm rs ds a=jg6 (rs.map rmk) ds a∨(enGo ze fm rs ds a= -1∧0∉rs∧ ∀c∈ds.take (cn1 rs).toNat,c=48)
 | [],ds,a,_,_,_=> .inr ⟨rfl,by simp,by simp[cn1]⟩
 | r::rs,ds,a,hok,ha,hz=>by
  have hok':okR rs:=fun x hx=>hok x (List.mem_cons_of_mem _ hx)
  have h0:=jl8 rs;rw[enGo,List.map_cons,jg6];rcases jc2 (hok r List.mem_cons_self)with rfl | rfl | rfl | rfl | rfl | rfl
  ·exact .inl rfl
  ·show(bif ds.headD 0 !=48 then a else enGo ze fm rs ds.tail (a+1))=(bif ds.headD 0 !=48 then a else jg6 (rs.map rmk) ds.tail (a+1))∨((bif ds.headD 0 !=48 then a else enGo ze fm rs ds.tail (a+1))= -1∧_∧ ∀c∈ds.take (1+cn1 rs).toNat,c=48)
   cases hd:ds.headD 0 !=48 with
   | true=>exact .inl rfl
   | false=>
    simp only[cond_false];rcases jid rs ds.tail (a+1) hok' (by omega) hz with h | ⟨h1,h2,h3⟩
    ·exact .inl h
    ·refine .inr ⟨h1,by simpa using h2,fun c hc=> ?_⟩;have e:(1+cn1 rs).toNat=(cn1 rs).toNat+1:=by omega
     rw[e]at hc;cases ds with
     | nil=>simp at hc
     | cons x xs=>
      rw[List.take_succ_cons]at hc;rcases List.mem_cons.1 hc with rfl | hc
      ·simpa using hd
      ·exact h3 c hc
  ·show(bif decide (fm>0) || !ze then a else enGo ze fm rs ds a)=a∨_;rw[hz];exact .inl rfl
  ·rcases jid rs ds (a+1) hok' (by omega) hz with h | ⟨h1,h2,h3⟩
   ·exact .inl h
   ·exact .inr ⟨h1,by simpa using h2,by simpa[cn1]using h3⟩
  ·rcases jid rs ds (a+1) hok' (by omega) hz with h | ⟨h1,h2,h3⟩
   ·exact .inl h
   ·exact .inr ⟨h1,by simpa using h2,by simpa[cn1]using h3⟩
  ·rcases jid rs ds (a+1) hok' (by omega) hz with h | ⟨h1,h2,h3⟩
   ·exact .inl h
   ·exact .inr ⟨h1,by simpa using h2,by simpa[cn1]using h3⟩
theorem jgr{fm:Int}(hf:decide (fm>0)=false):∀(rs:J)(ds:J)(a:Int),okR rs→0∉rs→(∀c∈ds,c=48)→cn1 rs≤ds.length→enGo true fm rs ds a= -1
 | [],_,_,_,_,_,_=>rfl
 | r::rs,ds,a,hok,hr,hd,hl=>by
  have hok':okR rs:=fun x hx=>hok x (List.mem_cons_of_mem _ hx)
  have hr':0∉rs:=fun h=>hr (List.mem_cons_of_mem _ h)
  rw[cn1]at hl;have h0:=jl8 rs;rw[enGo];rcases jc2 (hok r List.mem_cons_self)with rfl | rfl | rfl | rfl | rfl | rfl
  ·exact absurd List.mem_cons_self hr
  ·have hl:1+cn1 rs≤ds.length:=hl;cases ds with
   | nil=>simp at hl;omega
   | cons x xs=>
    have:x=48:=hd x List.mem_cons_self;subst this;exact jgr hf rs xs (a+1) hok' hr' (fun c hc=>hd c (List.mem_cons_of_mem _ hc)) (by simp at hl;omega)
  ·show(bif decide (fm>0) || !true then a else enGo true fm rs ds a)= -1;rw[hf];exact jgr hf rs ds a hok' hr' hd (by simpa using hl)
  ·exact jgr hf rs ds (a+1) hok' hr' hd (by simpa using hl)
  ·exact jgr hf rs ds (a+1) hok' hr' hd (by simpa using hl)
  ·exact jgr hf rs ds (a+1) hok' hr' hd (by simpa using hl)
theorem jna:∀(rs:J),okR rs→(∀bh pt dg,(ldGo (rs.map rmk) false bh pt dg).1=true→enOn rs=hasZ (rs.map rmk) 99)
 | [],_,_,_,_,_=>rfl
 | r::rs,hok,bh,pt,dg,h=>by
  have hok':okR rs:=fun x hx=>hok x (List.mem_cons_of_mem _ hx)
  rw[List.map_cons,ldGo]at h;rw[enOn,List.map_cons,jhe];rcases jc2 (hok r List.mem_cons_self)with rfl | rfl | rfl | rfl | rfl | rfl
  ·show false=(false || hasZ (rs.map rmk) 99)
   rw[Bool.false_or];cases hq:hasZ (rs.map rmk) 99 with
   | false=>rfl
   | true=>
    have h:(ldGo (rs.map rmk) true bh pt (dg+1)).1=true:=h;rw[jh5 _ _ _ _ (jbk.1 hq)]at h;cases h
  ·rfl
  ·exact(jna rs hok' _ _ _ h).trans (Bool.false_or _).symm
  ·exact(jna rs hok' _ _ _ h).trans (Bool.false_or _).symm
  ·exact(jna rs hok' _ _ _ h).trans (Bool.false_or _).symm
  ·exact(jna rs hok' _ _ _ h).trans (Bool.false_or _).symm
theorem cdg_pd:∀(rs:J),okR rs→cdg rs=pdGo (rs.map rmk)
 | [],_=>rfl
 | r::rs,hok=>by
  have hok':okR rs:=fun x hx=>hok x (List.mem_cons_of_mem _ hx)
  rw[cdg,List.map_cons,pdGo,cdg_pd rs hok'];rcases jc2 (hok r List.mem_cons_self)with rfl | rfl | rfl | rfl | rfl | rfl<;>rfl
theorem jgs:∀(rs:J),0∉rs→cn1 rs=cdg rs
 | [],_=>rfl
 | r::rs,h=>by
  have h1:r≠0:=fun e=>h (by rw[e];exact List.mem_cons_self)
  rw[cn1,cdg,jgs rs fun q=>h (List.mem_cons_of_mem _ q),jad h1,Bool.false_or];by_cases e:r=1
  ·subst e;rfl
  ·rw[jad e];have:(r==1)=false:=by simpa using e
   rw[this]
theorem has_100:∀(rs:J),okR rs→hasZ (rs.map rmk) 100=decide (0∈rs)
 | [],_=>rfl
 | r::rs,hok=>by
  have hok':okR rs:=fun x hx=>hok x (List.mem_cons_of_mem _ hx)
  rw[List.map_cons,jhe,has_100 rs hok'];rcases jc2 (hok r List.mem_cons_self)with rfl | rfl | rfl | rfl | rfl | rfl<;>simp[rmk]
theorem jkm:∀(a:J)(fm bh pt:Bool)(dg:Int),(ldGo (a++ [115,115]) fm bh pt dg).1=(ldGo a fm bh pt dg).1
 | [],_,_,_,_=>rfl
 | m::r,fm,bh,pt,dg=>by
  rw[List.cons_append,ldGo,ldGo];cases m==118
  ·cases m==100
   ·cases m==99
    ·exact jkm r _ _ _ _
    ·cases fm
     ·exact jkm r _ _ _ _
     ·rfl
   ·exact jkm r _ _ _ _
  ·exact jkm r _ _ _ _
theorem cnt_has{l:J}{c:Int}:decide ((cntZ l c:Int)>0)=hasZ l c:=by
 rw[Bool.eq_iff_iff,jae,jbk]
 induction l with
 | nil=>simp[cntZ]
 | cons x l ih=>
  rw[jde];by_cases e:x=c
  ·subst e;simp;omega
  ·rw[if_neg e,Int.zero_add,ih];simp[Ne.symm e]
theorem rep48p:∀{l:J}{k:Nat},l.length=k→(l=rep1 48 k↔ ∀c∈l,c=48)
 | l,k,h=>by
  rw[rep1,List.eq_replicate_iff];exact⟨fun q=>q.2,fun q=>⟨h,q⟩⟩
theorem jhx{l:J}(hl:IsB (pS l)∧(pS l).length≤32)(h:pN l=true):okR (rolF (pS l))∧(rolF (pS l)).map rmk=ja4 (pS l)∧cdg (rolF (pS l))=pD l∧enOn (rolF (pS l))=hasZ (ja4 (pS l)) 99∧
  decide ((cntZ (mkGo (drZ (jal (pS l))) false (jal (pS l))) 100:Int)>0)=hasZ (ja4 (pS l)) 100∧hasZ (ja4 (pS l)) 100=decide (0∈rolF (pS l))∧(hasZ (ja4 (pS l)) 99=true→pW l>0):=by
 obtain⟨h1,h2,h3⟩:=jf6 h;have hv:=jdh h;have hS:pS l=exZ l:=by rw[pS,if_pos hv]
 have hnp:=jhz h;obtain⟨_,_,p3,_⟩:=jmw hl h 0;have hW:pW l=(pS l).length-cntZ (pS l) 86:=by rw[pW,if_pos hv,hnp.nch,hS];rfl
 refine⟨h2,h3,by rw[cdg_pd _ h2,h3,p3],?_,?_,by rw[←h3,has_100 _ h2],fun h9=> ?_⟩
 ·have hld:=hnp.ld;rw[←hS]at hld;unfold jgy at hld
  have hL:(ldGo (mkGo (drZ (jal (pS l))) false (jal (pS l))) false false false 0).1=true:=by
   revert hld;cases hasZ (jal (pS l)) 90&&hasZ (jal (pS l)) 42
   ·cases(hasZ (jal (pS l)) 90 || hasZ (jal (pS l)) 42) &&drZ (jal (pS l)) !=0
    ·intro q;have q:((ldGo (mkGo (drZ (jal (pS l))) false (jal (pS l))) false false false 0).1&&_)=true:=q;exact(Bool.and_eq_true_iff.1 q).1
    ·intro q;cases q
   ·intro q;cases q
  have hL2:(ldGo (ja4 (pS l)) false false false 0).1=true:=by
   unfold ja4;split
   ·rw[jkm];exact hL
   ·rw[List.append_nil];exact hL
  rw[←h3]at hL2 ⊢;exact jna _ h2 _ _ _ hL2
 ·rw[cnt_has,ja4]
  have:∀a:J,hasZ (a++(if crZ (pS l)=true then [115,115]else [])) 100=hasZ a 100:=fun a=>by
   split<;>simp[hasZ]
  rw[this]
 ·have hm:=jhb (pS l)
  have:0<nv (ja4 (pS l)):=by
   have:=jbk.1 h9;unfold nv;exact List.length_pos_of_mem (List.mem_filter.2 ⟨this,by decide⟩)
  omega
theorem dig_zero{n:Int}{k:Nat}(hn:(n.natAbs:Int)<tenZ k):(∀c∈digZ n.natAbs k,c=48)↔n=0:=by
 have h1:=jfz k n.natAbs;have h2:=all48 h1;have h3:=jjz k n.natAbs (by omega);rw[Int.emod_eq_of_lt (by omega) hn]at h3;rw[h3]at h2
 have:(∀c∈digZ n.natAbs k,c=48)↔(∀c∈digZ n.natAbs k,hasZ [48] c=true):=
  ⟨fun q c hc=>by rw[q c hc];rfl,fun q c hc=>by have:=jbk.1 (q c hc);simpa using this⟩
 rw[this,h2];omega
theorem en_law{l:J}(hl:IsB (pS l)∧(pS l).length≤32)(h:pN l=true){n:Int}(hn:(n.natAbs:Int)<tenZ (pD l).toNat):
  enV (digZ n.natAbs (pD l).toNat) (cntZ (mkGo (drZ (jal (pS l))) false (jal (pS l))) 100) (rolF (pS l))=(bif fdBl (pS l) (pW l) (pD l).toNat n then -1 else fdLe (pS l) (pW l) (pD l).toNat n)∧
  (fdBl (pS l) (pW l) (pD l).toNat n=true→fdLe (pS l) (pW l) (pD l).toNat n=pW l):=by
 obtain⟨f1,f2,f3,f4,f5,f6,f7⟩:=jhx hl h;have hz:=dig_zero hn;have hlen:=jd7 (pD l).toNat n.natAbs;have hp:=jed h
 have hze:(jap (digZ n.natAbs (pD l).toNat) [48]).isEmpty=decide (n=0):=by
  rw[Bool.eq_iff_iff,List.isEmpty_iff,ji7,jae,←hz];exact⟨fun q c hc=>by have:=jbk.1 (q c hc);simpa using this,fun q c hc=>by rw[q c hc];rfl⟩
 rw[enV,f4,hze,fdBl,fdLe,endZ]
 have hrep:decide (digZ n.natAbs (pD l).toNat=rep1 48 (pD l).toNat)=decide (n=0):=by
  rw[Bool.eq_iff_iff,jae,jae,rep48p hlen,hz]
 rw[hrep];generalize hds:digZ n.natAbs (pD l).toNat=ds at*;cases h9:hasZ (ja4 (pS l)) 99 with
 | false=>exact⟨rfl,fun q=>by cases q⟩
 | true=>
  have hW:=f7 h9;have e0:(n==0)=decide (n=0):=by rw[Bool.eq_iff_iff];simp
  rw[e0];simp only[Bool.not_true,cond_false,cond_true];cases hq:(!hasZ (ja4 (pS l)) 100&&decide (n=0))with
  | true=>
   obtain⟨q1,q2⟩:=Bool.and_eq_true_iff.1 hq;rw[q1,q2];have q0:hasZ (ja4 (pS l)) 100=false:=by simpa using q1
   rw[q0]at f5 f6;have h0:0∉rolF (pS l):=jac f6.symm;have hcn:=jgs _ h0;rw[jgr f5 _ _ _ f1 h0 (hz.2 (jab q2)) (by omega)];simp[hW]
  | false=>
   have hst:(decide ((cntZ (mkGo (drZ (jal (pS l))) false (jal (pS l))) 100:Int)>0) || !decide (n=0))=true:=by
    rw[f5];cases q1:hasZ (ja4 (pS l)) 100 with
    | true=>rfl
    | false=>
     rw[q1]at hq;have:decide (n=0)=false:=by simpa using hq
     rw[this];rfl
   have hB:(decide ((bif false then pW l else jg6 (ja4 (pS l)) ds 0)>0) && ((bif false then pW l else jg6 (ja4 (pS l)) ds 0)==pW l&& (decide (n=0) && !hasZ (ja4 (pS l)) 100)))=false:=by
    rw[Bool.and_comm (decide (n=0)),hq,Bool.and_false,Bool.and_false]
   rw[hB];refine⟨?_,fun q=>by cases q⟩;rcases jid (rolF (pS l)) ds 0 f1 (by omega) hst with q | ⟨q1,q2,q3⟩
   ·rw[q,f2];rfl
   ·exfalso;have hcn:=jgs _ q2;rw[f6,jad q2]at f5;rw[f5,Bool.false_or]at hst;have hn0:n≠0:=by simpa using hst
    refine hn0 (hz.1 fun c hc=>q3 c ?_);rw[hcn,f3,List.take_of_length_le (by omega)];exact hc
theorem ro_cases{b pre r:J}{c d f:Int}(h:DrP b d f)(hb:b=pre++c::r):
  ((pre.length:Int)=f∧c=d∧d≠0∧(roP d f c pre.length=4∨roP d f c pre.length=5))∨
  ((pre.length : Int) ≠ f ∧ (roP d f c pre.length = 0 ∨ roP d f c pre.length = 1 ∨ roP d f c pre.length = 2 ∨ roP d f c pre.length = 3 ∨
   (c≠d∧(roP d f c pre.length=4∧(c=83∨c=43∨c=45)∨roP d f c pre.length=5∧c=36)))):=by
 have he:=h.eq hb;have hc0:=h.zero c (by rw[hb];simp);by_cases hf:(pre.length:Int)=f
 ·obtain⟨h1,h2⟩:=he.2.1 hf;have hd:d≠0:=by rw[←h1];exact hc0
  refine .inl ⟨hf,h1,hd,?_⟩
  have hm:d=36∨d=83∨d=43∨d=45:=by
   rcases h.at_ with⟨q,_⟩ | ⟨_,_,_,q⟩
   ·exact absurd q hd
   ·simpa using q
  have hne:((pre.length:Int) !=f)=false:=by simpa using hf
  unfold roP;rw[hne,h1];rcases hm with rfl | rfl | rfl | rfl<;>simp[hasZ]
 ·refine .inr ⟨hf,?_⟩;have hne:((pre.length:Int) !=f)=true:=by simpa using hf
  unfold roP;rw[hne,Bool.and_true];cases q1:hasZ [57,89,84,73,82] c with
  | true=>exact .inl rfl
  | false=>
   cases q2:(c==90 || (c==42 || c==d))with
   | true=>exact .inr (.inl rfl)
   | false=>
    have hcd:c≠d:=fun e=>by rw[e]at q2;simp at q2
    cases q3:c==86 with
    | true=>exact .inr (.inr (.inl rfl))
    | false=>
     cases q4:c==36 with
     | true=>exact .inr (.inr (.inr (.inr ⟨hcd,.inr ⟨rfl,by simpa using q4⟩⟩)))
     | false=>
      cases q5:(c==83 || (c==43 || c==45))with
      | true=>exact .inr (.inr (.inr (.inr ⟨hcd,.inl ⟨rfl,by simpa using q5⟩⟩)))
      | false=>exact .inr (.inr (.inr (.inl rfl)))
theorem sg_eq{c:Int}{m:Bool}(h:c=83∨c=43∨c=45):sgC c m=sgZ c m:=by
 rcases h with rfl | rfl | rfl<;>cases m<;>rfl
theorem wr_body{b t:J}{d f n ld fl dr':Int}{cr mi:Bool}(h:DrP b d f)(hdr:d≠0→dr'=d∧fl=32)(hdr0:d=0→dr'=0)(hn:n=b.length+(bif cr then 2 else 0)):
  ∀(r pre ds:J)(a:Int)(X:J→J→Int→J)(rs' ms':J),b=pre++r→
   (∀ds a,wrGo f cr n mi ld fl rs' t ds b.length a=fdGo ld fl dr' mi ms' t ds a)→
   wrGo f cr n mi ld fl (jbh d f r pre.length++rs') (r++t) ds pre.length a=fdGo ld fl dr' mi ((jbh d f r pre.length).map rmk++ms') (r++t) ds a
 | [],pre,ds,a,X,rs',ms',hb,ht=>by
  rw[List.append_nil]at hb;rw[←hb];exact ht ds a
 | c::r,pre,ds,a,X,rs',ms',hb,ht=>by
  have ih:=fun ds a=>wr_body h hdr hdr0 hn r (pre++ [c]) ds a X rs' ms' (by rw[hb];simp) ht
  have e:((pre++ [c]).length:Int)=pre.length+1:=by simp
  rw[e]at ih
  have hcr:(cr&&decide ((pre.length:Int)≥n-2))=false:=by
   cases cr with
   | false=>rfl
   | true=>
    have:(b.length:Int)=pre.length+(r.length+1):=by rw[hb];simp
    rw[Bool.true_and,decide_eq_false_iff_not];simp only[cond_true]at hn;omega
  rw[jbh,List.cons_append,List.cons_append,List.map_cons,List.cons_append,wrGo,fdGo];simp only[List.headD_cons,List.tail_cons];rcases ro_cases h hb with⟨h1,h2,h3,h4⟩ | ⟨h1,h4⟩
  ·obtain⟨g1,g2⟩:=hdr h3;have hf:((pre.length:Int)==f)=true:=by simpa using h1
   have e1:wrC f cr n mi ld fl (roP d f c pre.length) c (ds.headD 0) pre.length a=32:=by rw[wrC,hf,cond_true,g2]
   have e2:wrT f cr n (roP d f c pre.length) pre.length=false:=by rw[wrT,hf];rfl
   have e3:ssZ c dr' mi=32:=by
    rw[ssZ,g1,h2];have:(d !=0&&d==d)=true:=by simp[h3]
    rw[this];rfl
   rw[e1,e2,e3,ih,ih];rcases h4 with h4 | h4<;>rw[h4] <;>rfl
  ·have hf:((pre.length:Int)==f)=false:=by simpa using h1
   rcases h4 with h4 | h4 | h4 | h4 | ⟨h5,h4⟩
   ·rw[h4];have e1:wrC f cr n mi ld fl 0 c (ds.headD 0) pre.length a=fmZ c (ds.headD 0) mi:=by rw[wrC,hf,hcr];rfl
    have e2:wrT f cr n 0 pre.length=true:=by rw[wrT,hf,hcr];rfl
    rw[e1,e2,ih,ih];rfl
   ·rw[h4];have e1:wrC f cr n mi ld fl 1 c (ds.headD 0) pre.length a=bif decide (a<ld)then fl else ds.headD 0:=by rw[wrC,hf,hcr];rfl
    have e2:wrT f cr n 1 pre.length=true:=by rw[wrT,hf,hcr];rfl
    rw[e1,e2,ih,ih];rfl
   ·rw[h4,ih];rfl
   ·rw[h4];have e1:wrC f cr n mi ld fl 3 c (ds.headD 0) pre.length a=bif c==66 then 32 else bif decide (a<ld)then fl else c:=by rw[wrC,hf,hcr];rfl
    have e2:wrT f cr n 3 pre.length=false:=by rw[wrT,hf,hcr];rfl
    rw[e1,e2,ih,ih];rfl
   ·have hss:ssZ c dr' mi=bif hasZ [67,82,68,66] c then(bif mi then c else 32)else sgZ c mi:=by
     have:(dr' !=0&&c==dr')=false:=by
      by_cases hd:d=0
      ·rw[hdr0 hd];rfl
      ·rw[(hdr hd).1];have:(c==d)=false:=by simpa using h5
       rw[this,Bool.and_false]
     rw[ssZ,this];rfl
    rcases h4 with⟨h4,h6⟩ | ⟨h4,h6⟩
    ·rw[h4];have e1:wrC f cr n mi ld fl 4 c (ds.headD 0) pre.length a=sgC c mi:=by rw[wrC,hf,hcr];rfl
     have e2:wrT f cr n 4 pre.length=false:=by rw[wrT,hf,hcr];rfl
     have e3:ssZ c dr' mi=sgC c mi:=by
      rw[hss,sg_eq h6];rcases h6 with rfl | rfl | rfl<;>rfl
     rw[e1,e2,ih,ih,←e3];rfl
    ·rw[h4];have e1:wrC f cr n mi ld fl 5 c (ds.headD 0) pre.length a=c:=by rw[wrC,hf,hcr];rfl
     have e2:wrT f cr n 5 pre.length=false:=by rw[wrT,hf,hcr];rfl
     have e3:ssZ c dr' mi=c:=by rw[hss,h6];rfl
     rw[e1,e2,ih,ih];show c::_=(ssZ c dr' mi::_)
     rw[e3];rfl
theorem mk_99a{d:Int}(hd:d≠0)(h4:d∈ [36,83,43,(45:Int)]):∀r:J,d∈r→99∈mkGo d true r
 | c::r,h=>by
  rw[mkGo];have hs:∀y:Bool,mkGo d (true || y) r=mkGo d true r:=fun y=>by rw[Bool.true_or]
  rw[hs];rcases List.mem_cons.1 h with e | h
  ·subst e
   have:mk1 d true d=99:=by
    have:d=36∨d=83∨d=43∨d=45:=by simpa using h4
    rcases this with rfl | rfl | rfl | rfl<;>rfl
   rw[this];exact List.mem_cons_self
  ·exact List.mem_cons_of_mem _ (mk_99a hd h4 r h)
theorem mk_99{d:Int}(hd:d≠0)(h4:d∈ [36,83,43,(45:Int)]):∀(r:J)(seen:Bool),¬(cntZ r d:Int)<2→99∈mkGo d seen r
 | [],_,h=>by simp[cntZ]at h
 | c::r,seen,h=>by
  rw[mkGo];rw[jde]at h;by_cases e:c=d
  ·subst e;rw[if_pos rfl]at h
   have hs:(seen || (c !=0&&c==c))=true:=by
    have:(c !=0)=true:=by simpa using hd
    rw[this];simp
   rw[hs];refine List.mem_cons_of_mem _ (mk_99a hd h4 r ?_);have:(cntZ r c:Int)>0:=by omega
   exact jbk.1 (cnt_has.symm.trans (jaa this))
  ·rw[if_neg e]at h;exact List.mem_cons_of_mem _ (mk_99 hd h4 r _ (by omega))
theorem wr_2(f n:Int)(mi:Bool)(ld fl x y:Int)(ds:J)(i a:Int):∃D,wrGo f true n mi ld fl [4,4] [x,y] ds i a=[wrC f true n mi ld fl 4 x (ds.headD 0) i a,wrC f true n mi ld fl 4 y D (i+1) (a+1)]:=⟨_,rfl⟩
theorem fd_2(le fl dr:Int)(mi:Bool)(x y:Int)(ds:J)(a:Int):fdGo le fl dr mi [115,115] [x,y] ds a=[ssZ x dr mi,ssZ y dr mi]:=rfl
theorem jjc(c:Int):∀k:Nat,repZ [c] k=rep1 c k
 | 0=>rfl
 | k+1=>by rw[repZ,jjc c k];rfl
theorem dr_facts{s:J}(h:NumP s):(drZ (jal s)≠0→fdDr s=drZ (jal s)∧fdFl s=32)∧(drZ (jal s)=0→fdDr s=0):=by
 have e:=dr_body s;constructor
 ·intro hd;have hld:=h.ld;unfold jgy at hld
  have h1:((hasZ (jal s) 90 || hasZ (jal s) 42) &&drZ (jal s) !=0)=false:=by
   revert hld;cases hasZ (jal s) 90&&hasZ (jal s) 42
   ·cases(hasZ (jal s) 90 || hasZ (jal s) 42) &&drZ (jal s) !=0
    ·exact fun _=>rfl
    ·intro q;cases q
   ·intro q;cases q
  have hdn:(drZ (jal s) !=0)=true:=by simpa using hd
  rw[hdn,Bool.and_true,Bool.or_eq_false_iff]at h1;obtain⟨t,ht,hc⟩:=jex s
  have ha:∀c:Int,(c=90∨c=42)→hasZ (jal s) c=false→hasZ s c=false:=fun c h0 h1=>by
   have:hasZ s c=hasZ (jal s++t) c:=congrArg (hasZ · c) ht;rw[this];unfold hasZ at h1 ⊢;rw[List.any_append,h1,Bool.false_or];rcases hc with⟨rfl,_⟩ | ⟨rfl | rfl,_⟩ <;>rcases h0 with rfl | rfl<;>rfl
  have a1:=ha 90 (.inl rfl) h1.1;have a2:=ha 42 (.inr rfl) h1.2;obtain⟨f1,f2⟩:=(jge (jal s) (jal s)).resolve_left hd;obtain⟨f3,f4⟩:=jgp f1
  have h9:hasZ (ja4 s) 99=true:=jbk.2 (by
   unfold ja4;exact List.mem_append_left _ (mk_99 hd f3 _ _ f4))
  rw[fdDr,fdFl,a1,a2,h9,e];exact⟨rfl,rfl⟩
 ·intro hd;rw[fdDr,e,hd];cases !hasZ s 90&& (!hasZ s 42&&hasZ (ja4 s) 99) <;>rfl
theorem fdLe_nn{sp:J}{w:Int}{k:Nat}{n:Int}(hw:0≤w):0≤fdLe sp w k n:=by
 rw[fdLe,endZ];have:=(jl5 (ja4 sp) (digZ n.natAbs k) 0).1;cases !hasZ (ja4 sp) 99
 ·cases !hasZ (ja4 sp) 100&&decide (digZ n.natAbs k=rep1 48 k)
  ·exact this
  ·exact hw
 ·exact Int.le_refl 0
theorem out_law{l:J}(h:pN l=true)(ds:J)(ld:Int)(mi:Bool):
  wrGo (nD (jal (pS l))).2.2 (crZ (pS l)) (pS l).length mi ld (fdFl (pS l)) (rolF (pS l)) (pS l) ds 0 0=fdGo ld (fdFl (pS l)) (fdDr (pS l)) mi (ja4 (pS l)) (pS l) ds 0:=by
 obtain⟨h1,h2,h3⟩:=jf6 h;have hv:=jdh h;have hS:pS l=exZ l:=by rw[pS,if_pos hv]
 have hnp:NumP (pS l):=by rw[hS];exact jhz h
 obtain⟨d1,d2⟩:=dr_facts hnp;obtain⟨t,ht,hc⟩:=jex (pS l);have hP:=h1.drP
 have hfl:(nD (jal (pS l))).2.2<(jal (pS l)).length:=by
  rcases hP.at_ with⟨_,q⟩ | ⟨_,q1,q2,_⟩
  ·rw[q];omega
  ·rw[q2];exact(jfa _ q1).2
 have hdr':fdDr (pS l)≠67∧fdDr (pS l)≠82∧fdDr (pS l)≠68∧fdDr (pS l)≠66:=by
  by_cases q:drZ (jal (pS l))=0
  ·rw[d2 q];decide
  ·rw[(d1 q).1];rcases hP.at_ with⟨q1,_⟩ | ⟨_,_,_,q4⟩
   ·exact absurd q1 q
   ·have:drZ (jal (pS l))=36∨drZ (jal (pS l))=83∨drZ (jal (pS l))=43∨drZ (jal (pS l))=45:=by simpa using q4
    omega
 have hlen:((pS l).length:Int)=(jal (pS l)).length+(bif crZ (pS l)then 2 else 0):=by
  have:=congrArg List.length ht;rw[List.length_append]at this;rcases hc with⟨rfl,hc⟩ | ⟨rfl | rfl,hc⟩ <;>rw[hc] <;>simp at this ⊢ <;>omega
 have hrol:rolF (pS l)=jbh (drZ (jal (pS l))) (nD (jal (pS l))).2.2 (jal (pS l)) 0++(bif crZ (pS l)then [4,4]else []):=by
  rw[rolF,nR,h1.d]
 have hmk:ja4 (pS l)=(jbh (drZ (jal (pS l))) (nD (jal (pS l))).2.2 (jal (pS l)) 0).map rmk++(bif crZ (pS l)then [115,115]else []):=by
  rw[←h3,hrol,List.map_append];congr 1;cases crZ (pS l) <;>rfl
 have key:=wr_body (t:=t) (n:=(pS l).length) (ld:=ld) (mi:=mi) hP d1 d2 hlen (jal (pS l)) [] ds 0 (fun _ _ _=> []) (bif crZ (pS l)then [4,4]else []) (bif crZ (pS l)then [115,115]else []) rfl
 have key:=key fun ds a=>by
  rcases hc with⟨rfl,hc⟩ | ⟨ht',hc⟩
  ·rw[hc];rfl
  ·rw[hc]at hlen;simp only[cond_true]at hlen;have f1:(((jal (pS l)).length:Int)==(nD (jal (pS l))).2.2)=false:=by simp;omega
   have f2:(((jal (pS l)).length:Int)+1==(nD (jal (pS l))).2.2)=false:=by simp;omega
   have g1:(true&&decide (((jal (pS l)).length:Int)≥((pS l).length:Int)-2))=true:=by simp;omega
   have g2:(true&&decide (((jal (pS l)).length:Int)+1≥((pS l).length:Int)-2))=true:=by simp;omega
   have ss:∀c:Int,c=67∨c=82∨c=68∨c=66→ssZ c (fdDr (pS l)) mi=bif !mi then 32 else c:=fun c hcc=>by
    have:(fdDr (pS l) !=0&&c==fdDr (pS l))=false:=by
     have:(c==fdDr (pS l))=false:=by simp;omega
     rw[this,Bool.and_false]
    rw[ssZ,this];have h5:hasZ [67,82,68,66] c=true:=by rcases hcc with rfl | rfl | rfl | rfl<;>rfl
    rw[h5];cases mi<;>rfl
   have wc:∀(r c d a:Int)(i:Int),(i==(nD (jal (pS l))).2.2)=false→(true&&decide (i≥((pS l).length:Int)-2))=true→wrC (nD (jal (pS l))).2.2 true (pS l).length mi ld (fdFl (pS l)) r c d i a=bif !mi then 32 else c:=fun r c d a i q1 q2=>by
    rw[wrC,q1,q2];rfl
   rw[hc];simp only[cond_true];rcases ht' with rfl | rfl
   ·obtain⟨D,e⟩:=wr_2 (nD (jal (pS l))).2.2 (pS l).length mi ld (fdFl (pS l)) 67 82 ds (jal (pS l)).length a;rw[e,fd_2,wc _ _ _ _ _ f1 g1,wc _ _ _ _ _ f2 g2,ss 67 (by decide),ss 82 (by decide)]
   ·obtain⟨D,e⟩:=wr_2 (nD (jal (pS l))).2.2 (pS l).length mi ld (fdFl (pS l)) 68 66 ds (jal (pS l)).length a;rw[e,fd_2,wc _ _ _ _ _ f1 g1,wc _ _ _ _ _ f2 g2,ss 68 (by decide),ss 66 (by decide)]
 rw[hrol,hmk];have e0:((([]:J).length:Nat):Int)=0:=rfl;rw[e0,←ht]at key;exact key
theorem wr_law{l:J}(hl:IsB (pS l)∧(pS l).length≤32)(h:pN l=true){n:Int}(hn:(n.natAbs:Int)<tenZ (pD l).toNat):
  wrV (pS l) (pW l) (nD (jal (pS l))).2.2 (crZ (pS l)) (drZ (jal (pS l))) (fdFl (pS l)) (cntZ (mkGo (drZ (jal (pS l))) false (jal (pS l))) 100) (rolF (pS l)) (digZ n.natAbs (pD l).toNat) (decide (n<0))=
   (jft (pS l) (pW l) (pD l).toNat n,fdLe (pS l) (pW l) (pD l).toNat n):=by
 obtain⟨e1,e2⟩:=en_law hl h hn;obtain⟨_,_,_,p4,_,p6⟩:=jmw hl h n;have hv:=jdh h;have hS:pS l=exZ l:=by rw[pS,if_pos hv]
 have hnp:NumP (pS l):=by rw[hS];exact jhz h
 obtain⟨d1,d2⟩:=dr_facts hnp;have hP:=(jf6 h).1.drP;rw[wrV,e1,jft];cases hb:fdBl (pS l) (pW l) (pD l).toNat n with
 | true=>
  rw[e2 hb,←jjc];rfl
 | false=>
  simp only[cond_false];have h0:decide (fdLe (pS l) (pW l) (pD l).toNat n<0)=false:=jad (by have:= @fdLe_nn (pS l) (pW l) (pD l).toNat n p4;omega);rw[h0,cond_false,out_law h];rw[fdOK,hb,Bool.false_or]at p6;by_cases q:drZ (jal (pS l))=0
  ·have q1:=d2 q;have hO:jg5 (pS l) (pW l) (pD l).toNat n=fdGo (fdLe (pS l) (pW l) (pD l).toNat n) (fdFl (pS l)) 0 (decide (n<0)) (ja4 (pS l)) (pS l) (digZ n.natAbs (pD l).toNat) 0:=by rw[jg5,q1]
   rw[q,q1,hO];have z:((0:Int) !=0)=false:=rfl;rw[z,Bool.false_and];rfl
  ·have q1:=(d1 q).1;rw[q1]at p6 ⊢;have hq:(drZ (jal (pS l)) !=0)=true:=by simpa using q
   have hq2:(drZ (jal (pS l))==0)=false:=by simpa using q
   rw[hq2,Bool.false_or,jae]at p6;have h1:decide (fdLe (pS l) (pW l) (pD l).toNat n>0)=true:=jaa (by omega);rw[hq,h1]
   have hs:(bif drZ (jal (pS l))==36 then 36 else sgC (drZ (jal (pS l))) (decide (n<0)))=sgZ (drZ (jal (pS l))) (decide (n<0)):=by
    rcases hP.at_ with⟨z,_⟩ | ⟨_,_,_,q4⟩
    ·exact absurd z q
    ·have:drZ (jal (pS l))=36∨drZ (jal (pS l))=83∨drZ (jal (pS l))=43∨drZ (jal (pS l))=45:=by simpa using q4
     rcases this with e | e | e | e<;>rw[e] <;>cases decide (n<0) <;>rfl
   rw[hs];have:jg5 (pS l) (pW l) (pD l).toNat n=fdGo (fdLe (pS l) (pW l) (pD l).toNat n) (fdFl (pS l)) (drZ (jal (pS l))) (decide (n<0)) (ja4 (pS l)) (pS l) (digZ n.natAbs (pD l).toNat) 0:=by rw[jg5,q1]
   rw[this];rfl
end Go.Px
end
noncomputable section
set_option maxHeartbeats 3200000
namespace Go.Px
open Go Go.Ab Go.Proofs Go.Shelf
theorem cuN_lt(n q sc d:Int)(sg:Bool):((cuN n q sc d sg).natAbs:Int)<tenZ d.toNat:=by
 have hm:=Int.emod_nonneg (cuM n q sc) (b:=tenZ d.toNat) (by have:=jcy d.toNat;omega);have hl:=Int.emod_lt_of_pos (cuM n q sc) (jcy d.toNat);unfold cuN cuV;split<;>omega
theorem jlo{s:Y}(h:pN (bz s)=true){k cap:Nat}{d:F}(hR:jbv d k cap=true)(hz:zc d k=rolF (pS (bz s))){m:Int}(hm:(m.natAbs:Int)<tenZ (pD (bz s)).toNat):
  w64C (sz (pS (bz s))) (sz (digZ m.natAbs (pD (bz s)).toNat)) k cap (pW (bz s)) (fdFl (pS (bz s))) d=true∧
  wrV (bz (sz (pS (bz s)))) (pW (bz s)) (nD (jal (pS (bz s)))).2.2 (crZ (pS (bz s))) (drZ (jal (pS (bz s)))) (fdFl (pS (bz s))) (cntZ (mkGo (drZ (jal (pS (bz s)))) false (jal (pS (bz s)))) 100) (zc d k) (bz (sz (digZ m.natAbs (pD (bz s)).toNat))) (decide (m<0))=
   (jft (pS (bz s)) (pW (bz s)) (pD (bz s)).toNat m,fdLe (pS (bz s)) (pW (bz s)) (pD (bz s)).toNat m):=by
 have hl:=jiy s;have hr:=jar.1 hR;have hk:k=(pS (bz s)).length:=by rw[←rol_len h,←hz,jbg hr]
 have b1:bz (sz (pS (bz s)))=pS (bz s):=je1 hl.1;have hdd:=jfz (pD (bz s)).toNat m.natAbs;have b2:bz (sz (digZ m.natAbs (pD (bz s)).toNat))=digZ m.natAbs (pD (bz s)).toNat:=je1 (jij hdd);have z1:(sz (pS (bz s))).size=(pS (bz s)).length:=by rw[←jam,b1]
 have z2:(sz (digZ m.natAbs (pD (bz s)).toNat)).size=(pD (bz s)).toNat:=by rw[←jam,b2,jd7]
 obtain⟨f1,_,f3,_⟩:=jhx hl h;have hp:=jed h;have hw:=jmw hl h 0;refine⟨?_,by rw[b1,b2,hz];exact wr_law hl h hm⟩;simp only[w64C,jaf,jae];rw[hz,b2,z1,z2,f3];refine⟨hR,?_,hdd,⟨by omega,by omega,by omega,by omega,hw.2.2.2.1,by omega⟩,by omega,?_⟩
 ·simp only[roOK,List.all_eq_true,jae];exact fun r hr=>by have:=f1 r hr;omega
 ·unfold fdFl;split
  ·exact .inr rfl
  ·exact .inl rfl
def s20(n:Int)(q:Int)(s:Y):Bool×Value:=(decide (s.size≤9223372036854775807∧ -9223372036854775808≤n∧n≤9223372036854775807),.tuple ⟨[.string (sz (edS (bz s) n q)),.bool (edF (bz s) n q),.int .i64 (edE (bz s) q)]⟩)
theorem fn20:Fn1 Tryz.prog 233 Tryz.f233:= .m Tryz.func233
def nh(d e:Y)(a:F)(b c:Nat):Bool:=jbv a b c&& (roOK (zc a b) && (dgL (bz d) &&decide ((b≤1000∧d.size≤1000∧b≤(sz (pS (bz e))).size∧(sz (pS (bz e))).size≤1000∧0≤pW (bz e)∧pW (bz e)≤1000)∧cdg (zc a b)≤al d∧(fdFl (pS (bz e))=32∨fdFl (pS (bz e))=42))))
def nf(d e:Y)(a:F)(b c:Nat)(f:Prop):Prop:=bif nh d e a b c then f else False
def lc(e:Bool)(a d:Y)(b:F)(c:Nat):Prod J Int:=wrV (bz (sz (pS (bz a)))) (pW (bz a)) (nD (jal (pS (bz a)))).snd.snd (crZ (pS (bz a))) (drZ (jal (pS (bz a)))) (fdFl (pS (bz a))) (cntZ (mkGo (drZ (jal (pS (bz a)))) false (jal (pS (bz a)))) 100:Int) (zc b c) (bz d) e
def oe(a i:Bool)(c:Y)(b:J)(f l:F)(g h:Nat)(k:Value)(j:Value→Prop):Prop:=bif a then nf (sz b) c f g h (∀d:Y,∀e:Int,sz (lc i c (sz b) f g).fst=d→(lc i c (sz b) f g).snd=e→j (az (.string d::k::l)))else False
def jm(a b c:Int):Bool:=decide (a≤b∧b≤c)
theorem v20(n:Int)(q:Int)(s:Y)(R:Value→Prop):jaz Tryz.prog G37 noL Tryz.f233 [Enc.enc n,Enc.enc q,Enc.enc s] (fun _=>none) 0 (fun v _ _=>R v)=(dt (pN (bz s)) s (∀a:Nat,∀b:Nat,∀c:F,jbv c a b=true→zc c a=rolF (pS (bz s))→br (au q 0) true (au q 0 || dw q 9) (co [bq,B false,ak 1] R) (oe (i64B n&& (jm 0 q 9&& (jm 0 (pQ (bz s)) 9&&jm 0 (pD (bz s)) 9))) (decide (Px.cuN n q (pQ (bz s)) (pD (bz s)) (pG (bz s))<0)) s (digZ ((Px.cuN n q (pQ (bz s)) (pD (bz s)) (pG (bz s))).natAbs:Int) (pD (bz s)).toNat) c [ak 0] a b (B (Px.cuF n q (pQ (bz s)) (pD (bz s)) (pG (bz s)))) R)) (co [bq,B false,ak 30] R)):=by kernel_rfl
theorem ok20:jan Tryz.prog 233 (sp3 s20):=by
 refine jkh ok_G37 hmix fn20 jaj jag fun n q s hc=> ?_
 rw[ja5,v20];delta ax dt az co ak am bq br al nh nf lc oe jm dw au;have hc:(s.size≤9223372036854775807∧ -9223372036854775808≤n∧n≤9223372036854775807):=jab hc
 try dsimp only[s20]
 refine c_t (jaa hc.1) (cond_intro (fun h=> ?_) (fun h=> ?_))
 ·intro k cap d hR hz;refine c_t (by simp) (cond_intro (fun hq=> ?_) (fun hq=> ?_))
  ·have hq:q<0∨q>9:=by simpa using hq
   have h1:¬(0≤q∧q≤9):=by omega
   rw[edS,edF,edE,if_neg (fun e=>h1 ⟨e.2.1,e.2.2⟩),if_neg (fun e=>h1 ⟨e.2.1,e.2.2⟩),if_pos h,if_neg h1,jlr]
  ·have hq:0≤q∧q≤9:=by
    simp only[Bool.or_eq_false_iff,decide_eq_false_iff_not]at hq;omega
   have hp:=jed h;obtain⟨g1,g2⟩:=jlo h hR hz (cuN_lt n q (pQ (bz s)) (pD (bz s)) (pG (bz s)));refine c_t (by simp only[i64B,jaf,jae];omega) (c_t g1 fun t l h1 h2=> ?_);rw[g2]at h1 h2;rw[edS,edF,edE,if_pos ⟨h,hq⟩,if_pos ⟨h,hq⟩,if_pos h,if_pos hq,←h1]
 ·have h1:¬pN (bz s)=true:=by rw[h];simp
  rw[edS,edF,edE,if_neg (fun e=>h1 e.1),if_neg (fun e=>h1 e.1),if_neg h1,jlr]
theorem unK_dig{c:Int}(h1:c≥48)(h2:c≤57):unK c=false:=by
 cases h:unK c with
 | false=>rfl
 | true=>
  have:=jbk.1 h;simp only[punchedZ,List.mem_cons,List.not_mem_nil,or_false]at this;omega
def gsGo:J→J→J
 | [],_=> []
 | r::rs,cs=>bif r==2 then gsGo rs cs else bif r !=0&&r !=1 then gsGo rs cs.tail else(48+rdD (cs.headD 0))::gsGo rs cs.tail
def V67_0:Y×Y×Rw×Int×Nat×Nat×Int×Int×F→F:=fun(t,r4,o,aa,k2,cap2,L,i,d)=> [.string t,.string r4,o.v 200,.int .i64 aa,.slice (some ⟨1,0,some 1⟩) k2 cap2,.int .i64 L,.int .i64 i]
def B67_0:Y×Y×Rw×Int×Nat×Nat×Int×Int×F→O:=fun(t,r4,o,aa,k2,cap2,L,i,d)=> [some ⟨d,221,false⟩,o.b]
def S67_0:LSpecA (Y×Y×Rw×Int×Nat×Nat×Int×Int×F) where
 live:=[1,4,5,6,16,17,18]
 mid:=[1,200]
 n:=210
 ap:=[(.tmp 5,200)]
 dec vs bs:=match vs,bs with | [.string t,.string r4,.slice none 0 0,.int .i64 aa,.slice (some ⟨1,0,some 1⟩) k2 cap2,.int .i64 L,.int .i64 i],[some ⟨d,221,false⟩,none]=>some (t,r4,.nil,aa,k2,cap2,L,i,d) | [.string t,.string r4,.slice (some ⟨200,0,some 1⟩) om oc,.int .i64 aa,.slice (some ⟨1,0,some 1⟩) k2 cap2,.int .i64 L,.int .i64 i],[some ⟨d,221,false⟩,some ⟨od,5,true⟩]=>some (t,r4,.own od om oc,aa,k2,cap2,L,i,d) | _,_=>none
 pre:=fun(t,r4,o,aa,k2,cap2,L,i,d)=>o.ok&& (jbv d k2 cap2&&decide (0≤i∧i≤k2∧k2≤1000∧L=k2∧0≤aa∧aa≤i∧aa+cN ((zc d k2).drop i.toNat)≤t.size∧o.z.length≤i))
 fin:=fun(t,r4,o,aa,k2,cap2,L,i,d) Z=>(o.is=false→gsGo ((zc d k2).drop i.toNat) ((bz t).drop aa.toNat)=[]→ ∀a' i',Z (.exit 0) [.string t,.string r4,.slice none 0 0,.int .i64 a',.slice (some ⟨1,0,some 1⟩) k2 cap2,.int .i64 L,.int .i64 i'] [some ⟨d,221,false⟩,none])∧(∀a' i' od' om' oc',jc6 od' om' oc'=true→zc od' om'=o.z++gsGo ((zc d k2).drop i.toNat) ((bz t).drop aa.toNat)→Z (.exit 0) [.string t,.string r4,.slice (some ⟨200,0,some 1⟩) om' oc',.int .i64 a',.slice (some ⟨1,0,some 1⟩) k2 cap2,.int .i64 L,.int .i64 i'] [some ⟨d,221,false⟩,some ⟨od',5,true⟩])
def og(g h:Y)(f:Exit→F→O→Prop)(d i j k:Int)(c:F)(e l m:Nat):Prop:=∀a:Nat,∀b:F,iz (jr [] c (bm d::b) e 200) f [d9 [(e,200)] (bm d::b)] b (dm j k 1 l m) a 1 (f0 [(e,200)] c) (.string g) (.string h) (dv 200 0 1 a) (bp (i+1))
def jt(a b:Y)(d:F)(c:Value):F:= .string a:: .string b::c::d
theorem r67_0n(t:Y)(r4:Y)(aa:Int)(k2:Nat)(cap2:Nat)(L:Int)(i:Int)(d:F)(jk:Tmps)(R:Exit→F→O→Prop):(jb6 Tryz.prog G37 noL Tryz.f182.ntmps (jbb Tryz.f182 0) (tl S67_0.live (V67_0 (t,r4,.nil,aa,k2,cap2,L,i,d)) jk) (ml S67_0.mid (B67_0 (t,r4,.nil,aa,k2,cap2,L,i,d))) S67_0.n fun e t' m' _=>S67_0.out R e t' m')=(jg R i L .i64 [none] [] d (jt t r4 (ak aa::dy L i 1 k2 cap2) ip) k2 0 (f0 [] d) (bif c7 i 2 d then cu (bw [] d) R [f0 [] d,none] (jt t r4 (ak aa::dm L i 1 k2 cap2) ip)else bif dp aa t.size then br (cq i d 0 1 !=0) true (cq i d 0 1 !=0&&cq i d 0 1 !=1) (cu (bw [] d) R [f0 [] d,none] (jt t r4 (bp (aa+1)::dm L i 1 k2 cap2) ip)) (bif gz (bv t aa) 48 then bif gp (bv t aa) 48 57 then og t r4 R (bv t aa) aa L i d 248 k2 cap2 else bif unK (bv t aa)then og t r4 R (IntKind.u8.wrap (48+IntKind.u8.wrap (unD (bv t aa)))) aa L i d 252 k2 cap2 else og t r4 R 48 aa L i d 249 k2 cap2 else False)else False)):=by kernel_rfl
def oh(j k:Y)(i:Exit→F→O→Prop)(g l m n:Int)(c f:F)(d e h o p:Nat):Prop:=bif f8 c d e 1 then∀a:Nat,∀b:F,iz (jr [] f (fv c e++ [bm g]++b) h 200) i [d9 [(h,200)] (fv c e++ [bm g]++b)] b (dm m n 1 o p) a (e+1) (f0 [(h,200)] f) (.string j) (.string k) (dv 200 0 (e+1) a) (bp (l+1))else False
theorem r67_0o(t:Y)(r4:Y)(od:F)(om:Nat)(oc:Nat)(aa:Int)(k2:Nat)(cap2:Nat)(L:Int)(i:Int)(d:F)(jk:Tmps)(R:Exit→F→O→Prop):(jb6 Tryz.prog G37 noL Tryz.f182.ntmps (jbb Tryz.f182 0) (tl S67_0.live (V67_0 (t,r4,(.own od om oc),aa,k2,cap2,L,i,d)) jk) (ml S67_0.mid (B67_0 (t,r4,(.own od om oc),aa,k2,cap2,L,i,d))) S67_0.n fun e t' m' _=>S67_0.out R e t' m')=(ft (au i L) (dp i k2) (l5 d od) (bif jbc .i64 d (e7 i)then bif c7 i 2 d then cu (l5 d od) R [f0 e8 d,d9 e8 od] (jt t r4 (ak aa::dm L i 1 k2 cap2) (jf om oc))else bif dp aa t.size then br (cq i d 0 1 !=0) true (cq i d 0 1 !=0&&cq i d 0 1 !=1) (cu (l5 d od) R [f0 e8 d,d9 e8 od] (jt t r4 (bp (aa+1)::dm L i 1 k2 cap2) (jf om oc))) (bif gz (bv t aa) 48 then bif gp (bv t aa) 48 57 then oh t r4 R (bv t aa) aa L i od d oc om 248 k2 cap2 else bif unK (bv t aa)then oh t r4 R (IntKind.u8.wrap (48+IntKind.u8.wrap (unD (bv t aa)))) aa L i od d oc om 252 k2 cap2 else oh t r4 R 48 aa L i od d oc om 249 k2 cap2 else False)else False else False) (R (.exit 0) (jt t r4 (ak aa::dy L i 1 k2 cap2) (jf om oc)) [f0 e8 d,d9 e8 od])):=by kernel_rfl
theorem l67_0:LOKf Tryz.prog (oneL 0 S67_0.hA) Tryz.f182:=by
 refine jcb (h:=S67_0.hA) (by kernel_rfl) (jbu ok_G37 hmix (by kernel_rfl) (jbf _) S67_0 V67_0 B67_0 (fun(t,r4,o,aa,k2,cap2,L,i,d)=>(k2-i).toNat) ?_ ?_ ?_)
 ·intro vs bs s h;simp only[S67_0]at h;split at h
  all_goals first | (cases h;exact⟨rfl,rfl⟩) | cases h | (split at h<;>first | (rename_i hq;cases h;have hq:=jah hq;subst hq;exact⟨rfl,rfl⟩) | cases h)
 ·exact fun⟨t,r4,o,aa,k2,cap2,L,i,d⟩ hp=>by
   simp only[S67_0,jaf]at hp;have hr:=jar.1 hp.2.1;cases o with
   | nil=>simp[V67_0,B67_0,S67_0,jaw,jbt,idsL,ids,Rw.v,Rw.b,jao hr.plain]
   | own od om oc=>simp[V67_0,B67_0,S67_0,jaw,jbt,idsL,ids,Rw.v,Rw.b,jao hr.plain,jao (jat.1 hp.1).plain]
 ·intro⟨t,r4,o,aa,k2,cap2,L,i,d⟩ jk Z hp hf;simp only[S67_0]at hp hf;cases o with
  | nil=>
   rw[r67_0n];delta c9 ft e7 bw ct dp au jg br cu iz bp dq dv f0 ak d8 dm d9 bm jr og bv im f9 gp gz jt ip cq c7 dy;simp only[jaf,jae]at hp;obtain⟨-,hR,hp⟩:=hp;have hr:=jar.1 hR;simp only[Rw.z,List.length_nil]at hp hf;have e0:0+i.toNat*1=i.toNat:=by omega
   rw[e0];apply cond_intro<;>intro h
   ·have h:=jab h;obtain⟨a1,a3⟩:=hr.at hp.1 (by omega);rw[a3,gsGo]at hf;rw[a3,cN]at hp;have hc:=jng ((zc d k2).drop (i+1).toNat);rw[a1,w64 (n:=i+1) (by omega),w64 (n:=aa+1) (by omega)];generalize jaq d i.toNat=r at*;refine c_t (jaa (by omega)) (c_t rfl (cond_intro (fun q=> ?_) (fun q=> ?_)))
    ·rw[q,cond_true]at hf hp;refine c_t (by rw[hr.good];rfl) ?_;rw[hr.rlb];exact⟨(t,r4,.nil,aa,k2,cap2,L,i+1,d),rfl,rfl,by simp only[S67_0,jaf,jae];exact⟨rfl,hR,by simp only[Rw.z,List.length_nil];omega⟩,by simp only;omega,hf⟩
    ·rw[q,cond_false]at hf hp;obtain⟨p1,p2,p3,p4,p5,p6,p7,p8⟩:=hp;rw[jd2 p5 (by omega),List.headD_cons,List.tail_cons]at hf;have hB:=jho t aa.toNat;generalize jai t aa.toNat=c at*;have hu:0≤unD c∧unD c≤9:=by unfold unD;split<;>omega
     rw[w8 (n:=unD c) (by omega),w8 (n:=48+unD c) (by omega)];refine c_t (jaa (by omega)) (c_t (by simp) (cond_intro (fun q2=> ?_) (fun q2=>c_t (by simp) (cond_intro (fun q3=> ?_) (fun q3=>cond_intro (fun q4=> ?_) (fun q4=> ?_))))))
     ·rw[q2,cond_true]at hf;refine c_t (by rw[hr.good];rfl) ?_;rw[hr.rlb];exact⟨(t,r4,.nil,aa+1,k2,cap2,L,i+1,d),rfl,rfl,by simp only[S67_0,jaf,jae];exact⟨rfl,hR,by simp only[Rw.z,List.length_nil];omega⟩,by simp only;omega,hf⟩
     ·rw[q2,cond_false]at hf;intro cap1 tail ht;obtain⟨h1,h2⟩:RowP (Value.int IntKind.u8 (c)::tail) 1 cap1∧zc (Value.int IntKind.u8 (c)::tail) 1=[c]:=jfx [c] ht;have hl1:=ja6 h1;generalize Value.int IntKind.u8 (c)::tail=od' at*
      have e:48+rdD c=c:=by
       have q:=q3;simp only[jaf,jae]at q;unfold rdD;rw[unK_dig q.1 q.2,q3];simp only[cond_true,cond_false];omega
      rw[e]at hf;refine c_t (by rw[hr.good,h1.good];rfl) ?_;rw[hr.rlb,h1.rlb];exact⟨(t,r4,.own od' (1) cap1,aa+1,k2,cap2,L,i+1,d),rfl,rfl,by simp only[S67_0,jaf,jae];exact⟨jat.2 h1,hR,by simp only[Rw.z,hl1];omega⟩,by simp only;omega,⟨fun q=>(by cases q),fun a' i' od'' om'' oc'' g1 g2=>hf.2 a' i' od'' om'' oc'' g1 (by rw[g2];simp only[Rw.z,h2,List.append_assoc,List.cons_append,List.nil_append])⟩⟩
     ·rw[q2,cond_false]at hf;intro cap1 tail ht;obtain⟨h1,h2⟩:RowP (Value.int IntKind.u8 (48+unD c)::tail) 1 cap1∧zc (Value.int IntKind.u8 (48+unD c)::tail) 1=[48+unD c]:=jfx [48+unD c] ht;have hl1:=ja6 h1;generalize Value.int IntKind.u8 (48+unD c)::tail=od' at*
      have e:48+rdD c=48+unD c:=by
       unfold rdD;rw[q4];rfl
      rw[e]at hf;refine c_t (by rw[hr.good,h1.good];rfl) ?_;rw[hr.rlb,h1.rlb];exact⟨(t,r4,.own od' (1) cap1,aa+1,k2,cap2,L,i+1,d),rfl,rfl,by simp only[S67_0,jaf,jae];exact⟨jat.2 h1,hR,by simp only[Rw.z,hl1];omega⟩,by simp only;omega,⟨fun q=>(by cases q),fun a' i' od'' om'' oc'' g1 g2=>hf.2 a' i' od'' om'' oc'' g1 (by rw[g2];simp only[Rw.z,h2,List.append_assoc,List.cons_append,List.nil_append])⟩⟩
     ·rw[q2,cond_false]at hf;intro cap1 tail ht;obtain⟨h1,h2⟩:RowP (Value.int IntKind.u8 (48)::tail) 1 cap1∧zc (Value.int IntKind.u8 (48)::tail) 1=[48]:=jfx [48] ht;have hl1:=ja6 h1;generalize Value.int IntKind.u8 (48)::tail=od' at*
      have e:48+rdD c=48:=by
       unfold rdD;rw[q4,q3];rfl
      rw[e]at hf;refine c_t (by rw[hr.good,h1.good];rfl) ?_;rw[hr.rlb,h1.rlb];exact⟨(t,r4,.own od' (1) cap1,aa+1,k2,cap2,L,i+1,d),rfl,rfl,by simp only[S67_0,jaf,jae];exact⟨jat.2 h1,hR,by simp only[Rw.z,hl1];omega⟩,by simp only;omega,⟨fun q=>(by cases q),fun a' i' od'' om'' oc'' g1 g2=>hf.2 a' i' od'' om'' oc'' g1 (by rw[g2];simp only[Rw.z,h2,List.append_assoc,List.cons_append,List.nil_append])⟩⟩
   ·have h:=jac h;rw[hr.end (by omega),gsGo]at hf;refine c_t (by rw[hr.good];rfl) ?_;rw[hr.rlb];exact hf.1 rfl rfl aa i
  | own od om oc=>
   rw[r67_0o];delta c9 ft d9 e8 f0 jt dq jf ak dv dy br cu iz bp d8 dm bm fv jr f8 oh bv im f9 gp gz l5 cq ct dp c7 e7 au;simp only[jaf,jae]at hp;obtain⟨ho,hR,hp⟩:=hp;have hr:=jar.1 hR;have ho:=jat.1 ho;have hzl:=ja6 ho;simp only[Rw.z,hzl]at hp hf;have e0:0+i.toNat*1=i.toNat:=by omega
   rw[e0];apply cond_intro<;>intro h
   ·have h:=jab h;obtain⟨a1,a3⟩:=hr.at hp.1 (by omega);rw[a3,gsGo]at hf;rw[a3,cN]at hp;have hc:=jng ((zc d k2).drop (i+1).toNat);rw[a1,w64 (n:=i+1) (by omega),w64 (n:=aa+1) (by omega)];generalize jaq d i.toNat=r at*;refine c_t (jaa (by omega)) (c_t rfl (cond_intro (fun q=> ?_) (fun q=> ?_)))
    ·rw[q,cond_true]at hf hp;refine c_t (by rw[hr.good,ho.good];rfl) ?_;rw[hr.rlb,ho.rlb];exact⟨(t,r4,.own od om oc,aa,k2,cap2,L,i+1,d),rfl,rfl,by simp only[S67_0,jaf,jae];exact⟨jat.2 ho,hR,by simp only[Rw.z,hzl];omega⟩,by simp only;omega,hf⟩
    ·rw[q,cond_false]at hf hp;obtain⟨p1,p2,p3,p4,p5,p6,p7,p8⟩:=hp;rw[jd2 p5 (by omega),List.headD_cons,List.tail_cons]at hf;have hB:=jho t aa.toNat;generalize jai t aa.toNat=c at*;have hu:0≤unD c∧unD c≤9:=by unfold unD;split<;>omega
     rw[w8 (n:=unD c) (by omega),w8 (n:=48+unD c) (by omega)];refine c_t (jaa (by omega)) (c_t (by simp) (cond_intro (fun q2=> ?_) (fun q2=>c_t (by simp) (cond_intro (fun q3=> ?_) (fun q3=>cond_intro (fun q4=> ?_) (fun q4=> ?_))))))
     ·rw[q2,cond_true]at hf;refine c_t (by rw[hr.good,ho.good];rfl) ?_;rw[hr.rlb,ho.rlb];exact⟨(t,r4,.own od om oc,aa+1,k2,cap2,L,i+1,d),rfl,rfl,by simp only[S67_0,jaf,jae];exact⟨jat.2 ho,hR,by simp only[Rw.z,hzl];omega⟩,by simp only;omega,hf⟩
     ·rw[q2,cond_false]at hf;refine c_t (ho.ask (k:=1) (by omega)) (fun cap1 tail ht=> ?_);obtain⟨h1,h2⟩:=ho.app1 (c) ht;have hl1:=ja6 h1;generalize List.take (om*1) od++ [Value.int IntKind.u8 (c)]++tail=od' at*
      have e:48+rdD c=c:=by
       have q:=q3;simp only[jaf,jae]at q;unfold rdD;rw[unK_dig q.1 q.2,q3];simp only[cond_true,cond_false];omega
      rw[e]at hf;refine c_t (by rw[hr.good,h1.good];rfl) ?_;rw[hr.rlb,h1.rlb];exact⟨(t,r4,.own od' (om+1) cap1,aa+1,k2,cap2,L,i+1,d),rfl,rfl,by simp only[S67_0,jaf,jae];exact⟨jat.2 h1,hR,by simp only[Rw.z,hl1];omega⟩,by simp only;omega,⟨fun q=>(by cases q),fun a' i' od'' om'' oc'' g1 g2=>hf.2 a' i' od'' om'' oc'' g1 (by rw[g2];simp only[Rw.z,h2,List.append_assoc,List.cons_append,List.nil_append])⟩⟩
     ·rw[q2,cond_false]at hf;refine c_t (ho.ask (k:=1) (by omega)) (fun cap1 tail ht=> ?_);obtain⟨h1,h2⟩:=ho.app1 (48+unD c) ht;have hl1:=ja6 h1;generalize List.take (om*1) od++ [Value.int IntKind.u8 (48+unD c)]++tail=od' at*
      have e:48+rdD c=48+unD c:=by
       unfold rdD;rw[q4];rfl
      rw[e]at hf;refine c_t (by rw[hr.good,h1.good];rfl) ?_;rw[hr.rlb,h1.rlb];exact⟨(t,r4,.own od' (om+1) cap1,aa+1,k2,cap2,L,i+1,d),rfl,rfl,by simp only[S67_0,jaf,jae];exact⟨jat.2 h1,hR,by simp only[Rw.z,hl1];omega⟩,by simp only;omega,⟨fun q=>(by cases q),fun a' i' od'' om'' oc'' g1 g2=>hf.2 a' i' od'' om'' oc'' g1 (by rw[g2];simp only[Rw.z,h2,List.append_assoc,List.cons_append,List.nil_append])⟩⟩
     ·rw[q2,cond_false]at hf;refine c_t (ho.ask (k:=1) (by omega)) (fun cap1 tail ht=> ?_);obtain⟨h1,h2⟩:=ho.app1 (48) ht;have hl1:=ja6 h1;generalize List.take (om*1) od++ [Value.int IntKind.u8 (48)]++tail=od' at*
      have e:48+rdD c=48:=by
       unfold rdD;rw[q4,q3];rfl
      rw[e]at hf;refine c_t (by rw[hr.good,h1.good];rfl) ?_;rw[hr.rlb,h1.rlb];exact⟨(t,r4,.own od' (om+1) cap1,aa+1,k2,cap2,L,i+1,d),rfl,rfl,by simp only[S67_0,jaf,jae];exact⟨jat.2 h1,hR,by simp only[Rw.z,hl1];omega⟩,by simp only;omega,⟨fun q=>(by cases q),fun a' i' od'' om'' oc'' g1 g2=>hf.2 a' i' od'' om'' oc'' g1 (by rw[g2];simp only[Rw.z,h2,List.append_assoc,List.cons_append,List.nil_append])⟩⟩
   ·have h:=jac h;rw[hr.end (by omega),gsGo]at hf;refine c_t (by rw[hr.good,ho.good];rfl) ?_;rw[hr.rlb,ho.rlb];exact hf.2 aa i od om oc (jat.2 ho) (by simp)
theorem v67(s:Y)(nb:Bool)(w:Int)(dg:Int)(sc:Int)(sg:Bool)(k:Nat)(cap:Nat)(dr:Int)(f:Int)(cr:Bool)(fl:Int)(fm:Int)(t:Y)(d:F)(R:Value→Prop):(jaz Tryz.prog G37 (oneL 0 S67_0.hA) Tryz.f182 [.pointer (some ⟨0,0,some 0⟩),S t] (vwF2 (fmL s nb w dg sc sg 1 k cap dr f cr fl fm) d) 2 (fun v _ _=>R v))=(fw (bw [] d) (j2 d 210) (S67_0.toLSpec.pre (t,(am,(Rw.nil,((0:Int),(k,(cap,(natO k,((0:Int),rlbL [] d))))))))) ((Rw.is Rw.nil=false→gsGo (kx d k) (fk t)=([]:J)→Int→Int→gy (rlbL [] d) 210 (R (S ByteArray.empty)))∧(Int→Int→(∀a:F,∀b:Nat,∀c:Nat,jc6 a b c=true→zc a b=Rw.z Rw.nil++gsGo (kx d k) (fk t)→kp (jaw 210 a&&true) (jbe a 0 b) (rlbL [] d) (S (ja8 a 0 b)) R))) False):=by kernel_rfl
theorem w_67(s:Y)(nb:Bool)(w:Int)(dg:Int)(sc:Int)(sg:Bool)(k:Nat)(cap:Nat)(dr:Int)(f:Int)(cr:Bool)(fl:Int)(fm:Int)(t:Y)(d:F)(hR:jbv d k cap=true)(hk:k≤1000)(hc:cN (zc d k)≤t.size)
  {R:Value→Prop} (hV:R (.string (sz (gsGo (zc d k) (bz t))))):
  jea Tryz.prog G37 (oneL 0 S67_0.hA) Tryz.f182 [.pointer (some ⟨0,0,some 0⟩),.string t] (vwF2 (fmL s nb w dg sc sg 1 k cap dr f cr fl fm) d) 2 (fun v _ _=>R v):=by
 rw[jea,v67];delta fw aq kp fk kx gy am j2 bw;have h:=jar.1 hR;have z0:Int.toNat 0=0:=rfl;have hg:(jas [] d&&true&&true&& (jaw 210 d&&true))=true:=by rw[h.good];simp[jaw,idsL,jao h.plain]
 have hg':(jas [] d&&true&& (jaw 210 d&&true))=true:=by rw[h.good];simp[jaw,idsL,jao h.plain]
 have hi:(jaw 210 d&&true)=true:=by simp[jaw,idsL,jao h.plain]
 simp only[h.rlb,z0,List.drop_zero];refine c_t (by first | exact hg | exact hg') (c_t ?_ ⟨fun _ hn a' i'=>c_t hi fun _=> ?_,fun a' i' od om oc g1 g2=> ?_⟩)
 ·show(Rw.nil.ok&& (jbv d k cap&&decide ((0:Int)≤0∧(0:Int)≤k∧k≤1000∧natO k=k∧(0:Int)≤0∧(0:Int)≤0∧0+cN ((zc d k).drop (Int.toNat 0))≤t.size∧((Rw.nil.z.length:Nat):Int)≤0)))=true;rw[hR,jb1,z0,List.drop_zero];simp only[Bool.true_and,Rw.ok,Rw.z,List.length_nil,jae];exact⟨by omega,by omega,by omega,trivial,by omega,by omega,by omega,by omega⟩
 ·rw[hn]at hV;exact hV
 ·have ho:=jat.1 g1;have hio:(jaw 210 d&& (jaw 210 od&&true))=true:=by simp[jaw,idsL,jao h.plain,jao ho.plain]
  have s3:=ho.str;have g3:zc od om=gsGo (zc d k) (bz t):=by rw[g2];rfl
  rw[g3]at s3;exact c_t hio fun _=>c_t s3.1 (by rw[s3.2];exact hV)
def h67:F→Lk→Nat→(Value→Lk→Nat→Prop)→Prop:=fun args m n K=>match args with
 | [.pointer (some ⟨a,0,some 0⟩),.string t]=>match m a with
  | some ⟨[.string s,.bool nb,.int .i64 w,.int .i64 dg,.int .i64 sc,.bool sg,.slice (some ⟨y,0,some 1⟩) k cap,.int .u8 dr,.int .i64 f,.bool cr,.int .u8 fl,.int .i64 fm],132,own⟩=>match m y with
   | some ⟨d,221,own2⟩=>match cnd (jbv d k cap&&decide (k≤1000∧cN (zc d k)≤t.size))with
    | true=>∀e:Y,sz (gsGo (zc d k) (bz t))=e→K (.string e) m n
    | false=>False
   | _=>False
  | _=>False
 | _=>False
theorem h67_ok:jcw Tryz.prog 182 h67:=by
 refine jh9 ok_G37 hmix (.m Tryz.func182) l67_0 fun args m n K h=> ?_
 unfold h67 at h;split at h
 case h_2=>exact h.elim
 rename_i a t;split at h
 case h_2=>exact h.elim
 rename_i s nb w dg sc sg y k cap dr f cr fl fm own hm;split at h
 case h_2=>exact h.elim
 rename_i d own2 hy;split at h
 case h_2=>exact h.elim
 rename_i hc;simp only[cnd,jaf,jae]at hc;obtain⟨h1,h2,h3⟩:=hc
 refine⟨[.pointer (some ⟨0,0,some 0⟩),.string t],_,2,rho2 a y,.string (sz (gsGo (zc d k) (bz t))),sub_F2 (jar.1 h1).plain hm hy,fun ι=>by simp[ren,ren1,rho2],jag,fun v hv j hj=> ?_,rfl,
  w_67 s nb w dg sc sg k cap dr f cr fl fm t d h1 h2 h3 (R:=fun v=>v= .string (sz (gsGo (zc d k) (bz t)))) rfl,h _ rfl⟩
 simp at hv;rcases hv with rfl | rfl
 ·have:j=0:=by simpa[ids]using hj
  omega
 ·simp[ids]at hj
def V71_0:Y×Bool×F×Nat×Nat×Int×Int→F:=fun(s,r,d,m,cap,L,i)=> [S s,B r,.slice (some ⟨300,0,some 1⟩) m cap,I L,I i]
def B71_0:Y×Bool×F×Nat×Nat×Int×Int→O:=fun(s,r,d,m,cap,L,i)=> [some ⟨d,5,false⟩]
def S71_0:LSpecA (Y×Bool×F×Nat×Nat×Int×Int) where
 live:=[0,4,15,16,17]
 mid:=[300]
 n:=310
 ap:=[(.tmp 15,300)]
 dec vs bs:=match vs,bs with | [.string s,.bool r,.slice (some ⟨300,0,some 1⟩) m cap,.int .i64 L,.int .i64 i],[some ⟨d,5,false⟩]=>some (s,r,d,m,cap,L,i) | _,_=>none
 pre:=fun(s,r,d,m,cap,L,i)=>vwOK d m&& ((bz s).all (hasZ [65,88,57]) &&decide (0≤i∧i≤m∧L=m∧s.size=m∧m≤1000))
 fin:=fun(s,r,d,m,cap,L,i) Z=>(bif onGo ((bz s).drop i.toNat) ((zc d m).drop i.toNat)then∀i',Z (.exit 0) [S s,B r,.slice (some ⟨300,0,some 1⟩) m cap,I L,I i'] [some ⟨d,5,false⟩]else∀i',Z .ret [S s,B false,.slice (some ⟨300,0,some 1⟩) m cap,I L,I i'] [some ⟨d,5,false⟩])
def pb(d e:Bool)(a:Y)(b:Int)(c:F):Bool:=bif cw a b 65 then cm (!(bif decide (cq b c 0 1≥65)then decide (cq b c 0 1≤90) || gp (cq b c 0 1) 97 122 else gp (cq b c 0 1) 97 122)) (cq b c 0 1 !=32 || d&&e) (d&&e)else d&&e
theorem r71_0(s:Y)(r:Bool)(d:F)(m:Nat)(cap:Nat)(L:Int)(i:Int)(jk:Tmps)(R:Exit→F→O→Prop):(jb6 Tryz.prog G37 noL Tryz.f126.ntmps (jbb Tryz.f126 0) (tl S71_0.live (V71_0 (s,r,d,m,cap,L,i)) jk) (ml S71_0.mid (B71_0 (s,r,d,m,cap,L,i))) S71_0.n fun e t' m' _=>S71_0.out R e t' m')=(jg R i L .u8 [] [(300,300)] d (S s::B r::dy L i 300 m cap) m 0 (jo [] d 300) (bif gz (cq i d 0 1) 48 then ji (decide (cq i d 0 1≥65)) (decide (cq i d 0 1≤90) || gz (cq i d 0 1) 97) (gz (cq i d 0 1) 97) (dp i s.size&&pb (dp i s.size) (cm (cw s i 57) (!gp (cq i d 0 1) 48 57 || true) true) s i d) (kg (pb (cw s i 57) (!gp (cq i d 0 1) 48 57&&cq i d 0 1 !=32) s i d) R [] [(300,300)] d (dy L i 300 m cap) (dm L i 300 m cap) (jo [] d 300) (S s) (B false) (S s) (B r)) False else False)):=by kernel_rfl
theorem l71_0:LOKf Tryz.prog (oneL 0 S71_0.hA) Tryz.f126:=by
 refine jcb (h:=S71_0.hA) (by kernel_rfl) (jbu ok_G37 hmix (by kernel_rfl) (jbf _) S71_0 V71_0 B71_0 (fun(s,r,d,m,cap,L,i)=>(m-i).toNat) ?_ ?_ ?_)
 ·intro vs bs s h;simp only[S71_0]at h;split at h
  all_goals first | (cases h;exact⟨rfl,rfl⟩) | cases h | (split at h<;>first | (rename_i hq;cases h;have hq:=jah hq;subst hq;exact⟨rfl,rfl⟩) | cases h)
 ·exact fun⟨s,r,d,m,cap,L,i⟩ hp=>by
   simp only[S71_0,jaf]at hp;have hv:=jcx.1 hp.1;simp[V71_0,B71_0,S71_0,jaw,jbt,idsL,ids,jao hv.plain]
 ·intro⟨s,r,d,m,cap,L,i⟩ jk Z hp hf;rw[r71_0];delta c9 ft e7 bw ct dp au jg ji cu kg jo bp ak d8 dq dv dm dy cm cq im f9 gp cw pb gz;simp only[S71_0]at hp hf;simp only[jaf,jae]at hp;obtain⟨hV,hA,hp⟩:=hp;have hv:=jcx.1 hV;have e0:0+i.toNat*1=i.toNat:=by omega
  rw[e0];simp only[hv.rlb];have hg:∀ps,(jas ps d&&true&&true)=true:=fun ps=>by rw[goodL_plain hv.plain];rfl
  apply cond_intro<;>intro h
  ·have h:=jab h;obtain⟨a1,a2,a3⟩:=hv.at hp.1 (by omega)
   have hcb:jai s i.toNat=65∨jai s i.toNat=88∨jai s i.toNat=57:=by
    have hm:jai s i.toNat∈bz s:=List.drop_subset i.toNat (bz s) (by rw[jd2 hp.1 (by omega)];exact List.mem_cons_self);have:=List.all_eq_true.1 hA _ hm;have:=jbk.1 this;simp only[List.mem_cons,List.not_mem_nil,or_false]at this;omega
   rw[jd2 hp.1 (by omega),a3,onGo]at hf;rw[a1,w64 (n:=i+1) (by omega),jaa (show 0≤i∧i<(m:Int)by omega),jaa (show 0≤i∧i<(s.size:Int)by omega)];generalize jaq d i.toNat=b at*;generalize jai s i.toNat=c at*
   have el:(bif decide (b≥65)then decide (b≤90) || decide (b≥97) &&decide (b≤122)else decide (b≥97) &&decide (b≤122))=letZ b:=by
    unfold letZ;rw[Bool.eq_iff_iff];by_cases h1:b≥65<;>simp[h1] <;>omega
   have ed:(decide (b≥48) &&decide (b≤57))=jg4 b:=by
    rw[Bool.eq_iff_iff];simp[jg4]
   rw[el,ed]
   have key:(bif c==65 then bif !letZ b then b !=32 || c==57&& (!jg4 b&&b !=32)else c==57&& (!jg4 b&&b !=32)else c==57&& (!jg4 b&&b !=32))= !oneZ c b:=by
    unfold oneZ;rcases hcb with rfl | rfl | rfl<;>by_cases h2:b=32<;>simp[h2] <;>cases letZ b<;>cases jg4 b<;>simp
   rw[key];refine c_t rfl (c_t rfl (c_t (by simp) (c_t (by cases decide (b≥65) <;>simp) (c_t (by cases c==65<;>cases !letZ b<;>cases c==57<;>simp) (cond_intro (fun q=>c_t (hg _) ?_) (fun q=>c_t (hg _) ?_))))))
   ·have q:oneZ c b=false:=by simpa using q
    rw[q,Bool.false_and,cond_false]at hf;exact hf i
   ·have q:oneZ c b=true:=by simpa using q
    rw[q,Bool.true_and]at hf;exact⟨(s,r,d,m,cap,L,i+1),rfl,rfl,by simp only[S71_0,jaf,jae];exact⟨hV,hA,by omega⟩,by simp only;omega,hf⟩
  ·have h:=jac h;have hz:(bz s).drop i.toNat=[]:=List.drop_eq_nil_of_le (by rw[jam];omega);rw[hv.end (by omega),hz]at hf;exact c_t (hg _) (hf i)
def s71(s:Y)(t:Y):Bool×Value:=((bz s).all (hasZ [65,88,57]) &&decide (s.size≤1000∧t.size≤9223372036854775807),.bool (decide ((t.size:Int)=s.size) &&onGo (bz s) (bz t)))
theorem v71(s:Y)(t:Y)(R:Value→Prop):jaz Tryz.prog G37 (oneL 0 S71_0.hA) Tryz.f126 [Enc.enc s,Enc.enc t] (fun _=>none) 0 (fun v _ _=>R v)=(bif al t !=al s then R (B false)else∀a:Nat,l0 (bw [(7,300)] (Lib.strCells t)) true (S71_0.toLSpec.pre (s,(false,(go t 7 300,(t.size,(a,(natO t.size,(0:Int)))))))) t a 310 7 300 (bif onGo (fk s) (jp (go t 7 300) t.size)then Int→gy (go t 7 300) 310 (R (B true))else Int→gy (go t 7 300) 310 (R (B false)))):=by kernel_rfl
theorem ok71:jan Tryz.prog 126 (sp2 s71):=by
 refine jdg ok_G37 hmix (.m Tryz.func126) l71_0 jag fun s t hc=> ?_
 rw[ja5,v71];delta fw go l0 gy jp fk bw al
 try dsimp only[s71]
 obtain⟨hA,hc⟩:=Bool.and_eq_true_iff.1 hc;have hc:=jab hc;obtain⟨hv,hz⟩:=jlp t;have hV:=jcx.2 hv;refine cond_intro (fun h=> ?_) (fun h=>fun cap _=> ?_)
 ·have h:¬(t.size:Int)=s.size:=by simpa using h
  rw[jad h];rfl
 ·have h:(t.size:Int)=s.size:=by simpa using h
  have hg:(jas [(7,300)] (Lib.strCells t) &&true&&true&& (jaw 310 (Lib.strCells t) &&true))=true:=by rw[goodL_plain hv.plain];simp[jaw,idsL,jao hv.plain]
  have hi:(jaw 310 (Lib.strCells t) &&true)=true:=by simp[jaw,idsL,jao hv.plain]
  have z0:Int.toNat 0=0:=rfl;simp only[hv.rlb,z0,List.drop_zero,hz];refine c_t hg (c_t ?_ ?_)
  ·show(vwOK (Lib.strCells t) t.size&& ((bz s).all (hasZ [65,88,57]) &&decide ((0:Int)≤0∧(0:Int)≤t.size∧natO t.size=t.size∧s.size=t.size∧t.size≤1000)))=true;rw[hV,hA,jb1];simp only[Bool.true_and,jae];exact⟨by omega,by omega,trivial,by omega,by omega⟩
  ·rw[jaa h,Bool.true_and];refine cond_intro (fun q _=>c_t hi fun _=>by rw[q]) (fun q _=>c_t hi fun _=>by rw[q])
end Go.Px
end
noncomputable section
namespace Go.Px
open Go Go.Ab Go.Proofs Go.Shelf
theorem dec_from:∀(l:Yb)(a:Nat),dgL (zl l)=true→Lib.decFrom a l=some (numZ (zl l) a).toNat∧0≤numZ (zl l) a
 | [],a,_=>⟨rfl,Int.natCast_nonneg a⟩
 | b::r,a,h=>by
  have h:dgL ((b.toNat:Int)::zl r)=true:=h
  have h1:48≤b.toNat∧b.toNat≤57:=by
   simp only[dgL,List.all_cons,jaf,jae]at h;omega
  have h2:dgL (zl r)=true:=by
   simp only[dgL,List.all_cons,jaf]at h;exact h.2
  obtain⟨e1,e2⟩:=dec_from r (a*10+(b.toNat-48)) h2;have e:((a*10+(b.toNat-48):Nat):Int)=(a:Int)*10+((b.toNat:Int)-48):=by omega
  rw[e]at e1 e2;have hd:Lib.digitVal b=some (b.toNat-48):=by rw[Lib.digitVal,if_pos h1]
  refine⟨?_,e2⟩;rw[Lib.decFrom,hd];exact e1
theorem atoi_dig{s:Y}(h0:1≤s.size)(h:dgL (bz s)=true):Lib.atoi s.data.toList=some (dval (bz s)):=by
 have hb:bz s=zl s.data.toList:=rfl;have hl:s.data.toList.length=s.size:=rfl;rw[hb]at h ⊢;generalize s.data.toList=l at*;cases l with
 | nil=>simp at hl;omega
 | cons b r=>
  have h1:48≤b.toNat∧b.toNat≤57:=by
   have h:dgL ((b.toNat:Int)::zl r)=true:=h;simp only[dgL,List.all_cons,jaf,jae]at h;omega
  have n45:(b==45)=false:=by
   cases q:b==45 with
   | false=>rfl
   | true=>have:=eq_of_beq q;rw[this]at h1;revert h1;decide
  have n43:(b==43)=false:=by
   cases q:b==43 with
   | false=>rfl
   | true=>have:=eq_of_beq q;rw[this]at h1;revert h1;decide
  obtain⟨e1,e2⟩:=dec_from (b::r) 0 h;rw[Lib.atoi,n45,n43];show(Lib.decNat (b::r)).map (fun m:Nat=>(m:Int))=_;have:Lib.decNat (b::r)=Lib.decFrom 0 (b::r):=rfl;rw[this,e1,Option.map_some,dval];congr 1;exact Int.toNat_of_nonneg e2
def s68(s:Y):Bool×Value:=(decide (1≤s.size∧s.size≤18) &&dgL (bz s),.tuple ⟨[.int .i64 (dval (bz s)),.nilIface]⟩)
theorem ok68:jan Tryz.prog 183 (sp1 s68):=shelf1 c68 fun s hc w _=>by
 simp only[s68,jaf,jae]at hc;refine(Any.strconv_Atoi (ρ:=Tryz.lays172_ren) Tryz.lays172 s (dval (bz s)) hc.1.2 (atoi_dig hc.1.1 hc.2) w).mono fun e w' ⟨h1,t,h2⟩=>⟨h1,?_⟩
 subst h2;exact Lib.bytesWorld_below _ _ _
theorem jh8:∀(ro cs:J)(a:Int),okR ro→((gsGo ro cs).length:Int)=cdg ro∧dgL (gsGo ro cs)=true∧numZ (gsGo ro cs) a=rdGo (ro.map rmk) cs a
 | [],_,_,_=>⟨rfl,rfl,rfl⟩
 | r::rs,cs,a,hok=>by
  have hok':okR rs:=fun x hx=>hok x (List.mem_cons_of_mem _ hx)
  rw[gsGo,cdg,List.map_cons,rdGo];have hr:=rd_rng (cs.headD 0)
  have dig:∀l,dgL l=true→dgL ((48+rdD (cs.headD 0))::l)=true:=fun l h=>by
   simp only[dgL,List.all_cons,jaf,jae]at h ⊢;exact⟨by omega,h⟩
  have e:a*10+(48+rdD (cs.headD 0)-48)=a*10+rdD (cs.headD 0):=by omega
  rcases jc2 (hok r List.mem_cons_self)with rfl | rfl | rfl | rfl | rfl | rfl
  ·obtain⟨h1,h2,h3⟩:=jh8 rs cs.tail (a*10+rdD (cs.headD 0)) hok';refine⟨?_,dig _ h2,?_⟩
   ·show(((_::gsGo rs cs.tail).length:Nat):Int)=1+cdg rs;rw[List.length_cons];omega
   ·show numZ (_::gsGo rs cs.tail) a=rdGo (rs.map rmk) cs.tail (a*10+rdD (cs.headD 0));rw[numZ,e];exact h3
  ·obtain⟨h1,h2,h3⟩:=jh8 rs cs.tail (a*10+rdD (cs.headD 0)) hok';refine⟨?_,dig _ h2,?_⟩
   ·show(((_::gsGo rs cs.tail).length:Nat):Int)=1+cdg rs;rw[List.length_cons];omega
   ·show numZ (_::gsGo rs cs.tail) a=rdGo (rs.map rmk) cs.tail (a*10+rdD (cs.headD 0));rw[numZ,e];exact h3
  ·obtain⟨h1,h2,h3⟩:=jh8 rs cs a hok';exact⟨by simpa using h1,h2,h3⟩
  ·obtain⟨h1,h2,h3⟩:=jh8 rs cs.tail a hok';exact⟨by simpa using h1,h2,h3⟩
  ·obtain⟨h1,h2,h3⟩:=jh8 rs cs.tail a hok';exact⟨by simpa using h1,h2,h3⟩
  ·obtain⟨h1,h2,h3⟩:=jh8 rs cs.tail a hok';exact⟨by simpa using h1,h2,h3⟩
end Go.Px
end
noncomputable section
set_option maxHeartbeats 3200000
namespace Go.Px
open Go Go.Ab Go.Proofs Go.Shelf
def G38:Env:=(((Env.nil.addG 181 h62).addG 184 h64).addG 182 h67).add 183 (sp1 s68)
theorem ok_G38:ja0 Tryz.prog G38:=jak (jau (jau (jau jav jm5) jm4) h67_ok) ok68
theorem cN_nv:∀(rs:J),okR rs→cN rs=nv (rs.map rmk)
 | [],_=>rfl
 | r::rs,hok=>by
  have hok':okR rs:=fun x hx=>hok x (List.mem_cons_of_mem _ hx)
  have ih:=cN_nv rs hok';rw[cN,List.map_cons,je5];rcases jc2 (hok r List.mem_cons_self)with rfl | rfl | rfl | rfl | rfl | rfl<;>simp[rmk] <;>omega
theorem gs_use{s t:Y}(h:pN (bz s)=true):digZ (rdA (bz s) (bz t)) (pD (bz s)).toNat=gsGo (rolF (pS (bz s))) (bz t)∧0≤rdA (bz s) (bz t)∧rdA (bz s) (bz t)<tenZ (pD (bz s)).toNat∧dval (gsGo (rolF (pS (bz s))) (bz t))=rdA (bz s) (bz t)∧cN (rolF (pS (bz s)))=pW (bz s):=by
 have hl:=jiy s;obtain⟨f1,f2,f3,_⟩:=jhx hl h;obtain⟨g1,g2,g3⟩:=jh8 (rolF (pS (bz s))) (bz t) 0 f1;have hp:=jed h;have hv:dval (gsGo (rolF (pS (bz s))) (bz t))=rdA (bz s) (bz t):=by rw[dval,g3,f2,rdA]
 have hlen:(gsGo (rolF (pS (bz s))) (bz t)).length=(pD (bz s)).toNat:=by omega
 have hr:=jc8 _ g2;rw[hv,hlen]at hr;refine⟨by rw[←hv];exact jii _ _ hlen g2,hr.1,hr.2,hv,by rw[cN_nv _ f1,f2,pN_nv h]⟩
def s22(s:Y)(t:Y):Bool×Value:=(decide (s.size≤9223372036854775807∧t.size≤9223372036854775807),.tuple ⟨[.int .i64 (rdV (bz s) (bz t)).1,.int .i64 (rdV (bz s) (bz t)).2]⟩)
theorem fn22:Fn1 Tryz.prog 125 Tryz.f125:= .m Tryz.func125
def ii(c:Y)(a b d:Nat):Bool:=decide (a≤b∧c.size≤d)
theorem v22(s:Y)(t:Y)(R:Value→Prop):jaz Tryz.prog G38 noL Tryz.f125 [Enc.enc s,Enc.enc t] (fun _=>none) 0 (fun v _ _=>R v)=(dt (pN (bz s)) s (∀a:Nat,∀b:Nat,∀c:F,jbv c a b=true→zc c a=rolF (pS (bz s))→(bif al t !=pW (bz s)then co [ak 0,ak 31] R else bif jbv c a b&&decide (a≤1000∧cN (zc c a)≤al t)then∀d:Y,sz (gsGo (zc c a) (bz t))=d→(bif ii d 1 d.size 18&&dgL (bz d)then nf d s c a b (∀e:Y,∀f:Int,sz (lc false s d c a).fst=e→(lc false s d c a).snd=f→(bif du e t then co [I (dval (bz d)),ak 0] R else bif nh d s c a b then∀g:Y,∀h:Int,sz (lc true s d c a).fst=g→(lc true s d c a).snd=h→ji (du g t) (pG (bz s) || true) true (du g t&& (pG (bz s) &&decide (dval (bz d)>0))) (co [bp (0-dval (bz d)),ak 0] R) (co [ak 0,ak 31] R)else False))else False)else False)) (co [ak 0,ak 30] R)):=by kernel_rfl
theorem ok22:jan Tryz.prog 125 (sp2 s22):=by
 refine jdg ok_G38 hmix fn22 jaj jag fun s t hc=> ?_
 rw[ja5,v22];delta ax dt az co ak al nh nf ji bp du lc ii;have hc:(s.size≤9223372036854775807∧t.size≤9223372036854775807):=jab hc
 try dsimp only[s22]
 refine c_t (jaa hc.1) (cond_intro (fun h=> ?_) (fun h=> ?_))
 ·intro k cap d hR hz;obtain⟨u1,u2,u3,u4,u5⟩:=gs_use (t:=t) h;have hl:=jiy s;have hr:=jar.1 hR;have hk:k=(pS (bz s)).length:=by rw[←rol_len h,←hz,jbg hr]
  have hp:=jed h;have bl:((bz t).length:Int)=t.size:=by rw[jam]
  apply cond_intro<;>intro hw
  ·have hw:¬(t.size:Int)=pW (bz s):=by simpa using hw
   rw[rdV,if_pos h,bl,if_neg hw]
  ·have hw:(t.size:Int)=pW (bz s):=by simpa using hw
   refine c_t (by rw[hR,hz,u5];simp only[Bool.true_and,jae];omega) fun e he=> ?_
   rw[hz,←u1]at he;have hdd:=jfz (pD (bz s)).toNat (rdA (bz s) (bz t));have be:bz e=digZ (rdA (bz s) (bz t)) (pD (bz s)).toNat:=by rw[←he,je1 (jij hdd)]
   have ze:e.size=(pD (bz s)).toNat:=by rw[←jam,be,jd7]
   have hv:dval (bz e)=rdA (bz s) (bz t):=by rw[be,u1,u4]
   rw[hv,rdV,if_pos h,bl,if_pos hw];generalize rdA (bz s) (bz t)=m at*;have hm:((m.natAbs:Nat):Int)=m:=by omega
   have hm':(((0-m).natAbs:Nat):Int)=m:=by omega
   obtain⟨g1,g2⟩:=jlo h hR hz (m:=m) (by omega);obtain⟨k1,k2⟩:=jlo h hR hz (m:=0-m) (by omega);rw[hm,he]at g1 g2;rw[hm',he]at k2;have d0:decide (m<0)=false:=jad (by omega);rw[d0]at g2;have ht:tenZ (pD (bz s)).toNat≤1000000000:=tenZ_le9 (by omega)
   have hF:∀(a:Y)(n:Int),sz (jft (pS (bz s)) (pW (bz s)) (pD (bz s)).toNat n)=a→(a.toList==t.toList)=decide (fdN (bz s) n=bz t):=fun a n e=>by
    rw[jfg,←e,je1 (field_isB hl.1 _ _ _)];rfl
   refine c_t (by rw[be,hdd,ze,Bool.and_true,jae];omega) (c_t g1 fun a1 l1 q1 q2=>cond_intro (fun p=> ?_) (fun p=>c_t g1 fun a2 l2 q3 q4=> ?_))
   ·rw[hF _ _ (by rw[←q1,g2])]at p;rw[if_pos (jab p)]
   ·rw[hF _ _ (by rw[←q1,g2])]at p;have p:=jac p;rw[if_neg p];refine c_t (by cases ByteArray.toList a2==ByteArray.toList t<;>simp) ?_;by_cases m0:m>0
    ·have d1:decide (0-m<0)=true:=jaa (by omega);rw[d1]at k2;rw[hF _ _ (by rw[←q3,k2]),w64 (n:=0-m) (by omega)];by_cases r1:fdN (bz s) (0-m)=bz t
     ·cases hG:pG (bz s)with
      | true=>
       have:(decide (fdN (bz s) (0-m)=bz t) && (true&&decide (m>0)))=true:=by rw[jaa r1,jaa m0];rfl
       rw[this,if_pos ⟨rfl,m0,r1⟩];rfl
      | false=>
       rw[Bool.false_and,Bool.and_false,if_neg (fun q=>by cases q.1)];rfl
     ·rw[jad r1,Bool.false_and,if_neg (fun q=>r1 q.2.2)];rfl
    ·rw[jad m0,Bool.and_false,Bool.and_false,if_neg (fun q=>m0 q.2.1)];rfl
 ·have h1:¬pN (bz s)=true:=by rw[h];simp
  rw[rdV,if_neg h1]
def G39:Env:=((((Env.nil.add 114 (sp2 s78)).addG 79 h70).addG 184 h64).add 126 (sp2 s71)).add 125 (sp2 s22)
theorem ok_G39:ja0 Tryz.prog G39:=jak (jak (jau (jau (jak jav ok78) jm3) jm4) ok71) ok22
theorem ch_all{l:J}(h:vOK l=true)(hn:pN l=false):(pS l).all (hasZ [65,88,57])=true:=by
 have hc:jgt (exZ l)=true:=by
  simp only[vOK,jaf,Bool.or_eq_true]at h;simp only[pN]at hn;rcases h.2 with q | q
  ·exact q
  ·rw[h.1,q]at hn;cases hn
 rw[pS,if_pos h];simp only[jgt,jaf]at hc;exact hc.1
theorem digZ_0{k:Nat}:digZ (((0:Int).natAbs:Nat):Int) k=rep1 48 k:=(rep48p (jd7 _ _)).2 ((dig_zero (n:=0) (by have:=jcy k;omega)).2 rfl)
def s24(s:Y)(t:Y):Bool×Value:=(decide (s.size≤9223372036854775807∧t.size≤9223372036854775807),.bool (hoZ (bz s) (bz t)))
def j6(a b:Y):Bool:=ii a b.size 9223372036854775807 9223372036854775807
theorem v24(s:Y)(t:Y)(R:Value→Prop):jaz Tryz.prog G39 noL Tryz.f75 [Enc.enc s,Enc.enc t] (fun _=>none) 0 (fun v _ _=>R v)=(dt (vOK (bz s)) s (bif pN (bz s)then∀a:Nat,∀b:Nat,∀c:F,jbv c a b=true→zc c a=rolF (pS (bz s))→aq (j6 t s) (B ((rdV (bz s) (bz t)).snd==0)) R else aq ((bz (sz (pS (bz s)))).all (hasZ [65,88,57]) &&ii t (sz (pS (bz s))).size 1000 9223372036854775807) (B (decide (al t=dx (sz (pS (bz s)))) &&onGo (bz (sz (pS (bz s)))) (bz t))) R) (R (B false))):=by kernel_rfl
theorem ok24:jan Tryz.prog 75 (sp2 s24):=by
 refine jdg ok_G39 hmix (.m Tryz.func75) jaj jag fun s t hc=> ?_
 rw[ja5,v24];delta ax dt aq dx al ii j6;have hc:(s.size≤9223372036854775807∧t.size≤9223372036854775807):=jab hc
 try dsimp only[s24]
 refine c_t (jaa hc.1) (cond_intro (fun h=>cond_intro (fun hn=> ?_) (fun hn=> ?_)) (fun h=> ?_))
 ·intro k cap d _ _;refine c_t (jaa hc) ?_;rw[hoZ,if_pos h,if_pos hn];rfl
 ·have hl:=jiy s;have b1:bz (sz (pS (bz s)))=pS (bz s):=je1 hl.1;have z1:(sz (pS (bz s))).size=(pS (bz s)).length:=by rw[←jam,b1]
  have hn':¬pN (bz s)=true:=by rw[hn];simp
  rw[b1,z1,ch_all h hn];refine c_t (by simp only[Bool.true_and,jae];omega) ?_;rw[hoZ,if_pos h,if_neg hn',pCh h hn,jam]
 ·have h1:¬vOK (bz s)=true:=by rw[h];simp
  rw[hoZ,if_neg h1]
def s42(s:Y)(t:Y):Bool×Value:=(decide (s.size≤9223372036854775807∧t.size≤9223372036854775807),.tuple ⟨[.string (sz (fiS (bz s) (bz t))),.bool (fiF (bz s) (bz t)),.int .i64 (fiE (bz s))]⟩)
def s54(s:Y):Bool×Value:=(decide (s.size≤9223372036854775807),.tuple ⟨[.string (sz (zeS (bz s))),.int .i64 (pE (bz s))]⟩)
def iw:Y:=⟨#[32]⟩
theorem v54(s:Y)(R:Value→Prop):jaz Tryz.prog G39 noL Tryz.f219 [Enc.enc s] (fun _=>none) 0 (fun v _ _=>R v)=(dt (vOK (bz s)) s (bif pN (bz s)then∀a:Nat,∀b:Nat,∀c:F,jbv c a b=true→zc c a=rolF (pS (bz s))→oe (gq cv (pD (bz s))) false s (repZ (bz cv) (pD (bz s)).toNat) c [] a b (ak 0) R else aq (gq iw (pW (bz s))) (az [S (sz (repZ (bz iw) (pW (bz s)).toNat)),ak 0]) R) (co [bq,ak 30] R)):=by kernel_rfl
theorem ok54:jan Tryz.prog 219 (sp1 s54):=by
 refine jck ok_G39 hmix (.m Tryz.func219) jaj jag fun s hc=> ?_
 rw[ja5,v54];delta ax dt az co ak am bq aq iw gq al nh nf lc oe cv;have hc:(s.size≤9223372036854775807):=jab hc
 try dsimp only[s54]
 refine c_t (jaa hc) (cond_intro (fun h=>cond_intro (fun hn=> ?_) (fun hn=> ?_)) (fun h=> ?_))
 ·intro k cap d hR hz;have hp:=jed hn
  have e48:repZ (bz (ByteArray.mk #[48])) (pD (bz s)).toNat=digZ (((0:Int).natAbs:Nat):Int) (pD (bz s)).toNat:=by
   rw[digZ_0];exact jjc 48 _
  obtain⟨g1,g2⟩:=jlo hn hR hz (m:=0) (by have:=jcy (pD (bz s)).toNat;omega);have d0:decide ((0:Int)<0)=false:=rfl;rw[d0]at g2;rw[e48];refine c_t (jaa ⟨by omega,by omega,by decide⟩) (c_t g1 fun t l h1 h2=> ?_);rw[g2]at h1;rw[zeS,if_pos h,if_pos hn,pE,if_pos h,←h1];rfl
 ·have hw:= @jki s;have hn':¬pN (bz s)=true:=by rw[hn];simp
  refine c_t (jaa ⟨by omega,by omega,by decide⟩) ?_;have e32:bz (ByteArray.mk #[32])=[32]:=rfl;rw[zeS,if_pos h,if_neg hn',pE,if_pos h,e32,jjc]
 ·have h1:¬vOK (bz s)=true:=by rw[h];simp
  rw[zeS,if_neg h1,pE,if_neg h1,jlr]
end Go.Px
end
noncomputable section
namespace Go.Ff
open Go Go.Ab Go.Proofs Go.Px
theorem jjm{l:F}:jbx l=true↔ ∀v∈l,∃n,v= .int .u8 n:=by
 induction l with
 | nil=>simp[jbx]
 | cons v r ih=>
  constructor
  ·intro h;unfold jbx at h;split at h
   ·rename_i heq;cases heq
   ·rename_i n r' heq;cases heq;intro u hu;rcases List.mem_cons.1 hu with rfl | hu
    ·exact⟨_,rfl⟩
    ·exact ih.1 h u hu
   ·cases h
  ·intro h;obtain⟨n,rfl⟩:=h v (List.mem_cons_self ..);exact ih.2 fun u hu=>h u (List.mem_cons_of_mem _ hu)
theorem isB_plain{d:F}(h:jbx d=true):jay d=true:=by
 rw[←jmg h];exact jhl _
theorem atB:∀{d:F}{j:Nat},jbx d=true→j<d.length→jbc .u8 d j=true∧jaq d j=(d.map iv).getD j 0
 | .int .u8 n::r,0,_,_=>⟨rfl,rfl⟩
 | .int .u8 n::r,j+1,h,hj=>by
  have:=atB (d:=r) (j:=j) (by simpa[jbx]using h) (by simpa using hj);simpa[jbc,jaq]using this
end Go.Ff
end
noncomputable section
namespace Go.Ab
open Go Go.RowKit
def eqI(a b:Int):Bool:=match a,b with
 | .ofNat m,.ofNat n=>Nat.beq m n
 | .negSucc m,.negSucc n=>Nat.beq m n
 | _,_=>false
def eqU:Yb→Yb→Bool
 | [],[]=>true
 | a::l,b::r=>match Nat.beq a.toNat b.toNat with | true=>eqU l r | false=>false
 | _,_=>false
def eqK(a b:IntKind):Bool:=match decEq a b with | .isTrue _=>true | .isFalse _=>false
mutual
def eqV:Value→Value→Bool
 | .int k a,.int k' b=>match eqK k k' with | true=>eqI a b | false=>false
 | .bool a,.bool b=>match a,b with | true,true=>true | false,false=>true | _,_=>false
 | .string ⟨⟨a⟩⟩,.string ⟨⟨b⟩⟩=>eqU a b
 | .agg ⟨l⟩,.agg ⟨r⟩=>eqVL l r
 | .iface t a,.iface t' b=>match Nat.beq t t' with | true=>eqV a b | false=>false
 | .nilIface,.nilIface=>true
 | _,_=>false
def eqVL:F→F→Bool
 | [],[]=>true
 | a::l,b::r=>match eqV a b with | true=>eqVL l r | false=>false
 | _,_=>false
end
theorem eqI_spec{a b:Int}(h:eqI a b=true):a=b:=by
 unfold eqI at h;split at h
 ·rw[jah h]
 ·rw[jah h]
 ·cases h
theorem eqU_spec:∀{a b:Yb},eqU a b=true→a=b
 | [],[],_=>rfl
 | a::l,b::r,h=>by
  simp only[eqU]at h;split at h
  ·rename_i hb;rw[UInt8.toNat_inj.1 (jah hb),eqU_spec h]
  ·cases h
 | [],_::_,h=>by cases h
 | _::_,[],h=>by cases h
theorem eqK_spec{a b:IntKind}(h:eqK a b=true):a=b:=by
 unfold eqK at h;split at h
 ·assumption
 ·cases h
mutual
theorem eqV_spec:∀{a b:Value},eqV a b=true→a=b
 | .int k a,.int k' b,h=>by
  simp only[eqV]at h;split at h
  ·rename_i hk;rw[eqK_spec hk,eqI_spec h]
  ·cases h
 | .bool a,.bool b,h=>by cases a<;>cases b<;>first | rfl | cases h
 | .string ⟨⟨a⟩⟩,.string ⟨⟨b⟩⟩,h=>by
  simp only[eqV]at h;rw[eqU_spec h]
 | .agg ⟨l⟩,.agg ⟨r⟩,h=>by
  simp only[eqV]at h;rw[jic h]
 | .iface t a,.iface t' b,h=>by
  simp only[eqV]at h;split at h
  ·rename_i ht;rw[jah ht,eqV_spec h]
  ·cases h
 | .nilIface,.nilIface,_=>rfl
theorem jic:∀{a b:F},eqVL a b=true→a=b
 | [],[],_=>rfl
 | a::l,b::r,h=>by
  simp only[eqVL]at h;split at h
  ·rename_i hb;rw[eqV_spec hb,jic h]
  ·cases h
 | [],_::_,h=>by cases h
 | _::_,[],h=>by cases h
end
def memo:List (F×Value)→Spec
 | []=>fun _ _=>none
 | (a,v)::r=>fun args bs=>match eqVL args a with | true=>some (true,v) | false=>memo r args bs
theorem jga{args:F}{bs:O}{b:Bool}{v:Value}:∀{l:List (F×Value)},memo l args bs=some (b,v)→b=true∧(args,v)∈l
 | [],h=>by cases h
 | (a,u)::r,h=>by
  simp only[memo]at h;split at h
  ·rename_i ha;simp only[Option.some.injEq,Prod.mk.injEq]at h;exact⟨h.1.symm,by rw[jic ha,h.2];exact List.mem_cons_self ..⟩
  ·obtain⟨h1,h2⟩:=jga h;exact⟨h1,List.mem_cons_of_mem _ h2⟩
variable [Tabs]
def AllD(P:Program)(G:Env)(L:Nat→Option jb8)(fn:Func):List (F×Value)→Prop
 | []=>True
 | (a,v)::r=>ja5 P G L fn a v∧AllD P G L fn r
theorem AllD_mem{P:Program}{G:Env}{L:Nat→Option jb8}{fn:Func}{a:F}{v:Value}:∀{l:List (F×Value)},AllD P G L fn l→(a,v)∈l→ja5 P G L fn a v
 | (a',v')::r,h,hm=>by
  rcases List.mem_cons.1 hm with e | hm
  ·cases e;exact h.1
  ·exact AllD_mem h.2 hm
theorem pure_memo{P:Program}{G:Env}{L:Nat→Option jb8}{f:FuncId}{fn:Func}(hG:ja0 P G)(hm:P.follows .mixedOrders=true)(hf:Fn1 P f fn)(hL:LOKf P L fn){l:List (F×Value)}
  (hp:(l.all fun x=>jay x.1&&Nat.ble x.1.length fn.ntmps)=true) (h:AllD P G L fn l):jan P f (memo l):=by
 refine jc7 hG hm hf hL fun args bs v hs=> ?_
 obtain⟨_,hmem⟩:=jga hs;have:=List.all_eq_true.1 hp _ hmem;simp only[jaf]at this;exact⟨this.1,jag this.2,AllD_mem h hmem⟩
omit [Tabs] in
omit [Tabs] in
def RunL(P:Program)(G:Env)(L:Nat→Option jb8)(fn:Func):List (F×Value)→Prop
 | []=>True
 | (a,v)::r=>jaz P G L fn a (fun _=>none) 0 (fun v' _ _=>v'=v)∧RunL P G L fn r
theorem allD_of{P:Program}{G:Env}{L:Nat→Option jb8}{fn:Func}:∀{l:List (F×Value)},RunL P G L fn l→AllD P G L fn l
 | [],_=>trivial
 | (_,_)::_,h=>⟨by rw[ja5];exact h.1,allD_of h.2⟩
inductive Nst where
 | leaf
 | app (src:Option Nat) (n s:Nat) (r:Nst)
 | bts (n:Nat) (r:Nst)
 | both (a b:Nst)
 | le (i:Nat) (r:Nst)
def lenB(t:F)(c n s:Nat):Bool:=Nat.beq (t.length+n*s) (c*s) &&Nat.ble n c&&Nat.ble c 9223372036854775807&&true&&true
def jiu(p:Prop):Nst→List (F×Nat×Nat×Nat)→Prop
 | .leaf,_=>p
 | .bts n r,e=>∀c:Nat,Nat.ble n c=true→jiu p r e
 | .both a b,e=>jiu p a e∧jiu p b e
 | .le i r,e=>match e[i]? with
  | some (_,c0,n0,_)=>bif Nat.ble n0 c0 then jiu p r e else False
  | none=>True
 | .app none n s r,e=>∀(c:Nat)(t:F),jbm t c n s=true→jiu p r ((t,c,n,s)::e)
 | .app (some i) n s r,e=>match e[i]? with
  | some (t0,c0,n0,s0)=>bif lenB t0 c0 n0 s0 then∀(c:Nat)(t:F),jbm t c n s=true→jiu p r ((t,c,n,s)::e)else False
  | none=>True
theorem lenB_ok{t:F}{c n s:Nat}(h:jbm t c n s=true):lenB t c n s=true:=by
 simp only[jbm,jaf]at h;simp only[lenB,h.1.1.2,h.1.2,h.2,Bool.and_true]
theorem lenB_le{t:F}{c n s:Nat}(h:jbm t c n s=true):Nat.ble n c=true:=by
 simp only[jbm,jaf]at h;exact h.1.2
theorem jfy{p:Prop}(hp:p):∀(t:Nst)(e:List (F×Nat×Nat×Nat)),(∀x∈e,jbm x.1 x.2.1 x.2.2.1 x.2.2.2=true)→jiu p t e
 | .leaf,_,_=>hp
 | .bts n r,e,h=>fun c _=>jfy hp r e h
 | .both a b,e,h=>⟨jfy hp a e h,jfy hp b e h⟩
 | .le i r,e,h=>by
  simp only[jiu];split
  ·rename_i t0 c0 n0 s0 hi;rw[lenB_le (h _ (List.mem_of_getElem? hi))];exact jfy hp r e h
  ·trivial
 | .app none n s r,e,h=>fun c t ht=>jfy hp r _ fun x hx=>by
  rcases List.mem_cons.1 hx with rfl | hx
  ·exact ht
  ·exact h x hx
 | .app (some i) n s r,e,h=>by
  simp only[jiu];split
  ·rename_i t0 c0 n0 s0 hi;rw[lenB_ok (h _ (List.mem_of_getElem? hi))]
   exact fun c t ht=>jfy hp r _ fun x hx=>by
    rcases List.mem_cons.1 hx with rfl | hx
    ·exact ht
    ·exact h x hx
  ·trivial
def jnh:List (F×Value)→List Nst→Prop
 | [],_=>True
 | (_,v)::r,[]=>v=v∧jnh r []
 | (_,v)::r,k::ks=>jiu (v=v) k []∧jnh r ks
omit [Tabs] in
theorem jji:∀l ks,jnh l ks
 | [],_=>trivial
 | (_,_)::r,[]=>⟨rfl,jji r []⟩
 | (_,_)::r,k::ks=>⟨jfy rfl k [] (by simp),jji r ks⟩
theorem pure_memoN(ks:List Nst){P:Program}{G:Env}{L:Nat→Option jb8}{f:FuncId}{fn:Func}(hG:ja0 P G)(hm:P.follows .mixedOrders=true)(hf:Fn1 P f fn)(hL:LOKf P L fn){l:List (F×Value)}
  (hp:(l.all fun x=>jay x.1&&Nat.ble x.1.length fn.ntmps)=true) (h:RunL P G L fn l=jnh l ks):jan P f (memo l):=
 pure_memo hG hm hf hL hp (allD_of (cast h.symm (jji l ks)))
end Go.Ab
end
section
namespace Go.Fx
open Go Go.Ab
structure Ty where
 k:Int
 p:Int
 q:Int
 v:Bool
 s:Y
structure Vl where
 n:Int
 s:Y
instance:Enc Ty where
 enc t:= .agg ⟨[.int .i64 t.k,.int .i64 t.p,.int .i64 t.q,.bool t.v,.string t.s]⟩
 dec | .agg ⟨[.int .i64 k,.int .i64 p,.int .i64 q,.bool v,.string s]⟩=>some ⟨k,p,q,v,s⟩ | _=>none
 dec_some:=by
  intro v a h;split at h
  ·cases h;rfl
  ·cases h
 plain_enc _:=rfl
instance:Enc Vl where
 enc t:= .agg ⟨[.int .i64 t.n,.string t.s]⟩
 dec | .agg ⟨[.int .i64 n,.string s]⟩=>some ⟨n,s⟩ | _=>none
 dec_some:=by
  intro v a h;split at h
  ·cases h;rfl
  ·cases h
 plain_enc _:=rfl
abbrev I(n:Int):Value:= .int .i64 n
abbrev B(b:Bool):Value:= .bool b
def e0:Y:=⟨#[]⟩
def T0:Ty:=⟨0,0,0,false,⟨#[]⟩⟩
def V0:Vl:=⟨0,⟨#[]⟩⟩
abbrev tv(t:Ty):Value:= .agg ⟨[.int .i64 t.k,.int .i64 t.p,.int .i64 t.q,.bool t.v,.string t.s]⟩
abbrev vv(v:Vl):Value:= .agg ⟨[.int .i64 v.n,.string v.s]⟩
abbrev tup(l:F):Value:= .tuple ⟨l⟩
def most(k:Int):Int:=if k=1 then 9 else 31
def ja9(t:Ty):Prop:=(t.k=1∨t.k=2)∧1≤t.p∧t.p≤most t.k∧0≤t.q∧t.q≤t.p∧(t.k=2→t.q=0)∧t.v=false∧t.s.toList=[]
instance (t:Ty):Decidable (ja9 t):=by unfold ja9;infer_instance
def base(k:Int):Int:=if k=1 then 10 else 2
def pw(b n:Int):Int:=b^n.toNat
def bnd(t:Ty):Int:=pw (base t.k) t.p
def check(t:Ty):Int:=if ja9 t then 0 else 5
def Fit(v:Vl)(t:Ty):Prop:=v.s.toList=[]∧ -bnd t<v.n∧v.n<bnd t
instance (v:Vl)(t:Ty):Decidable (Fit v t):=by unfold Fit;infer_instance
def fits(v:Vl)(t:Ty):Int:=if ja9 t then(if Fit v t then 0 else 6)else 5
def scl(n d:Int):Int:=if 0≤d then n*pw 10 d else n.tdiv (pw 10 (-d))
def InB(n:Int)(t:Ty):Prop:= -bnd t<n∧n<bnd t
instance (n:Int)(t:Ty):Decidable (InB n t):=by unfold InB;infer_instance
def cutN(n:Int)(t:Ty):Int:=if InB n t then n else n.tmod (bnd t)
def cutC(n:Int)(t:Ty)(c:Int):Int:=if InB n t then 0 else c
def tensL:F:=[.int .i64 1,.int .i64 10,.int .i64 100,.int .i64 1000,.int .i64 10000,.int .i64 100000,.int .i64 1000000,.int .i64 10000000,.int .i64 100000000,.int .i64 1000000000,
 .int .i64 10000000000,.int .i64 100000000000,.int .i64 1000000000000,.int .i64 10000000000000,.int .i64 100000000000000,.int .i64 1000000000000000,.int .i64 10000000000000000,.int .i64 100000000000000000,.int .i64 1000000000000000000]
def R64(n:Int):Prop:= -9223372036854775808≤n∧n≤9223372036854775807
instance (n:Int):Decidable (R64 n):=by unfold R64;infer_instance
def zer(op b:Int):Prop:=(op=9∨op=10)∧b=0
instance (op b:Int):Decidable (zer op b):=by unfold zer;infer_instance
def Q18(n:Int):Prop:= -4000000000000000000≤n∧n≤4000000000000000000
instance (n:Int):Decidable (Q18 n):=by unfold Q18;infer_instance
def quoOK(a b up:Int):Prop:=b≠0∧ -18≤up∧up≤18∧Q18 a∧Q18 b∧(0≤up→Q18 (a*pw 10 up))∧(up<0→Q18 (b*pw 10 (-up)))
instance (a b up:Int):Decidable (quoOK a b up):=by unfold quoOK;infer_instance
def dvOK(op y:Int):Prop:=op=10→y≠0
instance (op y:Int):Decidable (dvOK op y):=by unfold dvOK;infer_instance
def rOK(n u:Int):Prop:=1≤u∧u≤1000000000∧ -4000000000000000000≤n∧n≤4000000000000000000
instance (n u:Int):Decidable (rOK n u):=by unfold rOK;infer_instance
theorem w64{n:Int}(h: -9223372036854775808≤n∧n≤9223372036854775807):IntKind.i64.wrap n=n:=by rw[IntKind.wrap_i64];omega
theorem str0(s:Y):(!s.toList==(ByteArray.mk #[]).toList)= !decide (s.toList=[]):=by
 have:(ByteArray.mk #[]).toList=[]:=by kernel_rfl
 rw[this];cases s.toList<;>rfl
end Go.Fx
namespace Go.Fx
open Go Go.Ab
theorem jbj(a b:Int):IntKind.i64.wrap (IntKind.i64.wrap a*b)=IntKind.i64.wrap (a*b):=by
 simp only[IntKind.wrap_i64]
 have h:((a+9223372036854775808)%18446744073709551616-9223372036854775808)*b=a*b+18446744073709551616*(-((a+9223372036854775808)/18446744073709551616)*b):=by
  have:=Int.emod_def (a+9223372036854775808) 18446744073709551616;rw[this];grind
 rw[h];omega
theorem jbs(b:Int){n:Int}(h:n≤0):pw b n=1:=by
 rw[pw,show n.toNat=0 by omega,Int.pow_zero]
theorem jbw(b:Int){n:Int}(h:0≤n):pw b (n+1)=pw b n*b:=by
 rw[pw,pw,show(n+1).toNat=n.toNat+1 by omega,Int.pow_succ]
theorem pw_add(b:Int){n m:Int}(h:0≤n)(h':0≤m):pw b (n+m)=pw b n*pw b m:=by
 rw[pw,pw,pw,show(n+m).toNat=n.toNat+m.toNat by omega,Int.pow_add]
theorem jiw{b:Int}(hb:1≤b)(n:Int):1≤pw b n:=by
 have:0<b^n.toNat:=Int.pow_pos (by omega);unfold pw;omega
theorem jky{b:Int}(hb:1≤b){n m:Int}(h:n≤m):pw b n≤pw b m:=by
 rcases Int.le_total n 0 with hn | hn
 ·rw[jbs b hn];exact jiw hb m
 ·have e:m=n+(m-n):=by omega
  rw[e,pw_add b hn (by omega)];have h1:=jiw hb n;have h2:=jiw hb (m-n);have:=Int.mul_le_mul_of_nonneg_left h2 (show 0≤pw b n by omega);omega
theorem pw10_18:pw 10 18=1000000000000000000:=by decide
theorem pw10_9:pw 10 9=1000000000:=by decide
theorem pw2_31:pw 2 31=2147483648:=by decide
end Go.Fx
namespace Go.Fx
open Go Go.Ab
theorem tens_nat:∀n:Nat,n<19→jbc .i64 tensL n=true∧jaq tensL n=10^n:=by decide
theorem tens_at{p:Int}(h:0≤p)(h':p<19):jbc .i64 tensL p.toNat=true∧jaq tensL p.toNat=pw 10 p:=tens_nat _ (by omega)
theorem shl_pw{p:Int}(h:0≤p)(h':p≤62):IntKind.i64.wrap (1*2^min p.toNat 64)=pw 2 p:=by
 have h1:=jky (b:=2) (by omega) h';have h2:=jiw (b:=2) (by omega) p;have h3:pw 2 62=4611686018427387904:=by decide
 rw[show min p.toNat 64=p.toNat by omega,Int.one_mul];exact w64 (by show _≤pw 2 p∧pw 2 p≤_;omega)
theorem jcd{b p:Int}(h:b=10∧p≤18∨b=2∧p≤62):IntKind.i64.wrap (pw b p)=pw b p:=by
 have h3:pw 2 62=4611686018427387904:=by decide
 have h4:=pw10_18;rcases h with⟨rfl,h⟩ | ⟨rfl,h⟩
 ·have h1:=jky (b:=10) (by omega) h;have h2:=jiw (b:=10) (by omega) p;exact w64 (by omega)
 ·have h1:=jky (b:=2) (by omega) h;have h2:=jiw (b:=2) (by omega) p;exact w64 (by omega)
end Go.Fx
namespace Go.Fx
open Go Go.Ab
theorem bnd_range{t:Ty}(h:ja9 t):2≤bnd t∧bnd t≤2147483648:=by
 obtain⟨hk,h1,h2,_⟩:=h;unfold bnd;rcases hk with hk | hk
 ·simp only[hk,most,base]at*;have a:=jky (b:=10) (by omega) h1;have b:=jky (b:=10) (by omega) (show t.p≤9 by simpa using h2);have c:=pw10_9;have d:pw 10 1=10:=by decide
  simp only[if_true];omega
 ·simp only[hk,most,base]at*;have a:=jky (b:=2) (by omega) h1;have b:=jky (b:=2) (by omega) (show t.p≤31 by simpa using h2);have c:=pw2_31;have d:pw 2 1=2:=by decide
  simp only[show¬((2:Int)=1)by decide,if_false];omega
end Go.Fx
namespace Go.Fx
end Go.Fx
namespace Go.Fx
open Go Go.Ab
theorem valid_r{t:Ty}(h:ja9 t):1≤t.p∧t.p≤31∧0≤t.q∧t.q≤t.p∧t.q≤9:=by grind [ja9,most]
end Go.Fx
namespace Go.Fx
open Go Go.Ab
theorem str_e0{s:Y}(h:s.toList=[]):s=e0:=by
 rw[Go.Lib.toList_data]at h;obtain⟨⟨l⟩⟩:=s;simp only at h;subst h;rfl
end Go.Fx
end
section
namespace Go.Cv
open Go.Ab (jac jae jaf)
def dig(c:Int):Bool:=decide (48≤c∧c≤57)
def jca(l:List Int):Bool:=l.all fun c=>decide (c=48∨c=49)
def ja7(l:List Int):Bool:=l.all dig
def trL(l:List Int):List Int:=l.dropWhile (· ==32)
def trR(l:List Int):List Int:=(l.reverse.dropWhile (· ==32)).reverse
def ahead(c:Int)(l:List Int):List Int:=l.takeWhile (· !=c)
def past(c:Int)(l:List Int):Option (List Int):=match l.dropWhile (· !=c)with
 | []=>none
 | _::r=>some r
def expD(l:List Int):Option Int:=if 1≤l.length∧l.length≤2∧ja7 l=true then some (l.foldl (fun a c=>10*a+(c-48)) 0)else none
def expZ:List Int→Option Int
 | 43::l=>expD l
 | 45::l=>(expD l).map fun n=> -n
 | l=>expD l
abbrev Num:=Bool×List Int×Int
section
variable (ja1 : Bool → List Int → Int → Num) (binD : List Int → List Int)
def decR(neg:Bool)(l:List Int):Option Num:=
 match (match past 69 l with | none=>some 0 | some x=>expZ x)with
 | none=>none
 | some e=>
  let s:=ahead 69 l
  let whole:=ahead 46 s
  let part:=(past 46 s).getD []
  if whole++part≠ []∧ja7 whole=true∧ja7 part=true then some (ja1 neg (whole++part) (part.length-e))else none
def bodR(neg:Bool)(l:List Int):Option Num:=
 if 2≤l.length∧l.getLast?=some 66 then
  if l.length-1≤31∧jca l.dropLast=true then some (ja1 neg (binD l.dropLast) 0)else none
 else decR ja1 neg l
def sgnR:List Int→Option Num
 | []=>some (false,[],0)
 | 45::l=>bodR ja1 binD true l
 | 43::l=>bodR ja1 binD false l
 | l=>bodR ja1 binD false l
def numR(l:List Int):Option Num:=sgnR ja1 binD (trR (trL l))
inductive St where
 | beg | bod (some pt:Bool) | exq (sg:Bool) (many:Nat) | beh | ded
structure Rd where
 neg:Bool:=false
 bin:Bool:=false
 down:Bool:=false
 ds:List Int:=[]
 sc:Int:=0
 pw:Int:=0
def bodN(r:Rd)(c:Int)(s p:Bool):St×Rd:=
 if dig c=true then(.bod true p,{r with ds:=r.ds++ [c],sc:=if p=true then r.sc+1 else r.sc})
 else if c=46∧p=false then(.bod s true,r)
 else if s=false then(.ded,r)
 else if c=69 then(.exq false 0,r)
 else if c=66∧p=false then(.beh,{r with bin:=true})
 else if c=32 then(.beh,r)else(.ded,r)
def jcc:St→Rd→Int→St×Rd
 | .beg,r,c=>if c=32 then(.beg,r)else if c=43∨c=45 then(.bod false false,{r with neg:=decide (c=45)})else bodN r c false false
 | .bod s p,r,c=>bodN r c s p
 | .exq sg m,r,c=>if dig c=true∧m<2 then(.exq true (m+1),{r with pw:=10*r.pw+(c-48)})
  else if(c=43∨c=45)∧sg=false then(.exq true 0,{r with down:=decide (c=45)})
  else if c=32∧0<m then(.beh,r)else(.ded,r)
 | .beh,r,c=>if c=32 then(.beh,r)else(.ded,r)
 | .ded,r,_=>(.ded,r)
def endP:St→Bool
 | .beg=>true
 | .bod s _=>s
 | .exq _ m=>decide (0<m)
 | .beh=>true
 | .ded=>false
def runP:List Int→St→Rd→Option Rd
 | [],st,r=>if endP st=true then some r else none
 | c::l,st,r=>runP l (jcc st r c).1 (jcc st r c).2
def finP(r:Rd):Option Num:=
 if r.bin=true then(if r.ds.length≤31∧jca r.ds=true then some (ja1 r.neg (binD r.ds) 0)else none)
 else some (ja1 r.neg r.ds (r.sc-if r.down=true then -r.pw else r.pw))
def numP(l:List Int):Option Num:=(runP l .beg {}).bind (finP ja1 binD)
end
theorem jc1:∀(l:List Int)(r:Rd),runP l .ded r=none
 | [],_=>rfl
 | c::l,r=>by rw[runP];exact jc1 l r
theorem jfv:∀(l:List Int)(r:Rd),runP l .beh r=if l.all (· ==32)=true then some r else none
 | [],_=>rfl
 | c::l,r=>by
  rw[runP,jcc];by_cases h:c=32
  ·subst h;rw[if_pos rfl,jfv l r];rfl
  ·rw[if_neg h,jc1,if_neg];simp[h]
theorem jhv(b:List Int)(hb:b.all (· ==32)=true):∀(l:List Int)(st:St)(r:Rd),runP (l++b) st r=runP l st r
 | [],st,r=>by
  cases b with
  | nil=>rfl
  | cons c b=>
   simp only[List.all_cons,jaf,beq_iff_eq]at hb;obtain⟨rfl,hb⟩:=hb;show runP b (jcc st r 32).1 (jcc st r 32).2=if endP st=true then some r else none
   cases st with
   | beg=>
    have ih:=jhv b hb [] .beg r;exact ih
   | bod s p=>
    cases s with
    | true=>
     show runP b (bodN r 32 true p).1 (bodN r 32 true p).2=_;cases p<;>exact(jfv b r).trans (by rw[if_pos hb];rfl)
    | false=>
     show runP b (bodN r 32 false p).1 (bodN r 32 false p).2=_;cases p<;>exact jc1 b r
   | exq sg m=>
    show runP b (jcc (.exq sg m) r 32).1 (jcc (.exq sg m) r 32).2=_;have hd:dig 32=false:=by decide
    have e:jcc (.exq sg m) r 32=if 0<m then(.beh,r)else(.ded,r):=by
     rw[jcc,if_neg (fun q=>by rw[hd]at q;cases q.1),if_neg (fun q=>absurd q.1 (by decide))];by_cases h:0<m
     ·rw[if_pos ⟨rfl,h⟩,if_pos h]
     ·rw[if_neg (fun q=>h q.2),if_neg h]
    rw[e];by_cases h:0<m
    ·rw[if_pos h,jfv,if_pos hb];simp[endP,h]
    ·rw[if_neg h,jc1];simp[endP,h]
   | beh=>
    exact(jfv b r).trans (by rw[if_pos hb];rfl)
   | ded=>exact jc1 b r
 | c::l,st,r=>by
  rw[List.cons_append,runP,runP,jhv b hb l]
theorem run_lead:∀(l:List Int),runP l .beg {}=runP (trL l) .beg {}
 | []=>rfl
 | c::l=>by
  by_cases h:c=32
  ·subst h;rw[show trL (32::l)=trL l from rfl,←run_lead l];rfl
  ·rw[show trL (c::l)=c::l from List.dropWhile_cons_of_neg (by simpa using h)]
theorem trR_spec(l:List Int):∃b:List Int,b.all (· ==32)=true∧l=trR l++b∧((trR l).getLast?≠some 32):=by
 refine⟨(l.reverse.takeWhile (· ==32)).reverse,?_,?_,?_⟩
 ·rw[List.all_reverse];exact List.all_takeWhile
 ·rw[trR,←List.reverse_append,List.takeWhile_append_dropWhile,List.reverse_reverse]
 ·rw[trR,List.getLast?_reverse];intro h;have:=List.head?_dropWhile_not (p:=(· ==(32:Int))) (l:=l.reverse);rw[h]at this;simp at this
theorem jjb:∀(d l:List Int)(s p:Bool)(r:Rd),ja7 d=true→
  runP (d++l) (.bod s p) r=runP l (.bod (s || !d.isEmpty) p) {r with ds:=r.ds++d,sc:=if p=true then r.sc+d.length else r.sc}
 | [],l,s,p,r,_=>by
  cases p<;>simp
 | c::d,l,s,p,r,h=>by
  simp only[ja7,List.all_cons,jaf]at h
  have e:jcc (.bod s p) r c=(.bod true p,{r with ds:=r.ds++ [c],sc:=if p=true then r.sc+1 else r.sc}):=by
   rw[jcc,bodN,if_pos h.1]
  rw[List.cons_append,runP,e];have:=jjb d l true p {r with ds:=r.ds++ [c],sc:=if p=true then r.sc+1 else r.sc} h.2;rw[this];have e2:r.sc+1+(d.length:Int)=r.sc+((d.length:Int)+1):=by omega
  cases p<;>simp[e2]
theorem split_digs(l:List Int):∃d v:List Int,l=d++v∧ja7 d=true∧(v=[]∨ ∃c r,v=c::r∧dig c=false):=by
 refine⟨l.takeWhile dig,l.dropWhile dig,(List.takeWhile_append_dropWhile).symm,List.all_takeWhile,?_⟩;cases h:l.dropWhile dig with
 | nil=>exact .inl rfl
 | cons c r=>
  refine .inr ⟨c,r,rfl,?_⟩;have:=List.head?_dropWhile_not (p:=dig) (l:=l);rw[h]at this;simpa using this
theorem digs_app{a b:List Int}:ja7 (a++b)=(ja7 a&&ja7 b):=List.all_append
theorem run_exp(x:List Int)(hx:x.getLast?≠some 32)(r:Rd)(h0:r.pw=0∧r.down=false):
  (runP x (.exq false 0) r).map (fun r'=>(r'.neg,r'.bin,r'.ds,r'.sc,if r'.down=true then -r'.pw else r'.pw))=(expZ x).map fun e=>(r.neg,r.bin,r.ds,r.sc,e):=by
 have two:∀(l:List Int)(sg:Bool)(r:Rd),l.getLast?≠some 32→r.pw=0→(∀c t,l=c::t→sg=false→c≠43∧c≠45)→
   runP l (.exq sg 0) r=(expD l).map fun e=>{r with pw:=e}:=by
  intro l sg r hl hr hs
  match l with
  | []=>rfl
  | [a]=>
   rw[runP,jcc];cases ha:dig a with
   | true=>
    rw[if_pos ⟨rfl,by decide⟩];simp[runP,endP,expD,ja7,ha,hr]
   | false=>
    rw[if_neg (fun q=>by cases q.1),if_neg,if_neg (fun q=>absurd q.2 (by decide))]
    ·simp[runP,endP,expD,ja7,ha]
    ·intro q;have:=hs a [] rfl q.2;omega
  | [a,b]=>
   rw[runP,jcc];cases ha:dig a with
   | true=>
    rw[if_pos ⟨rfl,by decide⟩];show runP [b] (.exq true 1) _=_;rw[runP,jcc];cases hb:dig b with
    | true=>
     rw[if_pos ⟨rfl,by decide⟩];simp[runP,endP,expD,ja7,ha,hb,hr]
    | false=>
     have hb32:b≠32:=fun q=>hl (by rw[q];rfl)
     rw[if_neg (fun q=>by cases q.1),if_neg (fun q=>by cases q.2),if_neg (fun q=>hb32 q.1)];simp[runP,endP,expD,ja7,ha,hb]
   | false=>
    rw[if_neg (fun q=>by cases q.1),if_neg,if_neg (fun q=>absurd q.2 (by decide))]
    ·show runP [b] .ded r=_;rw[jc1];simp[expD,ja7,ha]
    ·intro q;have:=hs a [b] rfl q.2;omega
  | a::b::c::t=>
   have en:expD (a::b::c::t)=none:=by
    rw[expD,if_neg];intro q;have:=q.2.1;simp at this
   rw[en,runP,jcc];cases ha:dig a with
   | false=>
    rw[if_neg (fun q=>by cases q.1),if_neg,if_neg (fun q=>absurd q.2 (by decide))]
    ·exact jc1 _ _
    ·intro q;have:=hs a _ rfl q.2;omega
   | true=>
    rw[if_pos ⟨rfl,by decide⟩];show runP (b::c::t) (.exq true 1) _=none
    have hbl:∀r',runP (c::t) .beh r'=none:=fun r'=>by
     rw[jfv,if_neg];intro q
     have:(c::t).getLast?=some 32:=by
      have hne:c::t≠ []:=by simp
      rw[List.getLast?_eq_some_getLast hne];have:=List.all_eq_true.1 q _ (List.getLast_mem hne);rw[eq_of_beq this]
     refine hl ?_;rw[←this];simp[List.getLast?_cons_cons]
    rw[runP,jcc];cases hb:dig b with
    | false=>
     rw[if_neg (fun q=>by cases q.1),if_neg (fun q=>by cases q.2)];by_cases h32:b=32
     ·rw[if_pos ⟨h32,by decide⟩];exact hbl _
     ·rw[if_neg (fun q=>h32 q.1)];exact jc1 _ _
    | true=>
     rw[if_pos ⟨rfl,by decide⟩];show runP (c::t) (.exq true 2) _=none;rw[runP,jcc,if_neg (fun q=>absurd q.2 (by decide)),if_neg (fun q=>by cases q.2)];by_cases h32:c=32
     ·rw[if_pos ⟨h32,by decide⟩];have:=hbl;have e:=this {r with pw:=0};rw[runP,jcc,if_pos h32]at e;rw[jfv]at e ⊢;split at e
      ·cases e
      ·rename_i q;rw[if_neg q]
     ·rw[if_neg (fun q=>h32 q.1)];exact jc1 _ _
 obtain⟨hp,hd⟩:=h0
 match x,hx with
 | [],_=>rfl
 | c::l,hx=>
  by_cases h43:c=43
  ·subst h43
   have e:jcc (.exq false 0) r 43=(.exq true 0,{r with down:=false}):=by
    rw[jcc,if_neg (fun q=>absurd q.1 (by decide)),if_pos ⟨.inl rfl,rfl⟩];rfl
   have hl:l.getLast?≠some 32:=by
    intro q;cases l with
    | nil=>cases q
    | cons a t=>exact hx (by rw[List.getLast?_cons_cons];exact q)
   have tt:=two l true {r with down:=false} hl hp (fun _ _ _ q=>by cases q);rw[runP,e];show Option.map _ (runP l (.exq true 0) {r with down:=false})=(expD l).map _;rw[tt];cases expD l<;>simp
  ·by_cases h45:c=45
   ·subst h45
    have e:jcc (.exq false 0) r 45=(.exq true 0,{r with down:=true}):=by
     rw[jcc,if_neg (fun q=>absurd q.1 (by decide)),if_pos ⟨.inr rfl,rfl⟩];rfl
    have hl:l.getLast?≠some 32:=by
     intro q;cases l with
     | nil=>cases q
     | cons a t=>exact hx (by rw[List.getLast?_cons_cons];exact q)
    have tt:=two l true {r with down:=true} hl hp (fun _ _ _ q=>by cases q);rw[runP,e];show Option.map _ (runP l (.exq true 0) {r with down:=true})=((expD l).map _).map _;rw[tt];cases expD l<;>simp
   ·rw[two (c::l) false r hx hp (fun a t e _=>by cases e;exact⟨h43,h45⟩)]
    have:expZ (c::l)=expD (c::l):=by
     unfold expZ;split
     ·rename_i e;cases e;exact absurd rfl h43
     ·rename_i e;cases e;exact absurd rfl h45
     ·rfl
    rw[this];cases expD (c::l) <;>simp[hd]
theorem jdr{c:Int}:∀{l:List Int},c∉l→ahead c l=l∧past c l=none
 | [],_=>⟨rfl,rfl⟩
 | a::l,h=>by
  simp only[List.mem_cons,not_or]at h;have ha:(a !=c)=true:=by simpa using Ne.symm h.1
  obtain⟨h1,h2⟩:=jdr h.2;refine⟨?_,?_⟩
  ·show List.takeWhile _ (a::l)=_;rw[List.takeWhile_cons_of_pos (p:=fun x=>x !=c) ha];exact congrArg _ h1
  ·unfold past at h2 ⊢;rw[List.dropWhile_cons_of_pos (p:=fun x=>x !=c) ha];exact h2
theorem jc9{c:Int}:∀{d:List Int}{r:List Int},c∉d→ahead c (d++c::r)=d∧past c (d++c::r)=some r
 | [],r,_=>by
  have:(c !=c)=false:=by simp
  refine⟨?_,?_⟩
  ·show List.takeWhile _ (c::r)=_;rw[List.takeWhile_cons_of_neg (p:=fun x=>x !=c) (by simp)]
  ·unfold past;rw[List.nil_append,List.dropWhile_cons_of_neg (p:=fun x=>x !=c) (by simp)]
 | a::d,r,h=>by
  simp only[List.mem_cons,not_or]at h;have ha:(a !=c)=true:=by simpa using Ne.symm h.1
  obtain⟨h1,h2⟩:=jc9 (r:=r) h.2;refine⟨?_,?_⟩
  ·show List.takeWhile _ (a::(d++c::r))=_;rw[List.takeWhile_cons_of_pos (p:=fun x=>x !=c) ha];exact congrArg _ h1
  ·unfold past at h2 ⊢;rw[List.cons_append,List.dropWhile_cons_of_pos (p:=fun x=>x !=c) ha];exact h2
theorem jd0{d:List Int}(h:ja7 d=true){c:Int}(hc:dig c=false):c∉d:=fun q=>by
 have:=List.all_eq_true.1 h c q;rw[hc]at this;cases this
theorem jen{c:Int}:∀{d l:List Int},c∉d→ahead c (d++l)=d++ahead c l
 | [],_,_=>rfl
 | a::d,l,h=>by
  simp only[List.mem_cons,not_or]at h;have ha:(a !=c)=true:=by simpa using Ne.symm h.1
  have:=jen (l:=l) h.2;show List.takeWhile _ (a::(d++l))=_;rw[List.takeWhile_cons_of_pos (p:=fun x=>x !=c) ha];exact congrArg _ this
theorem jem{c a:Int}(l:List Int)(h:a≠c):ahead c (a::l)=a::ahead c l:=
 jen (d:=[a]) (by simpa using Ne.symm h)
section
variable {ja1 : Bool → List Int → Int → Num} {binD : List Int → List Int}
theorem dec_bad{d w:List Int}{c:Int}(hd:ja7 d=true)(hc:dig c=false)(h69:c≠69)(h46:c≠46)(neg:Bool):decR ja1 neg (d++c::w)=none:=by
 have n69:(69:Int) ∉d:=jd0 hd (by decide);have n46:(46:Int) ∉d:=jd0 hd (by decide);unfold decR;split
 ·rfl
 ·dsimp only;rw[jen n69,jem _ h69,jen n46,jem _ h46,if_neg];intro q;have:=q.2.1;rw[digs_app]at this;simp only[ja7,List.all_cons,hc,Bool.false_and,Bool.and_false]at this;cases this
theorem dec_bad2{d d2 w:List Int}{c:Int}(hd:ja7 d=true)(hd2:ja7 d2=true)(hc:dig c=false)(h69:c≠69)(neg:Bool):decR ja1 neg (d++46::(d2++c::w))=none:=by
 have n69:(69:Int) ∉d:=jd0 hd (by decide);have n46:(46:Int) ∉d:=jd0 hd (by decide);have m69:(69:Int) ∉d2:=jd0 hd2 (by decide);unfold decR;split
 ·rfl
 ·dsimp only;rw[jen n69,jem _ (by decide),jen m69,jem _ h69,(jc9 n46).1,(jc9 n46).2,if_neg];intro q;have:=q.2.2;rw[Option.getD_some,digs_app]at this;simp only[ja7,List.all_cons,hc,Bool.false_and,Bool.and_false]at this;cases this
theorem drop_mem(d w:List Int)(c:Int)(h:w≠ []):c∈(d++c::w).dropLast:=by
 rw[List.dropLast_append_of_ne_nil (by simp),List.dropLast_cons_of_ne_nil h];simp
theorem bits_no{l:List Int}{c:Int}(h:c∈l)(hc:c≠48∧c≠49):jca l=false:=by
 cases e:jca l with
 | false=>rfl
 | true=>
  have:=List.all_eq_true.1 e c h;simp only[jae]at this;omega
theorem not_dig{c:Int}(h:dig c=false):c≠48∧c≠49:=by
 unfold dig at h;have:=jac h;omega
theorem jj7{d w:List Int}{c:Int}(hc:dig c=false)(hw:w≠ []∨c≠66)(neg:Bool):
  (bodR ja1 binD neg (d++c::w)=none∧(d++c::w).getLast?=some 66)∨(bodR ja1 binD neg (d++c::w)=decR ja1 neg (d++c::w)):=by
 unfold bodR;by_cases h:2≤(d++c::w).length∧(d++c::w).getLast?=some 66
 ·rw[if_pos h];left
  have hw:w≠ []:=by
   rcases hw with q | q
   ·exact q
   ·intro e;subst e;have:=h.2;simp at this;exact q this
  refine⟨?_,h.2⟩;rw[if_neg];intro q;rw[bits_no (drop_mem d w c hw) (not_dig hc)]at q;cases q.2
 ·rw[if_neg h];exact .inr rfl
theorem bod_bad{d w:List Int}{c:Int}(hd:ja7 d=true)(hc:dig c=false)(h69:c≠69)(h46:c≠46)(hw:w≠ []∨c≠66)(neg:Bool):bodR ja1 binD neg (d++c::w)=none:=by
 rcases jj7 (ja1:=ja1) (binD:=binD) (d:=d) hc hw neg with h | h
 ·exact h.1
 ·rw[h,dec_bad hd hc h69 h46]
theorem jkw{w:List Int}(h:w.getLast?≠some 32)(h0:w≠ [])(r:Rd):runP w .beh r=none:=by
 rw[jfv,if_neg];intro q;rw[List.getLast?_eq_some_getLast h0]at h;have:=List.all_eq_true.1 q _ (List.getLast_mem h0);exact h (congrArg some (eq_of_beq this))
theorem jdz{d w:List Int}{c:Int}(h:w≠ []):(d++c::w).getLast?=w.getLast?:=by
 cases w with
 | nil=>exact absurd rfl h
 | cons a t=>
  rw[List.getLast?_append,List.getLast?_cons_cons,List.getLast?_eq_some_getLast (l:=a::t) (by simp)];rfl
theorem exp_last{x:List Int}{e:Int}(h:expZ x=some e):x.getLast?≠some 66:=by
 have key:∀l:List Int,∀e,expD l=some e→l.getLast?≠some 66:=by
  intro l e h q;unfold expD at h;split at h
  ·rename_i hh;have hm:(66:Int)∈l:=List.mem_of_getLast? q;have:=List.all_eq_true.1 hh.2.2 66 hm;revert this;decide
  ·cases h
 unfold expZ at h;split at h
 ·rename_i l;intro q;cases l with
  | nil=>cases h
  | cons a t=>exact key _ _ h (by rw[List.getLast?_cons_cons]at q;exact q)
 ·rename_i l;intro q;cases hl:expD l with
  | none=>rw[hl]at h;cases h
  | some z=>
   cases l with
   | nil=>cases hl
   | cons a t=>exact key _ _ hl (by rw[List.getLast?_cons_cons]at q;exact q)
 ·exact key _ _ h
theorem fin_exp{x:List Int}(hx:x.getLast?≠some 32){r:Rd}(h:r.pw=0∧r.down=false∧r.bin=false):
  (runP x (.exq false 0) r).bind (finP ja1 binD)=(expZ x).map fun e=>ja1 r.neg r.ds (r.sc-e):=by
 have q:=run_exp x hx r ⟨h.1,h.2.1⟩;cases h1:runP x (.exq false 0) r with
 | none=>
  rw[h1]at q;cases h2:expZ x with
  | none=>rfl
  | some e=>rw[h2]at q;cases q
 | some r'=>
  rw[h1]at q;cases h2:expZ x with
  | none=>rw[h2]at q;cases q
  | some e=>
   rw[h2]at q;simp only[Option.map_some,Option.some.injEq,Prod.mk.injEq]at q;obtain⟨q1,q2,q3,q4,q5⟩:=q;show finP ja1 binD r'=some _;rw[finP,if_neg (by rw[q2,h.2.2];decide),q1,q3,q4,q5]
theorem run_body{u:List Int}(hu:u.getLast?≠some 32)(neg:Bool):(runP u (.bod false false) {neg:=neg}).bind (finP ja1 binD)=bodR ja1 binD neg u:=by
 obtain⟨d,v,rfl,hd,hv⟩:=split_digs u;have n69:(69:Int) ∉d:=jd0 hd (by decide);have n46:(46:Int) ∉d:=jd0 hd (by decide);rw[jjb d v false false _ hd];simp only[List.nil_append,Bool.false_or,Bool.false_eq_true,if_false];rcases hv with rfl | ⟨c,w,rfl,hc⟩
 ·-- digits alone
  have hl:¬(2≤(d++ []).length∧(d++ []).getLast?=some 66):=by
   rw[List.append_nil];intro q;have:=List.mem_of_getLast? q.2;exact jd0 hd (by decide) this
  unfold bodR decR;rw[if_neg hl,List.append_nil,(jdr n69).1,(jdr n69).2];dsimp only;rw[(jdr n46).1,(jdr n46).2];cases d with
  | nil=>rfl
  | cons a t=>
   have hn:ja7 []=true:=rfl;rw[if_pos ⟨by simp,hd,hn⟩];show finP ja1 binD _=_;simp[finP]
 ·have hw32:w≠ []→w.getLast?≠some 32:=fun h q=>hu (by rw[jdz h];exact q)
  rw[runP];show(runP w (bodN _ c _ _).1 (bodN _ c _ _).2).bind _=_;unfold bodN;rw[if_neg (by rw[hc];decide)];by_cases h46:c=46
  ·subst h46;rw[if_pos ⟨rfl,rfl⟩];obtain⟨d2,v2,rfl,hd2,hv2⟩:=split_digs w;have m69:(69:Int) ∉d2:=jd0 hd2 (by decide);dsimp only;rw[jjb d2 v2 _ true _ hd2];simp only[if_true];rcases hv2 with rfl | ⟨c2,x,rfl,hc2⟩
   ·have hl:¬(2≤(d++46::(d2++ [])).length∧(d++46::(d2++ [])).getLast?=some 66):=by
     rw[List.append_nil];intro q;have:=List.mem_of_getLast? q.2;simp only[List.mem_append,List.mem_cons]at this;rcases this with q | q | q
     ·exact jd0 hd (by decide) q
     ·cases q
     ·exact jd0 hd2 (by decide) q
    unfold bodR decR;have no:(69:Int) ∉d++46::d2:=by simp[n69,m69]
    rw[if_neg hl,List.append_nil,(jdr no).1,(jdr no).2];dsimp only;rw[(jc9 n46).1,(jc9 n46).2];rw[Option.getD_some];by_cases he:d++d2=[]
    ·have h1:d=[]:=(List.append_eq_nil_iff.1 he).1;have h2:d2=[]:=(List.append_eq_nil_iff.1 he).2;subst h1 h2;rw[if_neg (fun q=>q.1 rfl)];rfl
    ·rw[if_pos ⟨he,hd,hd2⟩]
     have hs:(!d.isEmpty || !d2.isEmpty)=true:=by
      cases d with
      | nil=>cases d2 with
       | nil=>exact absurd rfl he
       | cons=>rfl
      | cons=>rfl
     rw[hs];show finP ja1 binD _=_;simp[finP]
   ·rw[runP];show(runP x (bodN _ c2 _ _).1 (bodN _ c2 _ _).2).bind _=_;unfold bodN;rw[if_neg (by rw[hc2];decide),if_neg (fun q=>by cases q.2)];have hx32:x≠ []→x.getLast?≠some 32:=fun h q=>hu (by rw[jdz (by simp),jdz h];exact q)
    have hne:d2++c2::x≠ []:=by simp
    by_cases h69:c2=69
    ·subst h69
     have hx:x.getLast?≠some 32:=by
      cases x with
      | nil=>simp
      | cons a t=>exact hx32 (by simp)
     have hR:bodR ja1 binD neg (d++46::(d2++69::x))=if d++d2=[]then none else(expZ x).map fun e=>ja1 neg (d++d2) (d2.length-e):=by
      have e1:decR ja1 neg (d++46::(d2++69::x))=if d++d2=[]then none else(expZ x).map fun e=>ja1 neg (d++d2) (d2.length-e):=by
       have no:(69:Int) ∉d++46::d2:=by simp[n69,m69]
       have ea:d++46::(d2++69::x)=(d++46::d2)++69::x:=by simp
       unfold decR;rw[ea,(jc9 no).1,(jc9 no).2];dsimp only;cases hx:expZ x with
       | none=>by_cases he:d++d2=[] <;>simp[he]
       | some e=>
        dsimp only;rw[(jc9 n46).1,(jc9 n46).2,Option.getD_some];by_cases he:d++d2=[]
        ·rw[if_pos he,if_neg (fun q=>q.1 he)]
        ·rw[if_neg he,if_pos ⟨he,hd,hd2⟩];rfl
      rcases jj7 (ja1:=ja1) (binD:=binD) (d:=d) (w:=d2++69::x) (c:=46) (by decide) (.inl hne) neg with⟨h1,h2⟩ | h1
      ·rw[h1]
       have hxx:expZ x=none:=by
        cases hx:expZ x with
        | none=>rfl
        | some e=>
         have:=exp_last hx;rw[jdz hne]at h2;cases x with
         | nil=>simp at h2
         | cons a t=>rw[jdz (by simp)]at h2;exact absurd h2 this
       rw[hxx];split<;>rfl
      ·rw[h1,e1]
     rw[hR];by_cases he:d++d2=[]
     ·have h1:d=[]:=(List.append_eq_nil_iff.1 he).1;have h2:d2=[]:=(List.append_eq_nil_iff.1 he).2;subst h1 h2;show(runP x .ded _).bind _=_;rw[jc1,if_pos he];rfl
     ·have hs:(!d.isEmpty || !d2.isEmpty)=true:=by
       cases d with
       | nil=>cases d2 with
        | nil=>exact absurd rfl he
        | cons=>rfl
       | cons=>rfl
      rw[hs,if_neg (by decide),if_pos rfl,if_neg he];rw[fin_exp hx ⟨rfl,rfl,rfl⟩];simp
    ·have hR:bodR ja1 binD neg (d++46::(d2++c2::x))=none:=by
      rcases jj7 (ja1:=ja1) (binD:=binD) (d:=d) (w:=d2++c2::x) (c:=46) (by decide) (.inl hne) neg with⟨h1,_⟩ | h1
      ·exact h1
      ·rw[h1,dec_bad2 hd hd2 hc2 h69]
     rw[hR];by_cases hs:(!d.isEmpty || !d2.isEmpty)=false
     ·rw[if_pos hs,jc1];rfl
     ·rw[if_neg hs,if_neg h69,if_neg (fun q=>by cases q.2)];by_cases h32:c2=32
      ·have hx0:x≠ []:=fun q=>hu (by subst q h32;rw[jdz (by simp)];simp)
       rw[if_pos h32,jkw (hx32 hx0) hx0];rfl
      ·rw[if_neg h32,jc1];rfl
  ·rw[if_neg (fun q=>h46 q.1)];by_cases h69:c=69
   ·subst h69
    have hw:w.getLast?≠some 32:=by
     cases w with
     | nil=>simp
     | cons a t=>exact hw32 (by simp)
    have hR:bodR ja1 binD neg (d++69::w)=if d=[]then none else(expZ w).map fun e=>ja1 neg d (0-e):=by
     have e1:decR ja1 neg (d++69::w)=if d=[]then none else(expZ w).map fun e=>ja1 neg d (0-e):=by
      unfold decR;rw[(jc9 n69).1,(jc9 n69).2];dsimp only;cases hx:expZ w with
      | none=>by_cases he:d=[] <;>simp[he]
      | some e=>
       dsimp only;rw[(jdr n46).1,(jdr n46).2,Option.getD_none,List.append_nil];by_cases he:d=[]
       ·rw[if_pos he,if_neg (fun q=>q.1 he)]
       ·rw[if_neg he,if_pos ⟨he,hd,rfl⟩];rfl
     rcases jj7 (ja1:=ja1) (binD:=binD) (d:=d) (w:=w) (c:=69) (by decide) (.inr (by decide)) neg with⟨h1,h2⟩ | h1
     ·rw[h1]
      have hxx:expZ w=none:=by
       cases hx:expZ w with
       | none=>rfl
       | some e=>
        have:=exp_last hx;cases w with
        | nil=>simp at h2
        | cons a t=>rw[jdz (by simp)]at h2;exact absurd h2 this
      rw[hxx];split<;>rfl
     ·rw[h1,e1]
    rw[hR];cases d with
    | nil=>
     rw[if_pos rfl,if_pos rfl];show(runP w .ded _).bind _=none;rw[jc1];rfl
    | cons a t=>
     rw[if_neg (by simp),if_pos rfl,if_neg (by simp),fin_exp hw ⟨rfl,rfl,rfl⟩]
   ·by_cases h66:c=66∧w=[]
    ·obtain⟨rfl,rfl⟩:=h66;cases d with
     | nil=>rfl
     | cons a t=>
      rw[if_neg (by simp),if_neg (by decide),if_pos ⟨rfl,rfl⟩];unfold bodR;rw[if_pos ⟨by simp,List.getLast?_concat⟩];have e1:((a::t)++ [66]).dropLast=a::t:=List.dropLast_concat;have e2:((a::t)++ [(66:Int)]).length-1=(a::t).length:=by simp
      rw[e1,e2];show finP ja1 binD _=_;rw[finP,if_pos rfl]
    ·have hor:w≠ []∨c≠66:=by
      by_cases q:w=[]
      ·exact .inr fun e=>h66 ⟨e,q⟩
      ·exact .inl q
     rw[bod_bad hd hc h69 h46 hor];by_cases hs:(!d.isEmpty)=false
     ·rw[if_pos hs,jc1];rfl
     ·rw[if_neg hs,if_neg h69];by_cases hb:c=66
      ·have hw0:w≠ []:=fun q=>h66 ⟨hb,q⟩
       rw[if_pos ⟨hb,rfl⟩,jkw (hw32 hw0) hw0];rfl
      ·rw[if_neg (fun q=>hb q.1)];by_cases h32:c=32
       ·have hw0:w≠ []:=fun q=>hu (by subst q h32;simp)
        rw[if_pos h32,jkw (hw32 hw0) hw0];rfl
       ·rw[if_neg h32,jc1];rfl
theorem num_eq(hn:∀neg,ja1 neg [] 0=(false,[],0))(l:List Int):numP ja1 binD l=numR ja1 binD l:=by
 unfold numP numR;rw[run_lead];obtain⟨b,hb,e,hl⟩:=trR_spec (trL l)
 have hL:trL l≠ []→(trL l).head?≠some 32:=by
  intro _ q;have:=List.head?_dropWhile_not (p:=(· ==(32:Int))) (l:=l);unfold trL at q;rw[q]at this;simp at this
 rw[e,jhv b hb]
 have hh:(trR (trL l)).head?≠some 32:=by
  intro q
  have:(trL l).head?=some 32:=by
   rw[e];cases h:trR (trL l)with
   | nil=>rw[h]at q;cases q
   | cons a t=>rw[h]at q;exact q
  exact hL (fun z=>by rw[z]at this;cases this) this
 rw[←e];generalize trR (trL l)=u at*
 match u,hl,hh with
 | [],_,_=>
  show finP ja1 binD _=_;simp[finP,hn,sgnR]
 | c::t,hl,hh=>
  have hc:c≠32:=fun q=>hh (by rw[q];rfl)
  have ht:t.getLast?≠some 32:=by
   intro q;cases t with
   | nil=>cases q
   | cons a r=>exact hl (by rw[List.getLast?_cons_cons];exact q)
  rw[runP];by_cases h:c=43∨c=45
  ·have e:jcc .beg {} c=(.bod false false,{neg:=decide (c=45)}):=by
    rw[jcc,if_neg hc,if_pos h]
   rw[e];show(runP t (.bod false false) {neg:=decide (c=45)}).bind _=_;rw[run_body ht];rcases h with rfl | rfl<;>rfl
  ·have e:jcc .beg {} c=jcc (.bod false false) {} c:=by
    rw[jcc,if_neg hc,if_neg h];rfl
   rw[e];have:=run_body (ja1:=ja1) (binD:=binD) hl false;rw[runP]at this;rw[this];unfold sgnR;split
   ·rename_i q;cases q
   ·rename_i q;cases q;exact absurd (.inr rfl) h
   ·rename_i q;cases q;exact absurd (.inl rfl) h
   ·rfl
end
end Go.Cv
end
section
namespace Go.Cv
def jnk(l:List Int):List Int:=l.dropWhile (· ==48)
def rep48(n:Nat):List Int:=List.replicate n 48
def intP(ds:List Int)(sc q:Int):List Int:=if sc≤q then jnk (ds++rep48 (q-sc).toNat)else jnk (ds.take (max (ds.length-(sc-q)) 0).toNat)
def plcZ(ds:List Int)(sc q:Int):List Int:=if ds=[]then []else ds++rep48 (q-sc).toNat
def plcR(ds:List Int)(sc q:Int):List Int:=(plcZ ds sc q).take ((plcZ ds sc q).length-max 0 (min ((plcZ ds sc q).length:Int) (sc-q))).toNat
theorem trim_rep:∀n,jnk (rep48 n)=[]
 | 0=>rfl
 | n+1=>by
  show List.dropWhile _ (48::rep48 n)=[]
  rw[List.dropWhile_cons_of_pos (p:=fun x=>x==48) (by decide)];exact trim_rep n
theorem trim_head{l:List Int}(h:l.head?≠some 48):jnk l=l:=by
 cases l with
 | nil=>rfl
 | cons c r=>
  show List.dropWhile _ (c::r)=c::r;rw[List.dropWhile_cons_of_neg (p:=fun x=>x==48)];intro q;exact h (congrArg some (eq_of_beq q))
theorem place_eq{ds:List Int}{sc q:Int}(h0:ds=[]→sc=0)(hh:ds.head?≠some 48):intP ds sc q=plcR ds sc q:=by
 unfold intP plcR plcZ;by_cases he:ds=[]
 ·subst he;rw[if_pos rfl];split
  ·rw[List.nil_append,trim_rep,List.take_nil]
  ·rw[List.take_nil,List.take_nil];rfl
 ·rw[if_neg he];split
  ·rename_i h;have e:((ds++rep48 (q-sc).toNat).length-max 0 (min ((ds++rep48 (q-sc).toNat).length:Int) (sc-q))).toNat=(ds++rep48 (q-sc).toNat).length:=by omega
   rw[e,List.take_of_length_le (Nat.le_refl _),trim_head];cases ds with
   | nil=>exact absurd rfl he
   | cons c r=>exact hh
  ·rename_i h;have e:(q-sc).toNat=0:=by omega
   rw[e,show rep48 0=[]from rfl,List.append_nil];have e2:(max ((ds.length:Int)-(sc-q)) 0).toNat=((ds.length:Int)-max 0 (min (ds.length:Int) (sc-q))).toNat:=by omega
   rw[e2];generalize ((ds.length:Int)-max 0 (min (ds.length:Int) (sc-q))).toNat=k;refine trim_head ?_;cases ds with
   | nil=>exact absurd rfl he
   | cons c r=>
    cases k with
    | zero=>simp
    | succ k=>exact hh
end Go.Cv
end
noncomputable section
namespace Go.Cx
open Go Go.Ab Go.Proofs Go.Shelf Go.Px
open Go.Fx (Ty Vl)
structure Nu where
 g:Bool
 d:Y
 c:Int
instance:Enc Nu where
 enc t:= .agg ⟨[.bool t.g,.string t.d,.int .i64 t.c]⟩
 dec | .agg ⟨[.bool g,.string d,.int .i64 c]⟩=>some ⟨g,d,c⟩ | _=>none
 dec_some:=by
  intro v a h;split at h
  ·cases h;rfl
  ·cases h
 plain_enc _:=rfl
theorem c154:jbq Tryz.prog 110:=cal Tryz.func110 (by kernel_rfl) (by kernel_rfl)
theorem c131:jbq Tryz.prog 289:=cal Tryz.func289 (by kernel_rfl) (by kernel_rfl)
theorem c55:jbq Tryz.prog 124:=cal Tryz.func124 (by kernel_rfl) (by kernel_rfl)
theorem c30:jbq Tryz.prog 114:=cal Tryz.func114 (by kernel_rfl) (by kernel_rfl)
theorem c29:jbq Tryz.prog 130:=cal Tryz.func130 (by kernel_rfl) (by kernel_rfl)
def tlZ(l:J)(c:Int):J:=l.dropWhile (· ==c)
def trZ(l:J)(c:Int):J:=(l.reverse.dropWhile (· ==c)).reverse
noncomputable def s154 (s t : Y) : Bool × Value := (oneB t && asc (bz t), .string (szO (tlZ (bz s) ((bz t).getD 0 0))))
theorem ok154:jan Tryz.prog 110 (sp2 s154):=jda c154 fun s t hc w _=>by
 simp only[s154,jaf]at hc;obtain⟨c,h1,h2⟩:=jef hc.1;have hlt:c.toNat<128:=jdf hc.2 0 c (by rw[h1];rfl);have e:Enc.enc t=Value.string ⟨#[c]⟩:=congrArg Value.string h1;rw[e];refine(Any.strings_TrimLeft_one Tryz.lays161 s c hlt w).mono fun e w' ⟨h3,h4⟩=>⟨?_,jch h4⟩
 rw[h3,jg2];simp only[s154,Lib.trimLeftB,jcl,tlZ];rw[jeu (q:=(· ==(bz t).getD 0 0)) (fun b=>by rw[←h2,Bool.eq_iff_iff,beq_iff_eq,beq_iff_eq,jmd]),jj6]
noncomputable def s131 (s t : Y) : Bool × Value := (decide (s.size ≤ 9223372036854775807) && (oneB t && asc (bz t)), .string (szO (trZ (bz s) ((bz t).getD 0 0))))
theorem ok131:jan Tryz.prog 289 (sp2 s131):=jda c131 fun s t hc w _=>by
 simp only[s131,jaf,jae]at hc;obtain⟨c,h1,h2⟩:=jef hc.2.1;have hlt:c.toNat<128:=jdf hc.2.2 0 c (by rw[h1];rfl);have e:Enc.enc t=Value.string ⟨#[c]⟩:=congrArg Value.string h1;rw[e];refine(Any.strings_TrimRight_one Tryz.lays162 s c hlt w hc.1).mono fun e w' ⟨h3,h4⟩=>⟨?_,jch h4⟩
 rw[h3,jg2];simp only[s131,Lib.trimRightB,jcl,trZ];rw[zl,List.map_reverse];have hq:∀b:UInt8,(b==c)=((b.toNat:Int)==(bz t).getD 0 0):=fun b=>by rw[←h2,Bool.eq_iff_iff,beq_iff_eq,beq_iff_eq,jmd]
 have:=jeu (p:=(· ==c)) (q:=(· ==(bz t).getD 0 0)) hq s.data.toList.reverse;rw[zl,zl,List.map_reverse]at this;rw[this];rfl
noncomputable def s55 (s t : Y) : Bool × Value := (decide (s.size ≤ 9223372036854775807) && (decide (t.size ≤ 1000) && asc (bz t)), .string (szO (jap (bz s) (bz t))))
theorem ok55:jan Tryz.prog 124 (sp2 s55):=jda c55 fun s t hc w _=>by
 simp only[s55,jaf,jae]at hc;obtain⟨h1,h2,h3⟩:=hc;refine(Any.strings_Trim_laid Tryz.lays160 jjn s t w (by omega) (by omega) (jdf h3)).mono fun e w' ⟨h5,h6⟩=>⟨?_,h6⟩
 rw[h5,jg2,trim_zl];simp only[s55,jcl];rfl
def s30(s:Y)(n:Int):Bool×Value:=(decide (0≤n∧n≤1000∧s.size≤1000),.string (szO (repZ (bz s) n.toNat)))
theorem ok30:jan Tryz.prog 114 (sp2 s30):=jda c30 fun s n hc w _=>by
 obtain⟨h1,h2,h3⟩:=jab hc
 have e:Enc.enc n=Value.int .i64 (n.toNat:Int):=by
  show Value.int .i64 n=_;rw[Int.toNat_of_nonneg h1]
 rw[e];have hm:s.size*n.toNat≤1000*1000:=Nat.mul_le_mul h3 (by omega);refine(Any.strings_Repeat Tryz.lays105 Tryz.Builder_Extra_105 s n.toNat w (by omega) (by omega)).mono fun e w' ⟨h4,h5⟩=>⟨?_,h5⟩
 rw[h4,jg2,jmr];simp only[s30,jcl];rfl
def itoZ(n:Int):J:=zl (Lib.itoa n)
def s29(n:Int):Bool×Value:=(decide (-9223372036854775808≤n∧n≤9223372036854775807),.string (szO (itoZ n)))
theorem ok29:jan Tryz.prog 130 (sp1 s29):=shelf1 c29 fun n hc w ht=>by
 obtain⟨h0,h1⟩:=jab hc;refine(Any.strconv_Itoa (ρ:=Tryz.laysM171_ren) Tryz.laysM171 n h0 h1 w (tab_pow ht)).mono fun e w' ⟨h2,k,os,h3⟩=>⟨?_,by rw[h3];exact Lib.below_grow _ _ (Nat.le_refl _) _ _⟩
 rw[h2,jg2];simp only[s29,jcl];rfl
end Go.Cx
end
noncomputable section
set_option maxHeartbeats 3200000
namespace Go.Cx
open Go Go.Ab Go.Proofs Go.Shelf Go.Px Go.Cv
open Go.Fx (Ty Vl check ja9 most base pw bnd Fit fits tv vv tup V0 T0 jbs jbw jbj jcd str0)
def G0:Env:=Env.nil
theorem ok_G0:ja0 Tryz.prog G0:=jav
def binG:J→Int→Int
 | [],a=>a
 | c::r,a=>binG r (2*a+(c-48))
theorem w8s{c:Int}(h:48≤c∧c<256):IntKind.wrap .u8 (c-48)=c-48:=w8 (by omega)
theorem bit_cases{s:Y}{i:Nat}(h:i<s.size)(hb:jca (bz s)=true):jai s i=48∨jai s i=49:=by
 have hl:i<(bz s).length:=by rw[jam];exact h
 have e:jai s i=(bz s)[i]:=by rw[jek,List.getD_eq_getElem?_getD,List.getElem?_eq_getElem hl];rfl
 rw[jca,List.all_eq_true]at hb;have:=hb (bz s)[i] (List.getElem_mem hl);rw[e];simpa using this
theorem dig_cases{s:Y}{i:Nat}(h:i<s.size)(hb:ja7 (bz s)=true):48≤jai s i∧jai s i≤57:=by
 have hl:i<(bz s).length:=by rw[jam];exact h
 have e:jai s i=(bz s)[i]:=by rw[jek,List.getD_eq_getElem?_getD,List.getElem?_eq_getElem hl];rfl
 rw[ja7,List.all_eq_true]at hb;have:=hb (bz s)[i] (List.getElem_mem hl);rw[e];simpa[dig]using this
theorem bz_slice1{s:Y}:bz (s.extract 1 s.size)=(bz s).drop 1:=by
 rw[jb7,List.take_of_length_le (by rw[jam];omega)]
theorem jgu{s:Y}(n:Nat):bz (s.extract 0 n)=(bz s).take n:=by rw[jb7];rfl
theorem jdn(s:Y)(i j:Nat):(s.extract i j).size=min j s.size-i:=ByteArray.size_extract
theorem jce(s:Y):(s.toList==(ByteArray.mk #[]).toList)=decide (bz s=[]):=by
 rw[jfg];rfl
def s152(c:U8):Bool×Value:=(true,B (c.n==32))
theorem v152(c:U8)(R:Value→Prop):jaz Tryz.prog G0 noL Tryz.f287 [Enc.enc c] (fun _=>none) 0 (fun v _ _=>R v)=(R (B (U8.n c==32))):=by kernel_rfl
theorem ok152:jan Tryz.prog 287 (sp1 s152):=by
 refine jck ok_G0 hmix (.m Tryz.func287) jaj jag fun c hc=> ?_
 rw[ja5,v152]
 try dsimp only[s152]
def s213(c:U8):Bool×Value:=(true,B (dig c.n))
theorem v213(c:U8)(R:Value→Prop):jaz Tryz.prog G0 noL Tryz.f308 [Enc.enc c] (fun _=>none) 0 (fun v _ _=>R v)=(bif decide (U8.n c≥48) || true then R (B (decide (U8.n c≥48) &&decide (U8.n c≤57)))else False):=by kernel_rfl
theorem ok213:jan Tryz.prog 308 (sp1 s213):=by
 refine jck ok_G0 hmix (.m Tryz.func308) jaj jag fun c hc=> ?_
 rw[ja5,v213]
 try dsimp only[s213]
 refine c_t (by simp) ?_;show Value.bool _=Value.bool _;congr 1;rw[Bool.eq_iff_iff];simp[dig]
def s141(k:Int):Bool×Value:=(true,I (most k))
theorem v141(k:Int)(R:Value→Prop):jaz Tryz.prog G0 noL Tryz.f176 [Enc.enc k] (fun _=>none) 0 (fun v _ _=>R v)=(bif k==1 then R (I 9)else R (I 31)):=by kernel_rfl
theorem ok141:jan Tryz.prog 176 (sp1 s141):=by
 refine jck ok_G0 hmix (.m Tryz.func176) jaj jag fun k hc=> ?_
 rw[ja5,v141]
 try dsimp only[s141]
 repeat' apply cond_intro<;>intro h
 all_goals grind [s141,most]
def G1:Env:=Env.nil.add 176 (sp1 s141)
theorem ok_G1:ja0 Tryz.prog G1:=jak jav ok141
def s66(t:Ty):Bool×Value:=(true,I (check t))
def nl(f:Bool)(a b c d e:Int):Bool:=au a b || (dw a c || (au d 0 || (dw d e || f)))
def cl(a:Fx.Ty)(b:Int):Bool:=Fx.Ty.k a==b
def pp(b:Bool)(a:Fx.Ty):Bool:=nl (cm (cl a 2) (Fx.Ty.q a !=0 || (Fx.Ty.v a || b)) (Fx.Ty.v a || b)) (Fx.Ty.p a) 1 (Fx.most (Fx.Ty.k a)) (Fx.Ty.q a) (Fx.Ty.p a)
def pd(b:Bool)(a:Fx.Ty):Bool:=bif !cl a 1 then !cl a 2 || pp b a else pp b a
theorem v66(t:Ty)(R:Value→Prop):jaz Tryz.prog G1 noL Tryz.f121 [Enc.enc t] (fun _=>none) 0 (fun v _ _=>R v)=(bif pd true t then bif pd (!du (Fx.Ty.s t) am) t then R (ak 5)else R (ak 0)else False):=by kernel_rfl
theorem ok66:jan Tryz.prog 121 (sp1 s66):=by
 refine jck ok_G1 hmix (.m Tryz.func121) jaj jag fun t hc=> ?_
 rw[ja5,v66];delta ak dw au nl cm cl pp pd du am
 try dsimp only[s66]
 repeat' apply cond_intro<;>intro h
 all_goals grind [s66,check,ja9,str0]
def G2:Env:=Env.nil.add 121 (sp1 s66)
theorem ok_G2:ja0 Tryz.prog G2:=jak jav ok66
def s85(t:Ty):Bool×Value:=(true,B (decide (ja9 t)))
theorem v85(t:Ty)(R:Value→Prop):jaz Tryz.prog G2 noL Tryz.f305 [Enc.enc t] (fun _=>none) 0 (fun v _ _=>R v)=(R (B (check t==0))):=by kernel_rfl
theorem ok85:jan Tryz.prog 305 (sp1 s85):=by
 refine jck ok_G2 hmix (.m Tryz.func305) jaj jag fun t hc=> ?_
 rw[ja5,v85]
 try dsimp only[s85]
 show Value.bool _=Value.bool _;congr 1;rw[check];split<;>simp_all
def s74(s:Y):Bool×Value:=(decide (s.size≤9223372036854775807),B (jca (bz s)))
def s82(s:Y):Bool×Value:=(jca (bz s) &&decide (s.size≤64),C64 (binG (bz s) 0))
def G4:Env:=Env.nil
theorem ok_G4:ja0 Tryz.prog G4:=jav
def nz(l:J):J:=trZ (tlZ l 48) 48
def ja1(g:Bool)(l:J)(q:Int):Num:=if nz l=[]then(false,[],0)else(g,nz l,q-((tlZ l 48).length-(nz l).length))
def binD(l:J):J:=decZ (binG l 0)
def decG:J→Int→Int
 | [],a=>a
 | c::r,a=>decG r (10*a+(c-48))
abbrev numV(x:Num):Value:= .agg ⟨[.bool x.1,.string (szO x.2.1),.int .i64 x.2.2]⟩
def num0:Num:=(false,[],0)
def rdN(l:J):Option Num:=if 255<l.length then none else numR ja1 binD l
theorem tl_cons(c:Int)(l:J):tlZ (c::l) c=tlZ l c:=by simp[tlZ]
theorem tl_ne{c d:Int}(h:d≠c)(l:J):tlZ (d::l) c=d::l:=by simp[tlZ,h]
theorem tr_snoc(c:Int)(l:J):trZ (l++ [c]) c=trZ l c:=by simp[trZ]
theorem tr_ne{c d:Int}(h:d≠c)(l:J):trZ (l++ [d]) c=l++ [d]:=by simp[trZ,h]
theorem jkd(l:J)(c:Int):(trZ l c).length≤l.length:=by
 rw[trZ,List.length_reverse];exact Nat.le_trans (List.dropWhile_sublist _).length_le (by rw[List.length_reverse];omega)
theorem je2(l:J)(c:Int):(tlZ l c).length≤l.length:=(List.dropWhile_sublist _).length_le
theorem trL_eq(l:J):trL l=tlZ l 32:=rfl
theorem trR_eq(l:J):trR l=trZ l 32:=rfl
theorem jip{s:Y}{n:Int}(h:(s.size:Int)=n+1)(h0:0≤n):bz s=bz (s.extract 0 n.toNat)++ [jai s n.toNat]:=by
 have e:=List.take_append_drop n.toNat (bz s);have d:=jd2 (s:=s) (i:=n) h0 (by omega);rw[jg1 (s:=s) (i:=n+1) (by omega)]at d;rw[jgu,←d,e]
theorem jll{s:Y}(h:0<s.size):bz s=jai s 0::bz (s.extract 1 s.size):=by
 rw[bz_slice1];exact jd2 (s:=s) (i:=0) (by omega) (by omega)
theorem jma{s:Y}(h:s.size=0):bz s=[]:=List.length_eq_zero_iff.1 (by rw[jam];exact h)
theorem jnl{s:Y}{l:J}(h:bz s=l):s=szO l:=by rw[jcl,←h,jf3]
theorem jb2(l:J):(szO l).size=l.length:=by rw[jcl,jgh]
def V79_0:Y×Y→F:=fun(s,r)=> [S s,S r]
def B79_0:Y×Y→O:=fun _=> []
def S79_0:LSpec (Y×Y) where
 live:=[0,2]
 mid:=[]
 n:=60
 dec vs bs:=match vs,bs with | [.string s,.string r],[]=>some (s,r) | _,_=>none
 pre:=fun(s,r)=>decide (s.size≤9223372036854775807)
 fin:=fun(s,r) Z=>∀s':Y,bz s'=tlZ (bz s) 32→Z (.exit 0) [S s',S r] []
def mj(a d:Bool)(c:Y)(g:Exit→F→O→Prop)(b e f:Int)(j m:O)(k:Nat)(h i l:Value):Prop:=bif cm a (ct b (al c) &&true) true then bif a&&d then cu (ez 0 e f f (al c)) g j [h,i]else g (.exit k) [l,i] m else False
def kj(a:Y)(b:Int):Y:=a.extract b.toNat a.size
def i6(a:Y)(b:Int):Bool:=decide (al a>b)
theorem r79_0(s:Y)(r:Y)(jk:Tmps)(R:Exit→F→O→Prop):(jb6 Tryz.prog G4 noL Tryz.f80.ntmps (jbb Tryz.f80 0) (tl S79_0.live (V79_0 (s,r)) jk) (ml S79_0.mid (B79_0 (s,r))) S79_0.n fun e t' m' _=>R e (List.map t' S79_0.live) (List.map m' S79_0.mid))=(mj (i6 s 0) (cw s 0 32) s R 0 1 (al s) [] [] 0 (S (kj s 1)) (S r) (S s)):=by kernel_rfl
theorem l79_0:∀t m n K,S79_0.h t m n K→Ab.Sem Tryz.prog Tryz.f80.ntmps (.loop (jbb Tryz.f80 0)) t m n K:=by
 refine jcq ok_G4 hmix (by kernel_rfl) (jbf _) S79_0 V79_0 B79_0 (fun(s,r)=>s.size) ?_ ?_ ?_
 ·intro vs bs s h;simp only[S79_0]at h;split at h
  all_goals first | (cases h;exact⟨rfl,rfl⟩) | cases h | (split at h<;>first | (rename_i hq;cases h;have hq:=jah hq;subst hq;exact⟨rfl,rfl⟩) | cases h)
 ·exact fun _ _ _ h=>h
 ·intro⟨s,r⟩ jk Z hp hf;rw[r79_0];delta cu ez al cm ct mj kj cw i6;simp only[S79_0]at hp hf;have hp:s.size≤9223372036854775807:=jab hp;have hx:(decide ((s.size:Int)>0))=true→0<s.size:=fun h=>by have:=jab h;omega
  refine c_t (by rcases Nat.eq_zero_or_pos s.size with q | q<;>simp[q]) (cond_intro (fun h=> ?_) (fun h=> ?_))
  ·simp only[jaf]at h;have h0:=hx h.1;have hc:jai s 0=32:=by simpa using h.2
   rw[jll h0,hc,tl_cons]at hf;refine c_t (by simp;try omega) ?_;exact⟨(s.extract 1 s.size,r),rfl,rfl,by simp only[S79_0,jae,jdn];omega,by simp only[jdn];omega,hf⟩
  ·refine hf s ?_;rcases Nat.eq_zero_or_pos s.size with h0 | h0
   ·rw[jma h0];rfl
   ·rw[jll h0];refine(tl_ne (fun q=> ?_) _).symm;simp[q,h0]at h
def V79_2:Y×Y→F:=fun(s,r)=> [S s,S r]
def B79_2:Y×Y→O:=fun _=> []
def S79_2:LSpec (Y×Y) where
 live:=[0,2]
 mid:=[]
 n:=60
 dec vs bs:=match vs,bs with | [.string s,.string r],[]=>some (s,r) | _,_=>none
 pre:=fun(s,r)=>decide (s.size≤9223372036854775807)
 fin:=fun(s,r) Z=>∀s':Y,bz s'=trZ (bz s) 32→Z (.exit 2) [S s',S r] []
theorem r79_2(s:Y)(r:Y)(jk:Tmps)(R:Exit→F→O→Prop):(jb6 Tryz.prog G4 noL Tryz.f80.ntmps (jbb Tryz.f80 2) (tl S79_2.live (V79_2 (s,r)) jk) (ml S79_2.mid (B79_2 (s,r))) S79_2.n fun e t' m' _=>R e (List.map t' S79_2.live) (List.map m' S79_2.mid))=(mj (i6 s 0) (bv s (fq s 1)==32) s R (fq s 1) 0 (fq s 1) [] [] 2 (S (gk s 1)) (S r) (S s)):=by kernel_rfl
theorem l79_2:∀t m n K,S79_2.h t m n K→Ab.Sem Tryz.prog Tryz.f80.ntmps (.loop (jbb Tryz.f80 2)) t m n K:=by
 refine jcq ok_G4 hmix (by kernel_rfl) (jbf _) S79_2 V79_2 B79_2 (fun(s,r)=>s.size) ?_ ?_ ?_
 ·intro vs bs s h;simp only[S79_2]at h;split at h
  all_goals first | (cases h;exact⟨rfl,rfl⟩) | cases h | (split at h<;>first | (rename_i hq;cases h;have hq:=jah hq;subst hq;exact⟨rfl,rfl⟩) | cases h)
 ·exact fun _ _ _ h=>h
 ·intro⟨s,r⟩ jk Z hp hf;rw[r79_2];delta cu ez al cm ct mj fq gk bv i6;simp only[S79_2]at hp hf;have hp:s.size≤9223372036854775807:=jab hp;have hl:∀h:0<s.size,IntKind.i64.wrap ((s.size:Int)-1)=((s.size-1:Nat):Int):=fun h=>by rw[w64 (by omega)];omega
  refine c_t (by
    rcases Nat.eq_zero_or_pos s.size with q | q
    ·simp[q]
    ·rw[hl q];simp
     try omega) (cond_intro (fun h=> ?_) (fun h=> ?_))
  ·simp only[jaf]at h;have h0:0<s.size:=by have:=jab h.1;omega
   rw[hl h0]at h ⊢;have hb:=jip (s:=s) (n:=((s.size-1:Nat):Int)) (by omega) (by omega);rw[Int.toNat_natCast]at hb;have hc:jai s (s.size-1)=32:=by simpa using h.2
   rw[hc]at hb;have hb':=hb;rw[hb,tr_snoc]at hf;refine c_t (by simp;try omega) ?_;exact⟨(s.extract 0 (s.size-1),r),rfl,rfl,by simp only[S79_2,jae,jdn];omega,by simp only[jdn];omega,hf⟩
  ·have hz:bz s=trZ (bz s) 32:=by
    rcases Nat.eq_zero_or_pos s.size with h0 | h0
    ·rw[jma h0];rfl
    ·have hb:=jip (s:=s) (n:=((s.size-1:Nat):Int)) (by omega) (by omega);rw[Int.toNat_natCast]at hb;rw[hb];refine(tr_ne (fun q=> ?_) _).symm;rw[hl h0]at h;simp[q,h0]at h
   exact hf s hz
theorem lok79:LOKf Tryz.prog (twoL 0 S79_0.h 2 S79_2.h) Tryz.f80:=jgb (by kernel_rfl) (by kernel_rfl) l79_0 l79_2
def s79(s:Y):Bool×Value:=(decide (s.size≤9223372036854775807),S (szO (trZ (tlZ (bz s) 32) 32)))
theorem v79(s:Y)(R:Value→Prop):jaz Tryz.prog G4 (twoL 0 S79_0.h 2 S79_2.h) Tryz.f80 [Enc.enc s] (fun _=>none) 0 (fun v _ _=>R v)=(bif S79_0.pre (s,am)then∀a:Y,bz a=tlZ (bz s) 32→Tmps→(bif S79_2.pre (a,am)then∀b:Y,bz b=trZ (bz a) 32→Tmps→R (S b)else False)else False):=by kernel_rfl
theorem ok79:jan Tryz.prog 80 (sp1 s79):=by
 refine jck ok_G4 hmix (.m Tryz.func80) lok79 jag fun s hc=> ?_
 rw[ja5,v79];delta am;have hc:(s.size≤9223372036854775807):=jab hc
 try dsimp only[s79]
 refine c_t (jaa hc) fun s1 h1 _=> ?_
 have hs:s1.size≤s.size:=by rw[←jam,←jam,h1];exact je2 _ _
 refine c_t (jaa (by omega)) fun s2 h2 _=> ?_
 rw[h1]at h2;rw[jnl h2]
def s80(g:Bool)(s:Y)(q:Int):Bool×Value:=(decide (s.size≤1000∧ -100000≤q∧q≤100000),numV (ja1 g (bz s) q))
theorem jin:∀(l:J)(a:Int),decG l a=l.foldl (fun a c=>10*a+(c-48)) a
 | [],_=>rfl
 | c::l,a=>jin l _
theorem decG_rng{l:J}(h:ja7 l=true)(h2:l.length≤2):0≤decG l 0∧decG l 0≤99:=by
 match l,h,h2 with
 | [],_,_=>simp[decG]
 | [a],h,_=>
  simp[ja7,dig]at h;simp only[decG];omega
 | [a,b],h,_=>
  simp[ja7,dig]at h;simp only[decG];omega
 | _::_::_::_,_,h2=>simp at h2
theorem expZ_head{c:Int}{l:J}:expZ (c::l)=if c=45 then(expD l).map (fun n=> -n)else if c=43 then expD l else expD (c::l):=by
 by_cases h:c=45
 ·subst h;rfl
 ·by_cases h2:c=43
  ·subst h2;rfl
  ·rw[if_neg h,if_neg h2];unfold expZ;split
   ·rename_i q;cases q;exact absurd rfl h2
   ·rename_i q;cases q;exact absurd rfl h
   ·rfl
def H1:Env:=(Env.nil.add 110 (sp2 s154)).add 289 (sp2 s131)
theorem ok_H1:ja0 Tryz.prog H1:=jak (jak jav ok154) ok131
theorem jlz{l:J}(h:IsB l)(c:Int):IsB (tlZ l c):=fun x hx=>h x ((List.dropWhile_sublist _).subset hx)
theorem isB_tr{l:J}(h:IsB l)(c:Int):IsB (trZ l c):=fun x hx=>by
 rw[trZ,List.mem_reverse]at hx;exact h x (List.mem_reverse.1 ((List.dropWhile_sublist _).subset hx))
theorem jco{l:J}(h:IsB l):bz (szO l)=l:=by rw[jcl,je1 h]
theorem jdv:szO []=⟨#[]⟩:=jcl []
def dz(n:Int):J:=if n=0 then []else decZ n
theorem jld{n:Int}(h:0<n):dz n=dz (n/10)++ [48+n%10]:=by
 obtain⟨k,rfl⟩:∃k:Nat,n=(k:Int):=⟨n.toNat,by omega⟩
 have hu:∀j:Nat,j<10→((UInt8.ofNat (48+j)).toNat:Int)=48+j:=fun j hj=>by rw[UInt8.toNat_ofNat'];omega
 rw[dz,if_neg (by omega),decZ,Int.toNat_natCast,Lib.decDigits];by_cases h1:k<10
 ·have e:(k:Int)/10=0:=by omega
  rw[dif_pos h1,dz,e,if_pos rfl,zl,List.map_cons,List.map_nil,hu k h1,List.nil_append];congr 1;omega
 ·have e:(k:Int)/10=((k/10:Nat):Int):=by omega
  rw[dif_neg h1,dz,e,if_neg (by omega),decZ,Int.toNat_natCast,zl,List.map_append,List.map_cons,List.map_nil,hu (k%10) (by omega)];rfl
theorem row_pre{d:F}{m cap:Nat}(h:RowP d m cap)(x:Int){tail:F}{cap':Nat}(ht:jbm tail cap' (1+m) 1=true):
  RowP ([.int .u8 x]++d.take m++tail) (1+m) cap'∧zc ([.int .u8 x]++d.take m++tail) (1+m)=x::zc d m:=by
 obtain⟨t1,t2,t3,t4⟩:=je3 ht;have hz:=ja6 h;have:=jlu (x::zc d m) (tail:=tail) (cap:=cap') t1 (by simp only[List.length_cons,hz];omega) t4;simp only[List.length_cons,hz]at this;rw[h.take,Nat.add_comm 1 m];exact this
def s77(g:Bool)(s:Y)(q:Int):Bool×Value:=(decide (s.size≤100000∧ -100000≤q∧q≤100000),numV (ja1 g (bz s) q))
def k7:Value:= .agg ⟨[.bool false,bq,ak 0]⟩
def ol(c:Bool)(a:Y)(d:Value)(b:Value→Prop):Prop:=bif du a am then b k7 else b (ay [.bool c,.string a,d])
def j7(a:Y):Y:=szO (tlZ (bz a) (jz cv))
theorem v77(g:Bool)(s:Y)(q:Int)(R:Value→Prop):jaz Tryz.prog H1 noL Tryz.f239 [Enc.enc g,Enc.enc s,Enc.enc q] (fun _=>none) 0 (fun v _ _=>R v)=(bif ax (j7 s) && (oneB cv&&asc (bz cv))then ol g (szO (trZ (bz (j7 s)) (jz cv))) (bp (q-bu (dx (j7 s)) (dx (szO (trZ (bz (j7 s)) (jz cv)))))) R else False):=by kernel_rfl
theorem ok77:jan Tryz.prog 239 (sp3 s77):=by
 refine jkh ok_H1 hmix (.m Tryz.func239) jaj jag fun g s q hc=> ?_
 rw[ja5,v77];delta ay ak am bq k7 du ol bp bu dx jz cv j7 ax;have hc:(s.size≤100000∧ -100000≤q∧q≤100000):=jab hc
 try dsimp only[s77]
 have d:(bz ⟨#[48]⟩).getD 0 0=48:=rfl;have iA:IsB (tlZ (bz s) 48):=jlz (jdb s) 48;have eA:bz (szO (tlZ (bz s) 48))=tlZ (bz s) 48:=jco iA;have h1:=je2 (bz s) 48;rw[jam]at h1;have h2:=jkd (tlZ (bz s) 48) 48;rw[d,eA,jb2];refine c_t (by rw[jaa (show(tlZ (bz s) 48).length≤9223372036854775807 by omega),Bool.true_and];kernel_rfl) ?_;rw[jce,jco (isB_tr iA 48),jb2];apply cond_intro<;>intro h
 ·have h:nz (bz s)=[]:=jab h;rw[ja1,if_pos h];show _=Value.agg ⟨[.bool false,.string (szO []),.int .i64 0]⟩;rw[jdv]
 ·have h:¬nz (bz s)=[]:=jac h;rw[ja1,if_neg h,w64 (n:=((tlZ (bz s) 48).length:Int)-(trZ (tlZ (bz s) 48) 48).length) (by omega),w64 (by omega)];rfl
def V78_0:Y×Y×Int×Int×Int→F:=fun(s,r,n,L,i)=> [S s,S r,C64 n,I L,I i]
def B78_0:Y×Y×Int×Int×Int→O:=fun _=> []
def S78_0:LSpec (Y×Y×Int×Int×Int) where
 live:=[0,2,3,7,8]
 mid:=[]
 n:=60
 dec vs bs:=match vs,bs with | [.string s,.string r,.int .u64 n,.int .i64 L,.int .i64 i],[]=>some (s,r,n,L,i) | _,_=>none
 pre:=fun(s,r,n,L,i)=>decide (0≤i∧i≤L∧L=s.size∧s.size≤64∧0≤n∧n<2^i.toNat) &&jca (bz s)
 fin:=fun(s,r,n,L,i) Z=>Z (.exit 0) [S s,S r,C64 (binG ((bz s).drop i.toNat) n),I L,I L] []
theorem r78_0(s:Y)(r:Y)(n:Int)(L:Int)(i:Int)(jk:Tmps)(R:Exit→F→O→Prop):(jb6 Tryz.prog H1 noL Tryz.f240.ntmps (jbb Tryz.f240 0) (tl S78_0.live (V78_0 (s,r,n,L,i)) jk) (ml S78_0.mid (B78_0 (s,r,n,L,i))) S78_0.n fun e t' m' _=>R e (List.map t' S78_0.live) (List.map m' S78_0.mid))=(gn (au i L) (dp i s.size) (R .normal (jt s r (d8 L i) (.int .u64 (IntKind.u64.wrap (jy 2 n (bv s i) .u64 .u8)))) []) (R (.exit 0) (jt s r [ak L,ak i] (.int .u64 n)) [])):=by kernel_rfl
theorem l78_0:∀t m n K,S78_0.h t m n K→Ab.Sem Tryz.prog Tryz.f240.ntmps (.loop (jbb Tryz.f240 0)) t m n K:=by
 refine jcq ok_H1 hmix (by kernel_rfl) (jbf _) S78_0 V78_0 B78_0 (fun(s,r,n,L,i)=>(s.size-i).toNat) ?_ ?_ ?_
 ·intro vs bs s h;simp only[S78_0]at h;split at h
  all_goals first | (cases h;exact⟨rfl,rfl⟩) | cases h | (split at h<;>first | (rename_i hq;cases h;have hq:=jah hq;subst hq;exact⟨rfl,rfl⟩) | cases h)
 ·exact fun _ _ _ h=>h
 ·intro⟨s,r,n,L,i⟩ jk Z hp hf;rw[r78_0];delta c9 gn jt ak jy bv bp d8 ct dp au;simp only[S78_0]at hp hf;simp only[jaf,jae]at hp;obtain⟨hp,hb⟩:=hp;apply cond_intro<;>intro h
  ·have h:=jab h;rw[jd2 hp.1 (by omega),binG]at hf;refine c_t (jaa (by omega)) ?_;have hc:=bit_cases (s:=s) (i:=i.toNat) (by omega) hb
   have h2:(2:Int) ^ (i+1).toNat=2*2^i.toNat:=by
    rw[show(i+1).toNat=i.toNat+1 by omega,Int.pow_succ,Int.mul_comm]
   have h3:(2:Int) ^ (i+1).toNat≤2^64:=by
    have:(2:Nat) ^ (i+1).toNat≤2^64:=Nat.pow_le_pow_right (by omega) (by omega);have h':((2^ (i+1).toNat:Nat):Int)≤((2^64:Nat):Int):=Int.ofNat_le.2 this;simpa using h'
   have h4:(2:Int) ^64=18446744073709551616:=by decide
   rw[w64 (n:=i+1) (by omega),w8s (by omega),wu64 (n:=jai s i.toNat-48) (by omega),wu64 (n:=2*n) (by omega),wu64 (by omega)];exact⟨(s,r,2*n+(jai s i.toNat-48),L,i+1),rfl,rfl,by simp only[S78_0,jaf,jae];exact⟨by omega,hb⟩,by simp only;omega,hf⟩
  ·have h:=jac h;rw[jg1 (by omega)]at hf;obtain rfl:i=L:=by omega
   exact hf
def V78_2:Int×Rw→F:=fun(n,o)=> [C64 n,o.v 200]
def B78_2:Int×Rw→O:=fun(n,o)=> [o.b]
def S78_2:LSpecA (Int×Rw) where
 live:=[3,5]
 mid:=[200]
 n:=210
 ap:=[(.tmp 5,200)]
 dec vs bs:=match vs,bs with
  | [.int .u64 n,.slice none 0 0],[none]=>some (n,.nil)
  | [.int .u64 n,.slice (some ⟨200,0,some 1⟩) m cap],[some ⟨d,5,true⟩]=>some (n,.own d m cap)
  | _,_=>none
 pre:=fun(n,o)=>o.ok&&decide (0≤n∧(o.is=true→o.z≠ [])∧o.z.length≤20∧n<10^ (20-o.z.length))
 fin:=fun(n,o) Z=>(dz n++o.z=[]→Z (.exit 2) [C64 0,.slice none 0 0] [none])∧(∀d' m' cap',jc6 d' m' cap'=true→zc d' m'=dz n++o.z→dz n++o.z≠ []→Z (.exit 2) [C64 0,.slice (some ⟨200,0,some 1⟩) m' cap'] [some ⟨d',5,true⟩])
def mn(g:Exit→F→O→Prop)(e:Int)(a f j:F)(b c d:Nat)(h i:Value):Prop:=jbm a b c 1=true→cu (bw [(d,200)] (bm e::f)) g [d9 [(d,200)] (bm e::f)] (h::i::j)
theorem r78_2n(n:Int)(jk:Tmps)(R:Exit→F→O→Prop):(jb6 Tryz.prog H1 noL Tryz.f240.ntmps (jbb Tryz.f240 2) (tl S78_2.live (V78_2 (n,.nil)) jk) (ml S78_2.mid (B78_2 (n,.nil))) S78_2.n fun e t' m' _=>S78_2.out R e t' m')=(bif dw n 0 then∀a:Nat,∀b:F,mn R (IntKind.u8.wrap (IntKind.u64.wrap (48+n.tmod 10))) b b [] a (1+0) 218 (.int .u64 (IntKind.u64.wrap (n.tdiv 10))) (dv 200 0 1 a)else R (.exit 2) [.int .u64 n,ip] [none]):=by kernel_rfl
theorem r78_2o(n:Int)(d:F)(m:Nat)(cap:Nat)(jk:Tmps)(R:Exit→F→O→Prop):(jb6 Tryz.prog H1 noL Tryz.f240.ntmps (jbb Tryz.f240 2) (tl S78_2.live (V78_2 (n,.own d m cap)) jk) (ml S78_2.mid (B78_2 (n,.own d m cap))) S78_2.n fun e t' m' _=>S78_2.out R e t' m')=(ft (dw n 0) (Nat.ble (0+m*1) d.length&& ((d.drop 0).take (m*1)).all jfu&&jcj (1+m) 1) (bw e8 d) (∀a:Nat,∀b:F,mn R (IntKind.u8.wrap (IntKind.u64.wrap (48+n.tmod 10))) b ((d.drop 0).take (m*1)++b) [] a (1+m) 218 (.int .u64 (IntKind.u64.wrap (n.tdiv 10))) (dv 200 0 (1+m) a)) (R (.exit 2) [.int .u64 n,jf m cap] [d9 e8 d])):=by kernel_rfl
theorem l78_2:∀t m n K,S78_2.hA t m n K→Ab.Sem Tryz.prog Tryz.f240.ntmps (.loop (jbb Tryz.f240 2)) t m n K:=by
 refine jbu ok_H1 hmix (by kernel_rfl) (jbf _) S78_2 V78_2 B78_2 (fun(n,o)=>n.toNat) ?_ ?_ ?_
 ·intro vs bs s h;simp only[S78_2]at h;split at h
  all_goals first | (cases h;exact⟨rfl,rfl⟩) | cases h | (split at h<;>first | (rename_i hq;cases h;have hq:=jah hq;subst hq;exact⟨rfl,rfl⟩) | cases h)
 ·exact fun⟨n,o⟩ hp=>by
   simp only[S78_2,jaf]at hp;cases o with
   | nil=>simp[V78_2,B78_2,S78_2,jaw,jbt,idsL,ids,Rw.v,Rw.b]
   | own d m cap=>simp[V78_2,B78_2,S78_2,jaw,jbt,idsL,ids,Rw.v,Rw.b,jao (jat.1 hp.1).plain]
 ·intro⟨n,o⟩ jk Z hp hf;simp only[S78_2]at hp hf;simp only[jaf,jae]at hp;obtain⟨hr,h0,his,h20,hlt⟩:=hp
  have hten:0<n→o.z.length<20∧n/10<10^ (20-(o.z.length+1)):=fun hn=>by
   rcases Nat.lt_or_ge o.z.length 20 with q | q
   ·refine⟨q,?_⟩;rw[show 20-o.z.length=(20-(o.z.length+1))+1 by omega,Int.pow_succ]at hlt;omega
   ·rw[show 20-o.z.length=0 by omega]at hlt;omega
  have hw:IntKind.u8.wrap (IntKind.u64.wrap (48+n.tmod 10))=48+n%10:=by
   rw[Int.tmod_eq_emod_of_nonneg h0,wu64 (by omega),w8 (by omega)]
  have hq:n<18446744073709551616*10→IntKind.u64.wrap (n.tdiv 10)=n/10:=fun h=>by
   rw[Int.tdiv_eq_ediv_of_nonneg h0,wu64 (by omega)]
  have h64:n<18446744073709551616*10:=by
   have:(10:Int) ^ (20-o.z.length)≤10^20:=by
    have:(10:Nat) ^ (20-o.z.length)≤10^20:=Nat.pow_le_pow_right (by omega) (by omega);have h':((10^ (20-o.z.length):Nat):Int)≤((10^20:Nat):Int):=Int.ofNat_le.2 this;simpa using h'
   have h5:(10:Int) ^20=100000000000000000000:=by decide
   omega
  cases o with
  | nil=>
   rw[r78_2n];delta ip cu d9 bm bw mn dq dv dw;rw[hw,hq h64];apply cond_intro<;>intro h
   ·have h:n>0:=jab h;intro cap tail ht;obtain⟨g1,g2⟩:=jfx [48+n%10] (tail:=tail) (cap':=cap) ht;have g1:RowP (.int .u8 (48+n%10)::tail) 1 cap:=g1;have g2:zc (.int .u8 (48+n%10)::tail) 1=[48+n%10]:=g2;rw[g1.good,g1.rlb];refine c_t rfl ⟨(n/10,.own _ 1 cap),rfl,rfl,?_,by simp only;omega,?_⟩
    ·simp only[S78_2,jaf,jae];refine⟨jat.2 g1,by omega,?_⟩;simp only[Rw.z,g2];exact⟨fun _=>by simp,by simp,(hten h).2⟩
    ·have e:dz (n/10)++(Rw.own (.int .u8 (48+n%10)::tail) 1 cap).z=dz n++Rw.nil.z:=by
      rw[jld h];simp only[Rw.z,g2,List.append_nil]
     simp only[S78_2];rw[e];exact hf
   ·have h:n=0:=by have:=jac h;omega
    subst h;exact hf.1 rfl
  | own d m cap=>
   rw[r78_2o];delta c9 ft d9 e8 dq jf cu bm bw mn dv dw;rw[hw,hq h64];have hr:RowP d m cap:=jat.1 hr;have hzl:=ja6 hr;have hm:m≤20:=by rw[←hzl];exact h20
   apply cond_intro<;>intro h
   ·have h:n>0:=jab h
    refine c_t (by
     have e1:Nat.ble (0+m*1) d.length=true:=by rw[Nat.ble_eq];have:=hr.len;have:=hr.le;omega
     have e2:(List.take (m*1) (List.drop 0 d)).all jfu=true:=by
      rw[Nat.mul_one,List.drop_zero,hr.take];exact cz_cell _
     have e3:jcj (1+m) 1=true:=by simp only[jcj,jaf,Nat.ble_eq];omega
     rw[e1,e2,e3];rfl) fun cap1 tail ht=> ?_
    obtain⟨g1,g2⟩:=row_pre hr (48+n%10) ht;have g1:RowP (.int .u8 (48+n%10)::(List.take (m*1) (List.drop 0 d)++tail)) (1+m) cap1:=by rw[Nat.mul_one];exact g1
    have g2:zc (.int .u8 (48+n%10)::(List.take (m*1) (List.drop 0 d)++tail)) (1+m)=(48+n%10)::zc d m:=by rw[Nat.mul_one];exact g2
    rw[g1.good,g1.rlb];refine c_t rfl ⟨(n/10,.own _ (1+m) cap1),rfl,rfl,?_,by simp only;omega,?_⟩
    ·simp only[S78_2,jaf,jae];refine⟨jat.2 g1,by omega,?_⟩;simp only[Rw.z,g2,List.length_cons];exact⟨fun _=>by simp,by have:=(hten h).1;simp only[Rw.z]at this;omega,(hten h).2⟩
    ·have e:dz (n/10)++(Rw.own (.int .u8 (48+n%10)::(List.take (m*1) (List.drop 0 d)++tail)) (1+m) cap1).z=dz n++(Rw.own d m cap).z:=by
      rw[jld h];simp only[Rw.z,g2,List.append_assoc,List.cons_append,List.nil_append]
     simp only[S78_2];rw[e];exact hf
   ·have h:n=0:=by have:=jac h;omega
    subst h;rw[hr.good,hr.rlb];refine c_t rfl ?_;exact hf.2 d m cap (jat.2 hr) rfl (his rfl)
theorem jks:∀(l:J)(a:Int),jca l=true→0≤a→0≤binG l a∧binG l a<(a+1)*2^l.length
 | [],a,_,h=>by simp[binG];omega
 | c::r,a,hb,h=>by
  simp only[jca,List.all_cons,jaf,jae]at hb;obtain⟨h1,h2⟩:=jks r (2*a+(c-48)) hb.2 (by omega);rw[binG];refine⟨h1,Int.lt_of_lt_of_le h2 ?_⟩;rw[List.length_cons,Int.pow_succ,Int.mul_comm (2^r.length) 2,←Int.mul_assoc];exact Int.mul_le_mul_of_nonneg_right (by omega) (Int.le_of_lt (Int.pow_pos (by omega)))
theorem jmb{l:J}(hb:jca l=true)(h:l.length≤64):0≤binG l 0∧binG l 0<18446744073709551616:=by
 obtain⟨h1,h2⟩:=jks l 0 hb (by omega);refine⟨h1,Int.lt_of_lt_of_le h2 ?_⟩;have:(2:Nat) ^l.length≤2^64:=Nat.pow_le_pow_right (by omega) h;have h':((2^l.length:Nat):Int)≤((2^64:Nat):Int):=Int.ofNat_le.2 this;have h4:(2:Int) ^64=18446744073709551616:=by decide
 simp at h';omega
theorem lok78:LOKf Tryz.prog (twoL 0 S78_0.h 2 S78_2.hA) Tryz.f240:=jgb (by kernel_rfl) (by kernel_rfl) l78_0 l78_2
def s78(s:Y):Bool×Value:=(jca (bz s) &&decide (s.size≤64),S (szO (dz (binG (bz s) 0))))
theorem v78(s:Y)(R:Value→Prop):jaz Tryz.prog H1 (twoL 0 S78_0.h 2 S78_2.hA) Tryz.f240 [Enc.enc s] (fun _=>none) 0 (fun v _ _=>R v)=(kw (S78_0.pre (s,(am,((0:Int),(al s,(0:Int)))))) (bif S78_2.toLSpec.pre (binG (fk s) 0,Rw.nil)then(Decidable.rec (fun a:Not (Eq (Cx.binG (List.drop (Int.toNat 0) (Px.bz s)) 0) 0)=>decZ (binG (fk s) 0)) (fun a:Eq (Cx.binG (List.drop (Int.toNat 0) (Px.bz s)) 0) 0=> []) ((binG (fk s) 0).instDecidableEq 0)++([]:J)=([]:J)→Tmps→R (S ByteArray.empty))∧(∀a:F,∀b:Nat,∀c:Nat,jc6 a b c=true→zc a b=dz (binG (fk s) 0)++Rw.z Rw.nil→Decidable.rec (fun d:Not (Eq (Cx.binG (List.drop (Int.toNat 0) (Px.bz s)) 0) 0)=>decZ (binG (fk s) 0)) (fun d:Eq (Cx.binG (List.drop (Int.toNat 0) (Px.bz s)) 0) 0=> []) ((binG (fk s) 0).instDecidableEq 0)++([]:J)≠([]:J)→kp true (jbe a 0 b) a (S (ja8 a 0 b)) R)else False) Tmps):=by kernel_rfl
theorem ok78:jan Tryz.prog 240 (sp1 s78):=by
 refine jck ok_H1 hmix (.m Tryz.func240) lok78 jag fun s hc=> ?_
 rw[ja5,v78];delta kw aq kp fk al am
 try dsimp only[s78]
 simp only[s78,jaf,jae]at hc;obtain⟨hb,hl⟩:=hc;obtain⟨b1,b2⟩:=jmb (l:=bz s) hb (by rw[jam];exact hl);refine c_t (by simp only[S78_0,jaf,jae];exact⟨by simp;omega,hb⟩) fun _=> ?_
 refine c_t ?_ ⟨fun hz _=> ?_,fun d' m' cap' hr hz hne=> ?_⟩
 ·simp only[S78_2,jaf,jae];refine⟨rfl,b1,⟨(fun h=>by cases h),⟨by simp[Rw.z],?_⟩⟩⟩;have h5:(10:Int) ^20=100000000000000000000:=by decide
  show binG (bz s) 0<10^20;omega
 ·have hz:dz (binG (bz s) 0)++ []=[]:=hz;rw[List.append_nil]at hz;rw[hz,jdv];rfl
 ·have hr:=jat.1 hr;have hz:zc d' m'=dz (binG (bz s) 0)++ []:=hz;rw[List.append_nil]at hz;refine c_t (by rw[jbl hr.plain];rfl) fun _=>c_t hr.str.1 ?_
  rw[hr.str.2,hz,jcl]
end Go.Cx
end
section
namespace Go.Cv
def jez:St→Bool
 | .ded=>true
 | _=>false
def runQ:List Int→St→Rd→Option (St×Rd)
 | [],st,r=>some (st,r)
 | c::l,st,r=>if jez (jcc st r c).1=true then none else runQ l (jcc st r c).1 (jcc st r c).2
theorem run_Q:∀(l:List Int)(st:St)(r:Rd),jez st=false→runP l st r=(runQ l st r).bind fun x=>if endP x.1=true then some x.2 else none
 | [],st,r,_=>rfl
 | c::l,st,r,_=>by
  rw[runP,runQ];by_cases h:jez (jcc st r c).1=true
  ·rw[if_pos h];cases hs:(jcc st r c).1 with
   | ded=>rw[jc1];rfl
   | _=>rw[hs]at h;cases h
  ·rw[if_neg h];exact run_Q l _ _ (by simpa using h)
section
variable {l : List Int} {r : Rd} {c : Int}
theorem q_beg1(h:c=32):runQ (c::l) .beg r=runQ l .beg r:=by simp[runQ,jcc,h,jez]
theorem q_beg2(h:c=43∨c=45):runQ (c::l) .beg r=runQ l (.bod false false) {r with neg:=decide (c=45)}:=by
 have h1:¬c=32:=by omega
 simp[runQ,jcc,h,h1,jez]
theorem q_beg3(h1:¬c=32)(h:¬(c=43∨c=45)):runQ (c::l) .beg r=runQ (c::l) (.bod false false) r:=by
 simp only[runQ,jcc,if_neg h,if_neg h1];rfl
variable {s p : Bool}
theorem q_bod1(h:dig c=true):runQ (c::l) (.bod s p) r=runQ l (.bod true p) {r with ds:=r.ds++ [c],sc:=if p=true then r.sc+1 else r.sc}:=by
 simp[runQ,jcc,bodN,h,jez]
theorem q_bod2(h:c=46):runQ (c::l) (.bod s false) r=runQ l (.bod s true) r:=by
 subst h;simp[runQ,jcc,bodN,dig,jez]
theorem q_bod3(h:dig c=false)(h2:¬(c=46∧p=false)):runQ (c::l) (.bod false p) r=none:=by
 simp only[runQ,jcc,bodN,h,h2];simp[jez]
theorem q_bod4(h:c=69):runQ (c::l) (.bod true p) r=runQ l (.exq false 0) r:=by
 subst h;simp[runQ,jcc,bodN,dig,jez]
theorem q_bod5(h:c=66):runQ (c::l) (.bod true false) r=runQ l .beh {r with bin:=true}:=by
 subst h;simp[runQ,jcc,bodN,dig,jez]
theorem q_bod6(h:c=32):runQ (c::l) (.bod true p) r=runQ l .beh r:=by
 subst h;simp[runQ,jcc,bodN,dig,jez]
theorem q_bod7(h:dig c=false)(h2:¬(c=46∧p=false))(h3:¬c=69)(h4:¬(c=66∧p=false))(h5:¬c=32):runQ (c::l) (.bod true p) r=none:=by
 simp only[runQ,jcc,bodN,h,h2,h3,h4,h5];simp[jez]
variable {g : Bool} {m : Nat}
theorem q_ex1(h:dig c=true)(hm:m<2):runQ (c::l) (.exq g m) r=runQ l (.exq true (m+1)) {r with pw:=10*r.pw+(c-48)}:=by
 simp[runQ,jcc,h,hm,jez]
theorem q_ex2(h:c=43∨c=45):runQ (c::l) (.exq false m) r=runQ l (.exq true 0) {r with down:=decide (c=45)}:=by
 have h1:dig c=false:=by rcases h with h | h<;>subst h<;>rfl
 simp[runQ,jcc,h1,h,jez]
theorem q_ex3(h:c=32)(hm:0<m):runQ (c::l) (.exq g m) r=runQ l .beh r:=by
 subst h;simp[runQ,jcc,dig,hm,jez]
theorem q_ex4(h:¬(dig c=true∧m<2))(h2:¬((c=43∨c=45)∧g=false))(h3:¬(c=32∧0<m)):runQ (c::l) (.exq g m) r=none:=by
 simp only[runQ,jcc,h,h2,h3];simp[jez]
theorem q_beh1(h:c=32):runQ (c::l) .beh r=runQ l .beh r:=by simp[runQ,jcc,h,jez]
theorem q_beh2(h:¬c=32):runQ (c::l) .beh r=none:=by simp[runQ,jcc,h,jez]
end
end Go.Cv
end
