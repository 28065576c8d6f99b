/-
  Part 2: the run and laws.
-/
import Derived.Test.YtoofiemfbldebaaGreatDoorR11
set_option linter.unusedVariables false
set_option linter.unusedSimpArgs false
set_option linter.unusedSectionVars false
noncomputable section
namespace Go.Px
open Go Go.Ab Go.Proofs Go.Shelf Go.RowKit Go.Sort Go.Lib
theorem laysM284:LaysM.n284 Tryz.prog Tryz.lays172_ren:={Tryz.lays172 with
 i0:=by kernel_rfl
 i3:=by kernel_rfl
 i4:=by kernel_rfl
 i5:=by kernel_rfl
 i9:=by kernel_rfl
 i46:=by kernel_rfl
 i53:=by kernel_rfl
 i212:=by kernel_rfl
 m17:=by kernel_rfl}
theorem tab_pow {w : World} (h : TabsIn w.heap.size w) : Lib.TabIs Tryz.prog w "internal/strconv.uint64pow10" .u64 Lib.pow10Tab := by
 obtain⟨_,ty,fr,h2⟩:=h 7 _ rfl;unfold Lib.TabIs World.var?
 have e : Tryz.prog.globalNamed "internal/strconv.uint64pow10" = some 7 := by kernel_rfl
 rw[e];simp only[Option.bind_some,h2];rfl
theorem fmt_small(u:Nat)(hu:u<100)(w:World):Calls Tryz.prog 176 #[.int .u64 u,.int .i64 10] w fun e w'=>e= .returned (.string ⟨(Lib.decDigits u).toArray⟩)∧w'=w:=by
 have mixed:=Tryz.lays172.mixed;have e142:∀args w,(callFunc 211 args).run Tryz.prog w= .ok (.enter 211 args) w:=enters_of Tryz.func211 (by kernel_rfl) rfl;have hw:IntKind.i64.wrap (u:Int)=(u:Int):=by rw[IntKind.wrap_i64];omega
 go_enter Tryz.func176,Tryz.ntmps176
 go_wp2_with (go_at_fn 211;refine(Any.internal_strconv_small (ρ:=Tryz.lays172_ren) {Tryz.lays172 with} u hu _).mono ?_;rintro e w' ⟨rfl,rfl⟩)
 go_ret
 exact⟨rfl,rfl⟩
set_option maxHeartbeats 6400000 in
set_option maxRecDepth 100000 in
theorem fmt_big (u : Nat) (hu : 100 ≤ u) (hu64 : u < 18446744073709551616) (w : World) (htab : Lib.TabIs Tryz.prog w "internal/strconv.uint64pow10" .u64 Lib.pow10Tab) :
  Calls Tryz.prog 176 #[.int .u64 u,.int .i64 10] w fun e w'=>e= .returned (.string ⟨(Lib.decDigits u).toArray⟩)∧ ∃k os,w'=grow (w.drewN k) os:=by
 have mixed:=Tryz.lays172.mixed;have e143:∀args w,(callFunc 212 args).run Tryz.prog w= .ok (.enter 212 args) w:=enters_of Tryz.func212 (by kernel_rfl) rfl;have e144:∀args w,(callFunc 213 args).run Tryz.prog w= .ok (.enter 213 args) w:=enters_of Tryz.func213 (by kernel_rfl) rfl;have hu1:1≤u:=by omega
 have hnd20:Lib.nDigits u≤20:=by have:=Lib.numDigits_eq u hu1 hu64;split at this<;>omega
 have iu:(100:Int)≤(u:Int):=by omega
 have t148:=Tryz.underlying279;have hal:Tryz.prog.arrayLen 279=24:=by simp[Program.arrayLen,Tryz.underlying279]
 have hsl:∀W,(Instr.sliceAt 279 (.pointer (some ⟨w.heap.size,0,none⟩)) none (some (.int .i64 (Lib.nDigits u:Int))) none).run Tryz.prog W= .ok (.slice (some ⟨w.heap.size,0,none⟩) (Lib.nDigits u) 24) W:=fun W=>by
  rw[run_sliceAt_array_h W 279 ⟨w.heap.size,0,none⟩ (by simp[Program.arrayLen,Program.elem,Tryz.underlying279]) .i64 (Lib.nDigits u:Int) (by omega) (by rw[hal];omega)]
  go_simp
 have hH0:=Lib.holds_zero0 w 279 (Lib.nDigits u) (by omega);have hfmt:=Any.internal_strconv_formatBase10 (ρ:=Tryz.lays172_ren) {Tryz.lays172 with} w.heap.size 0 24 u (Array.replicate (Lib.nDigits u) 0) (w.alloc (.cells Lib.zeros24 279)) hH0 (by rw[Array.size_replicate];exact Lib.lt_pow_nDigits u) hu64 (by rw[Array.size_replicate];omega);rw[Array.size_replicate]at hfmt;have HH0:=Lib.hid hH0;clear hH0 hal
 go_enter Tryz.func176,Tryz.ntmps176
 go_wp2_with (first
  | (go_at_fn 212;refine(Any.internal_strconv_numDigits (ρ:=Tryz.lays172_ren) laysM284 u hu1 hu64 _ (Lib.tabIs_alloc htab _)).mono ?_;rintro e w' ⟨rfl,rfl⟩))
 go_at_fn 213
 refine hfmt.mono ?_;rintro e w' ⟨rfl,k,v',dk,rfl,hF⟩
 have hcv:(convert 78 9 (.slice (some ⟨w.heap.size,0,none⟩) (Lib.nDigits u) 24)).run Tryz.prog ((putRow (fun(b:UInt8)=>Value.int .u8 (b.toNat:Int)) (w.alloc (.cells Lib.zeros24 279)) w.heap.size 0 dk).drewN k)= .ok (.string ⟨(Lib.decDigits u).toArray⟩) ((putRow (fun(b:UInt8)=>Value.int .u8 (b.toNat:Int)) (w.alloc (.cells Lib.zeros24 279)) w.heap.size 0 dk).drewN k):=by
  have h:=run_convert_bytes_back (P:=Tryz.prog) ((putRow (fun(b:UInt8)=>Value.int .u8 (b.toNat:Int)) (w.alloc (.cells Lib.zeros24 279)) w.heap.size 0 dk).drewN k) 78 9 5 ⟨w.heap.size,0,none⟩ 24 (Lib.decDigits u) Tryz.underlying78 Tryz.underlying5 Tryz.underlying9 (fun j hj=>by
   rw[Lib.row_is_numeral hF j hj,Lib.add_plain,World.cell?_drewN];exact cell?_putRow (fun(b:UInt8)=>Value.int .u8 (b.toNat:Int)) _ w.heap.size 0 _ dk HH0.out (by rw[hF.size,Array.size_replicate]) j (by rw[hF.size];rw[Lib.decDigits_length]at hj;exact hj))
  rw[Lib.decDigits_length]at h;exact h
 go_wp2
 go_ret
 obtain⟨os,eo⟩:=Lib.fin_at w (.cells Lib.zeros24 279) dk k 0;exact⟨rfl,k,os,eo⟩
def decZ(n:Int):F:=zl (Lib.decDigits n.toNat)
theorem c87:jbe Tryz.prog 131:=cal Tryz.func131 (by kernel_rfl) (by kernel_rfl)
theorem fmt_all(u:Nat)(hu64:u<18446744073709551616)(w:World)(ht:TabsIn w.heap.size w):
  Calls Tryz.prog 176 #[.int .u64 u,.int .i64 10] w fun e w'=>e= .returned (.string ⟨(Lib.decDigits u).toArray⟩)∧RowKit.Below w.heap.size w w':=by
 by_cases hu:u<100
 ·exact(fmt_small u hu w).mono fun e w' ⟨h1,h2⟩=>⟨h1,jb0 h2⟩
 ·exact(fmt_big u (by omega) hu64 w (tab_pow ht)).mono fun e w' ⟨h1,k,os,h2⟩=>⟨h1,by rw[h2];exact Lib.below_grow _ _ (Nat.le_refl _) _ _⟩
theorem fmt87(u:Nat)(hu64:u<18446744073709551616)(w:World)(ht:TabsIn w.heap.size w):
  Calls Tryz.prog 131 #[.int .u64 u,.int .i64 10] w fun e w'=>e= .returned (.string ⟨(Lib.decDigits u).toArray⟩)∧RowKit.Below w.heap.size w w':=by
 have mixed:=Tryz.lays172.mixed;have e115:∀args w,(callFunc 176 args).run Tryz.prog w= .ok (.enter 176 args) w:=enters_of Tryz.func176 (by kernel_rfl) rfl
 go_enter Tryz.func131,Tryz.ntmps131
 go_wp2_with (go_at_fn 176;refine(fmt_all u hu64 _ ht).mono ?_;rintro e w' ⟨rfl,hb⟩)
 go_ret
 exact⟨rfl,hb⟩
def jk3(b:Int):Bool:=b==10
def s87(n:U64)(b:Int):Bool×Value:=(decide (0≤n.n∧n.n<18446744073709551616) &&jk3 b,.string (sz (decZ n.n)))
theorem ok87:jam Tryz.prog 131 (sp2 s87):=jcs c87 fun n b hc w ht=>by
 simp only[s87,jk3,jaf,jae,beq_iff_eq]at hc;obtain⟨⟨h0,h1⟩,rfl⟩:=hc
 have e:Enc.enc n=Value.int .u64 (n.n.toNat:Int):=by
  show Value.int .u64 n.n=_;rw[Int.toNat_of_nonneg h0]
 rw[e];refine(fmt87 n.n.toNat (by omega) w ht).mono fun e w' ⟨h4,h5⟩=>⟨?_,h5⟩
 rw[h4,jf9];rfl
end Go.Px
end
section
namespace Go.Px
open Go Go.Ab Go.Proofs
def dval(l:F):Int:=numZ l 0
theorem jhr:∀(l:F)(a:Int),numZ l a=a*tenZ l.length+numZ l 0
 | [],a=>by simp[numZ,tenZ]
 | c::r,a=>by
  rw[numZ,jhr r,numZ,jhr r (0*10+(c-48)),List.length_cons,tenZ_succ,Int.add_mul,Int.add_mul,Int.mul_assoc,Int.mul_comm 10 (tenZ r.length)];omega
theorem jf2(a b:F):dval (a++b)=dval a*tenZ b.length+dval b:=by
 have:∀(l:F)(x:Int),numZ (l++b) x=numZ b (numZ l x):=by
  intro l
  induction l with
  | nil=>exact fun _=>rfl
  | cons c r ih=>exact fun x=>ih _
 rw[dval,this,jhr b];rfl
theorem dval_snoc(l:F)(c:Int):dval (l++ [c])=dval l*10+(c-48):=by
 rw[jf2];simp[dval,numZ,tenZ]
theorem dgL_app{a b:F}:dgL (a++b)=true↔dgL a=true∧dgL b=true:=by simp[dgL]
theorem jh7{c:Int}{l:F}:dgL (c::l)=true↔(48≤c∧c≤57)∧dgL l=true:=by simp[dgL]
theorem tenZ_pos(n:Nat):0<tenZ n:=by unfold tenZ;exact Int.pow_pos (by decide)
theorem jeh:∀l:F,dgL l=true→0≤dval l∧dval l<tenZ l.length
 | [],_=>by simp[dval,numZ,tenZ]
 | c::r,h=>by
  obtain⟨h1,h2⟩:=jh7.1 h;have ih:=jeh r h2
  have e:dval (c::r)=(c-48)*tenZ r.length+dval r:=by
   have:=jf2 [c] r;simpa[dval,numZ]using this
  have hp:=tenZ_pos r.length;rw[e,List.length_cons,tenZ_succ];have h3:(c-48)*tenZ r.length≤9*tenZ r.length:=Int.mul_le_mul_of_nonneg_right (by omega) (by omega);have h4:0≤(c-48)*tenZ r.length:=Int.mul_nonneg (by omega) (by omega);omega
theorem dval_head{c:Int}{r:F}(h:dgL (c::r)=true)(hc:c≠48):tenZ r.length≤dval (c::r):=by
 obtain⟨h1,h2⟩:=jh7.1 h;have ih:=jeh r h2
 have e:dval (c::r)=(c-48)*tenZ r.length+dval r:=by
  have:=jf2 [c] r;simpa[dval,numZ]using this
 have hp:=tenZ_pos r.length;have h3:1*tenZ r.length≤(c-48)*tenZ r.length:=Int.mul_le_mul_of_nonneg_right (by omega) (by omega);rw[e];omega
theorem digZ_val':∀(n:Nat)(l:F),l.length=n→dgL l=true→digZ (dval l) n=l
 | 0,l,hl,_=>by rw[List.length_eq_zero_iff.1 hl];rfl
 | n+1,l,hl,h=>by
  rcases List.eq_nil_or_concat l with rfl | ⟨a,c,rfl⟩
  ·cases hl
  ·rw[List.concat_eq_append]at h hl ⊢;obtain⟨h1,h2⟩:=dgL_app.1 h;have h2:=(jh7.1 h2).1;rw[digZ,dval_snoc];have e1:(dval a*10+(c-48))/10=dval a:=by omega
   have e2:48+(dval a*10+(c-48))%10=c:=by omega
   rw[e1,e2,digZ_val' n a (by simpa using hl) h1]
theorem digZ_mod:∀(d:Nat)(v:Int),0≤v→digZ (v%tenZ d) d=digZ v d
 | 0,_,_=>rfl
 | d+1,v,h=>by
  obtain⟨n,rfl⟩:∃n:Nat,v=n:=⟨v.toNat,by omega⟩
  have et:tenZ (d+1)=((10*10^d:Nat):Int):=by
   unfold tenZ;rw[Nat.mul_comm,←Nat.pow_succ];simp
  have ed:tenZ d=((10^d:Nat):Int):=by unfold tenZ;simp
  have e1:((n:Int)%tenZ (d+1))/10=((n:Int)/10)%tenZ d:=by
   rw[et,ed];have:=Nat.mod_mul_right_div_self n 10 (10^d)
   exact_mod_cast this
  have e2:((n:Int)%tenZ (d+1))%10=(n:Int)%10:=by
   rw[et];have:=Nat.mod_mul_right_mod n 10 (10^d)
   exact_mod_cast this
  rw[digZ,digZ,e1,e2,digZ_mod d _ (by omega)]
theorem jfg:∀l:F,dval (l.dropWhile (· ==48))=dval l
 | []=>rfl
 | c::r=>by
  rw[List.dropWhile_cons];cases h:c==48 with
  | false=>simp
  | true=>
   rw[if_pos rfl,jfg r];have:=jf2 [c] r;rw[eq_of_beq h]at this ⊢;simp[dval,numZ]
theorem dgL_strip{l:F}(h:dgL l=true):dgL (l.dropWhile (· ==48))=true:=by
 simp only[dgL,List.all_eq_true]at h ⊢;exact fun c hc=>h c ((List.dropWhile_sublist _).subset hc)
theorem strip_head:∀l:F,l.dropWhile (· ==48)=[]∨ ∃c r,l.dropWhile (· ==48)=c::r∧c≠48
 | []=> .inl rfl
 | c::r=>by
  rw[List.dropWhile_cons];cases h:c==48 with
  | true=>rw[if_pos rfl];exact strip_head r
  | false=>exact .inr ⟨c,r,by simp,by simpa using h⟩
theorem tenZ_mono{a b:Nat}(h:a≤b):tenZ a≤tenZ b:=by
 unfold tenZ;have:(10:Nat) ^a≤10^b:=Nat.pow_le_pow_right (by decide) h
 exact_mod_cast this
theorem strip_len{l:F}(h:dgL l=true)(d:Nat):(l.dropWhile (· ==48)).length≤d↔dval l<tenZ d:=by
 have hs:=dgL_strip h;have r:=jeh _ hs;rw[jfg]at r;constructor
 ·intro hl;have:=tenZ_mono hl;omega
 ·intro hv;rcases strip_head l with e | ⟨c,t,e,hc⟩
  ·rw[e];exact Nat.zero_le _
  ·have:=dval_head (e▸hs) hc;rw[←e,jfg]at this;rw[e,List.length_cons];have hlt:¬d≤t.length:=fun q=>by have:=tenZ_mono q;omega
   omega
theorem strip_nil{l:F}(h:dgL l=true):l.dropWhile (· ==48)=[]↔dval l=0:=by
 have r:=strip_len h 0;have hv:=(jeh l h).1;have e:tenZ 0=1:=rfl;rw[e,Nat.le_zero,List.length_eq_zero_iff]at r;rw[r];omega
theorem dval_dig:∀(d:Nat)(v:Int),0≤v→dval (digZ v d)=v%tenZ d
 | 0,v,_=>by simp[digZ,dval,numZ,tenZ]
 | d+1,v,h=>by
  have e:=digZ_mod (d+1) v h;have r:=jeh (digZ v (d+1)) (jfh _ _);rw[digZ,dval_snoc,dval_dig d _ (by omega)];obtain⟨n,rfl⟩:∃n:Nat,v=n:=⟨v.toNat,by omega⟩
  have et:tenZ (d+1)=((10*10^d:Nat):Int):=by
   unfold tenZ;rw[Nat.mul_comm,←Nat.pow_succ];simp
  have ed:tenZ d=((10^d:Nat):Int):=by unfold tenZ;simp
  have e1:((n:Int)%tenZ (d+1))/10=((n:Int)/10)%tenZ d:=by
   rw[et,ed];have:=Nat.mod_mul_right_div_self n 10 (10^d)
   exact_mod_cast this
  have e2:((n:Int)%tenZ (d+1))%10=(n:Int)%10:=by
   rw[et];have:=Nat.mod_mul_right_mod n 10 (10^d)
   exact_mod_cast this
  omega
end Go.Px
end
noncomputable section
namespace Go.Px
open Go Go.Ab Go.Proofs Go.Shelf
def fmL(s:Y)(nb:Bool)(w d sc:Int)(sg:Bool)(x k cap:Nat)(dr f:Int)(cr:Bool)(fl fm:Int):E:=
 [.string s,.bool nb,.int .i64 w,.int .i64 d,.int .i64 sc,.bool sg,.slice (some ⟨x,0,some 1⟩) k cap,.int .u8 dr,.int .i64 f,.bool cr,.int .u8 fl,.int .i64 fm]
def vwF2(c d:E):Lk:=fun j=>match Nat.beq j 0 with | true=>some ⟨c,119,false⟩ | false=>match Nat.beq j 1 with | true=>some ⟨d,197,false⟩ | false=>none
def rho2(a x:Nat):Nat→Nat:=fun j=>match j with | 0=>a | _=>x
theorem sub_F2{m:Lk}{a x k cap:Nat}{s:Y}{nb:Bool}{w d sc:Int}{sg:Bool}{dr f:Int}{cr:Bool}{fl fm:Int}{own own2:Bool}{r:E}(hr:jay r=true)
  (ha:m a=some ⟨fmL s nb w d sc sg x k cap dr f cr fl fm,119,own⟩) (hx:m x=some ⟨r,197,own2⟩):
  SubM m (rho2 a x) (vwF2 (fmL s nb w d sc sg 1 k cap dr f cr fl fm) r) 2:=by
 have hget:∀j b,vwF2 (fmL s nb w d sc sg 1 k cap dr f cr fl fm) r j=some b→(j=0∧b=⟨fmL s nb w d sc sg 1 k cap dr f cr fl fm,119,false⟩)∨(j=1∧b=⟨r,197,false⟩):=fun j b h=>by
  simp only[vwF2]at h;split at h
  ·rename_i h0;cases h;exact .inl ⟨jah h0,rfl⟩
  ·split at h
   ·rename_i h0;cases h;exact .inr ⟨jah h0,rfl⟩
   ·cases h
 refine⟨fun j b h=> ?_,fun j b h=> ?_⟩
 ·rcases hget j b h with⟨rfl,rfl⟩ | ⟨rfl,rfl⟩
  ·refine⟨by omega,fun i hi=> ?_⟩;have:i=1:=by simpa[fmL,idsL,ids]using hi
   omega
  ·exact⟨by omega,fun i hi=>by rw[jal hr]at hi;cases hi⟩
 ·rcases hget j b h with⟨rfl,rfl⟩ | ⟨rfl,rfl⟩
  ·refine⟨rfl,⟨fmL s nb w d sc sg x k cap dr f cr fl fm,119,own⟩,?_,fun ι=> ?_⟩
   ·show noIt (m a)=_;rw[ha];simp only[noIt];have:(own&&Nat.beq 119 itTy)=false:=by cases own<;>rfl
    rw[this]
   ·simp[fmL,ren,ren1,rho2]
  ·refine⟨rfl,⟨r,197,own2⟩,?_,fun ι=>renMap_congr fun k hk=>by rw[jal hr]at hk;cases hk⟩;show noIt (m x)=_;rw[hx];simp only[noIt];have:(own2&&Nat.beq 197 itTy)=false:=by cases own2<;>rfl
   rw[this]
theorem all48{l:F}(h:dgL l=true):(∀c∈l,hasZ [48] c=true)↔dval l=0:=by
 rw[←strip_nil h,jgu];constructor
 ·intro q c hc;have:=q c hc;rw[jba]at this;simpa using this
 ·intro q c hc;rw[jba];simpa using q c hc
theorem toList_nil(s:Y):(s.toList==ByteArray.toList (ByteArray.mk #[]))=(bz s).isEmpty:=by
 rw[jd9];have:bz ⟨#[]⟩=[]:=rfl;rw[this];cases bz s<;>rfl
theorem trim_isB{l cs:F}(h:IsB l):IsB (jcj l cs):=by
 intro c hc;refine h c ?_;unfold jcj at hc;have:=List.dropWhile_sublist _ |>.subset hc
 have:c∈l.reverse.dropWhile (hasZ cs):=by simpa using this
 simpa using List.dropWhile_sublist _ |>.subset this
def cutV(n q sc d:Int)(sg:Bool):Value:= .tuple ⟨[.string (sz (digZ ((cuN n q sc d sg).natAbs:Int) d.toNat)),.bool (decide (cuN n q sc d sg<0)),.bool (cuF n q sc d sg)]⟩
def i64B(n:Int):Bool:=decide (-9223372036854775808≤n∧n≤9223372036854775807)
def h63:E→Lk→Nat→(Value→Lk→Nat→Prop)→Prop:=fun args m n K=>match args with
 | [.pointer (some ⟨a,0,some 0⟩),.int .i64 x,.int .i64 q]=>match m a with
  | some ⟨[.string s,.bool nb,.int .i64 w,.int .i64 d,.int .i64 sc,.bool sg,.slice (some ⟨y,0,some 1⟩) k cap,.int .u8 dr,.int .i64 f,.bool cr,.int .u8 fl,.int .i64 fm],119,own⟩=>
   match cnd (i64B x&& (decide (0≤q∧q≤9) && (decide (0≤sc∧sc≤9) &&decide (0≤d∧d≤9))))with
   | true=>K (cutV x q sc d sg) m n
   | false=>False
  | _=>False
 | _=>False
def G32:Env:=Env.nil.add 67 (sp2 s89)
theorem ok_G32:jap Tryz.prog G32:=jak ja5 ok89
def enOn:F→Bool
 | []=>false
 | r::rs=>bif r==0 || r==1 then r==1 else enOn rs
def enGo(ze:Bool)(fm:Int):F→F→Int→Int
 | [],_,_=> -1
 | r::rs,ds,at_=>bif r==0 then at_ else bif r==1 then(bif ds.headD 0 !=48 then at_ else enGo ze fm rs ds.tail (at_+1))
  else bif r==2 then(bif decide (fm>0) || !ze then at_ else enGo ze fm rs ds at_)else enGo ze fm rs ds (at_+1)
def cn1:F→Int
 | []=>0
 | r::rs=>(bif r==1 then 1 else 0)+cn1 rs
theorem jjs:∀l,0≤cn1 l
 | []=>by simp[cn1]
 | r::rs=>by have:=jjs rs;rw[cn1];cases r==1<;>simp<;>omega
def V90_0:Int×Int×Int×Bool×Bool×Nat×Nat×Int×Int×Y×Bool×Int×Int×Int×Bool×Nat×Nat×Int×Int×Bool×Int×Int×Y×Bool×Int×Int×Int×E→E:=fun(r2,r3,r4,ze,on,k2,cap2,L,i,s,nb,w,dg,sc,sg,k,cap,dr,f,cr,fl,fm,nu,mi,us,at0,ld,d)=> [.pointer (some ⟨0,0,some 0⟩),I r2,I r3,I r4,B ze,B on,.slice (some ⟨2,0,some 1⟩) k2 cap2,I L,I i]
def B90_0:Int×Int×Int×Bool×Bool×Nat×Nat×Int×Int×Y×Bool×Int×Int×Int×Bool×Nat×Nat×Int×Int×Bool×Int×Int×Y×Bool×Int×Int×Int×E→J:=fun(r2,r3,r4,ze,on,k2,cap2,L,i,s,nb,w,dg,sc,sg,k,cap,dr,f,cr,fl,fm,nu,mi,us,at0,ld,d)=> [some ⟨[.pointer (some ⟨1,0,some 0⟩),.string nu,.bool mi,.int .i64 us,.int .i64 at0,.int .i64 ld],203,false⟩,some ⟨[.string s,.bool nb,.int .i64 w,.int .i64 dg,.int .i64 sc,.bool sg,.slice (some ⟨2,0,some 1⟩) k cap,.int .u8 dr,.int .i64 f,.bool cr,.int .u8 fl,.int .i64 fm],119,false⟩,some ⟨d,197,false⟩]
def S90_0:LSpecA (Int×Int×Int×Bool×Bool×Nat×Nat×Int×Int×Y×Bool×Int×Int×Int×Bool×Nat×Nat×Int×Int×Bool×Int×Int×Y×Bool×Int×Int×Int×E) where
 live:=[0,2,3,4,5,6,23,24,25]
 mid:=[0,1,2]
 n:=100
 ap:=[]
 dec vs bs:=match vs,bs with | [.pointer (some ⟨0,0,some 0⟩),.int .i64 r2,.int .i64 r3,.int .i64 r4,.bool ze,.bool on,.slice (some ⟨2,0,some 1⟩) k2 cap2,.int .i64 L,.int .i64 i],[some ⟨[.pointer (some ⟨1,0,some 0⟩),.string nu,.bool mi,.int .i64 us,.int .i64 at0,.int .i64 ld],203,false⟩,some ⟨[.string s,.bool nb,.int .i64 w,.int .i64 dg,.int .i64 sc,.bool sg,.slice (some ⟨2,0,some 1⟩) k cap,.int .u8 dr,.int .i64 f,.bool cr,.int .u8 fl,.int .i64 fm],119,false⟩,some ⟨d,197,false⟩]=>some (r2,r3,r4,ze,on,k2,cap2,L,i,s,nb,w,dg,sc,sg,k,cap,dr,f,cr,fl,fm,nu,mi,us,at0,ld,d) | _,_=>none
 pre:=fun(r2,r3,r4,ze,on,k2,cap2,L,i,s,nb,w,dg,sc,sg,k,cap,dr,f,cr,fl,fm,nu,mi,us,at0,ld,d)=>jbm d k2 cap2&&decide (0≤i∧i≤k2∧k2≤1000∧L=k2∧on=false)
 fin:=fun(r2,r3,r4,ze,on,k2,cap2,L,i,s,nb,w,dg,sc,sg,k,cap,dr,f,cr,fl,fm,nu,mi,us,at0,ld,d) Z=>∀i',Z (.exit 0) [.pointer (some ⟨0,0,some 0⟩),I r2,I r3,I r4,B ze,B (enOn ((zc d k2).drop i.toNat)),.slice (some ⟨2,0,some 1⟩) k2 cap2,I L,I i'] [some ⟨[.pointer (some ⟨1,0,some 0⟩),.string nu,.bool mi,.int .i64 us,.int .i64 at0,.int .i64 ld],203,false⟩,some ⟨[.string s,.bool nb,.int .i64 w,.int .i64 dg,.int .i64 sc,.bool sg,.slice (some ⟨2,0,some 1⟩) k cap,.int .u8 dr,.int .i64 f,.bool cr,.int .u8 fl,.int .i64 fm],119,false⟩,some ⟨d,197,false⟩]
def b8(a:List (Prod Nat Nat))(b:E):Option Blk:=some (.mk (rlbL a b) 197 false)
def e7(b f l:Bool)(a:Y)(c d e j k m n:Int)(g h i:Nat):Option Blk:=some (.mk [.string a,.bool b,ak c,ak d,ak e,.bool f,bk g h i,am j,ak k,.bool l,am m,ak n] 119 false)
def ie(c:Bool)(b:Y)(d e f:Int)(a:Nat):E:=[aw a,.string b,.bool c,ak d,ak e,ak f]
def gx(a:Bool)(b:Y)(c d e:Int):Option Blk:=av false (ie a b c d e 1) 203
theorem r90_0(r2:Int)(r3:Int)(r4:Int)(ze:Bool)(on:Bool)(k2:Nat)(cap2:Nat)(L:Int)(i:Int)(s:Y)(nb:Bool)(w:Int)(dg:Int)(sc:Int)(sg:Bool)(k:Nat)(cap:Nat)(dr:Int)(f:Int)(cr:Bool)(fl:Int)(fm:Int)(nu:Y)(mi:Bool)(us:Int)(at0:Int)(ld:Int)(d:E)(jk:Tmps)(R:Exit→E→J→Prop):(jb3 Tryz.prog G32 noL Tryz.f157.ntmps (jbk Tryz.f157 0) (tl S90_0.live (V90_0 (r2,r3,r4,ze,on,k2,cap2,L,i,s,nb,w,dg,sc,sg,k,cap,dr,f,cr,fl,fm,nu,mi,us,at0,ld,d)) jk) (ml S90_0.mid (B90_0 (r2,r3,r4,ze,on,k2,cap2,L,i,s,nb,w,dg,sc,sg,k,cap,dr,f,cr,fl,fm,nu,mi,us,at0,ld,d))) S90_0.n fun e t' m' _=>S90_0.out R e t' m')=(du (a7 i 0 d || true) R i L .i64 [e7 nb sg cr s w dg sc dr f fl fm 2 k cap,b8 [] d] [] d (aw 0::ak r2::ak r3::ak r4::B ze::B on::bq L i 2 k2 cap2) k2 0 (gx mi nu us at0 ld) (bif a7 i 0 d || a7 i 1 d then bif ay [] d then R (.exit 0) (aw 0::ak r2::ak r3::ak r4::B ze::B (a7 i 1 d)::bq L i 2 k2 cap2) [gx mi nu us at0 ld,e7 nb sg cr s w dg sc dr f fl fm 2 k cap,b8 [] d]else False else a0 (ay [] d) R [gx mi nu us at0 ld,e7 nb sg cr s w dg sc dr f fl fm 2 k cap,b8 [] d] (aw 0::ak r2::ak r3::ak r4::B ze::ct on L i 2 k2 cap2)) False):=by kernel_rfl
theorem l90_0:∀t m n K,S90_0.hA t m n K→Ab.Sem Tryz.prog Tryz.f157.ntmps (.loop (jbk Tryz.f157 0)) t m n K:=by
 refine jbo ok_G32 hmix (by kernel_rfl) (jbi _) S90_0 V90_0 B90_0 (fun(r2,r3,r4,ze,on,k2,cap2,L,i,s,nb,w,dg,sc,sg,k,cap,dr,f,cr,fl,fm,nu,mi,us,at0,ld,d)=>(k2-i).toNat) ?_ ?_ ?_
 ·intro vs bs s h;simp only[S90_0]at h;split at h
  all_goals first | (cases h;exact⟨rfl,rfl⟩) | cases h | (split at h<;>first | (rename_i hq;cases h;have hq:=jah hq;subst hq;exact⟨rfl,rfl⟩) | cases h)
 ·exact fun⟨r2,r3,r4,ze,on,k2,cap2,L,i,s,nb,w,dg,sc,sg,k,cap,dr,f,cr,fl,fm,nu,mi,us,at0,ld,d⟩ hp=>by
   simp only[S90_0,jaf]at hp;have hr:=jar.1 hp.1;simp[V90_0,B90_0,S90_0,jax,jbs,idsL,ids,jal hr.plain]
 ·intro⟨r2,r3,r4,ze,on,k2,cap2,L,i,s,nb,w,dg,sc,sg,k,cap,dr,f,cr,fl,fm,nu,mi,us,at0,ld,d⟩ jk Z hp hf;rw[r90_0];delta ay bx dv dq au du a0 ar bp ak bv bk bt ct aw b8 am e7 av ie gx bq ax a7;simp only[S90_0]at hp hf;simp only[jaf,jae]at hp;obtain⟨hR,hp⟩:=hp;have hr:=jar.1 hR;have hzl:=ja7 hr;have e0:0+i.toNat*1=i.toNat:=by omega
  rw[e0];simp only[hr.rlb];have hg:(jat [] d&&true&&true)=true:=by rw[hr.good];rfl
  apply cond_intro<;>intro h
  ·have h:=jab h;obtain⟨a1,a3⟩:=hr.at hp.1 (by omega);rw[a3,enOn]at hf;rw[a1,w64 (n:=i+1) (by omega)];generalize jan d i.toNat=c at*;refine c_t (jaa (by omega)) (c_t rfl (c_t (by simp) (cond_intro (fun z=>c_t hg ?_) (fun z=>c_t hg ?_))))
   ·rw[z,cond_true]at hf;exact hf i
   ·rw[z,cond_false]at hf;exact⟨(r2,r3,r4,ze,on,k2,cap2,L,i+1,s,nb,w,dg,sc,sg,k,cap,dr,f,cr,fl,fm,nu,mi,us,at0,ld,d),rfl,rfl,by simp only[S90_0,jaf,jae];exact⟨hR,by omega,by omega,by omega,by omega,hp.2.2.2.2⟩,by simp only;omega,hf⟩
  ·have h:=jac h;rw[hr.end (by omega),enOn]at hf;rw[hp.2.2.2.2];exact c_t hg (hf i)
def V90_2:Int×Int×Int×Bool×Nat×Nat×Int×Int×Y×Bool×Int×Int×Int×Bool×Nat×Nat×Int×Int×Bool×Int×Int×Y×Bool×Int×Int×Int×E→E:=fun(r2,aa,kk,ze,k2,cap2,L,i,s,nb,w,dg,sc,sg,k,cap,dr,f,cr,fl,fm,nu,mi,us,at0,ld,d)=> [.pointer (some ⟨0,0,some 0⟩),I r2,I aa,I kk,B ze,.slice (some ⟨2,0,some 1⟩) k2 cap2,I L,I i]
def B90_2:Int×Int×Int×Bool×Nat×Nat×Int×Int×Y×Bool×Int×Int×Int×Bool×Nat×Nat×Int×Int×Bool×Int×Int×Y×Bool×Int×Int×Int×E→J:=fun(r2,aa,kk,ze,k2,cap2,L,i,s,nb,w,dg,sc,sg,k,cap,dr,f,cr,fl,fm,nu,mi,us,at0,ld,d)=> [some ⟨[.pointer (some ⟨1,0,some 0⟩),.string nu,.bool mi,.int .i64 us,.int .i64 at0,.int .i64 ld],203,false⟩,some ⟨[.string s,.bool nb,.int .i64 w,.int .i64 dg,.int .i64 sc,.bool sg,.slice (some ⟨2,0,some 1⟩) k cap,.int .u8 dr,.int .i64 f,.bool cr,.int .u8 fl,.int .i64 fm],119,false⟩,some ⟨d,197,false⟩]
def S90_2:LSpecA (Int×Int×Int×Bool×Nat×Nat×Int×Int×Y×Bool×Int×Int×Int×Bool×Nat×Nat×Int×Int×Bool×Int×Int×Y×Bool×Int×Int×Int×E) where
 live:=[0,2,3,4,5,46,47,48]
 mid:=[0,1,2]
 n:=140
 ap:=[]
 dec vs bs:=match vs,bs with | [.pointer (some ⟨0,0,some 0⟩),.int .i64 r2,.int .i64 aa,.int .i64 kk,.bool ze,.slice (some ⟨2,0,some 1⟩) k2 cap2,.int .i64 L,.int .i64 i],[some ⟨[.pointer (some ⟨1,0,some 0⟩),.string nu,.bool mi,.int .i64 us,.int .i64 at0,.int .i64 ld],203,false⟩,some ⟨[.string s,.bool nb,.int .i64 w,.int .i64 dg,.int .i64 sc,.bool sg,.slice (some ⟨2,0,some 1⟩) k cap,.int .u8 dr,.int .i64 f,.bool cr,.int .u8 fl,.int .i64 fm],119,false⟩,some ⟨d,197,false⟩]=>some (r2,aa,kk,ze,k2,cap2,L,i,s,nb,w,dg,sc,sg,k,cap,dr,f,cr,fl,fm,nu,mi,us,at0,ld,d) | _,_=>none
 pre:=fun(r2,aa,kk,ze,k2,cap2,L,i,s,nb,w,dg,sc,sg,k,cap,dr,f,cr,fl,fm,nu,mi,us,at0,ld,d)=>jbm d k2 cap2&&decide (0≤i∧i≤k2∧k2≤1000∧L=k2∧0≤kk∧kk≤i∧0≤aa∧aa≤i∧kk+cn1 ((zc d k2).drop i.toNat)≤nu.size)
 fin:=fun(r2,aa,kk,ze,k2,cap2,L,i,s,nb,w,dg,sc,sg,k,cap,dr,f,cr,fl,fm,nu,mi,us,at0,ld,d) Z=>(∀a' k' i',enGo ze fm ((zc d k2).drop i.toNat) ((bz nu).drop kk.toNat) aa=a'→0≤a'→Z .ret [.pointer (some ⟨0,0,some 0⟩),I a',I a',I k',B ze,.slice (some ⟨2,0,some 1⟩) k2 cap2,I L,I i'] [some ⟨[.pointer (some ⟨1,0,some 0⟩),.string nu,.bool mi,.int .i64 us,.int .i64 at0,.int .i64 ld],203,false⟩,some ⟨[.string s,.bool nb,.int .i64 w,.int .i64 dg,.int .i64 sc,.bool sg,.slice (some ⟨2,0,some 1⟩) k cap,.int .u8 dr,.int .i64 f,.bool cr,.int .u8 fl,.int .i64 fm],119,false⟩,some ⟨d,197,false⟩])∧(enGo ze fm ((zc d k2).drop i.toNat) ((bz nu).drop kk.toNat) aa= -1→ ∀a' k' i',Z (.exit 2) [.pointer (some ⟨0,0,some 0⟩),I r2,I a',I k',B ze,.slice (some ⟨2,0,some 1⟩) k2 cap2,I L,I i'] [some ⟨[.pointer (some ⟨1,0,some 0⟩),.string nu,.bool mi,.int .i64 us,.int .i64 at0,.int .i64 ld],203,false⟩,some ⟨[.string s,.bool nb,.int .i64 w,.int .i64 dg,.int .i64 sc,.bool sg,.slice (some ⟨2,0,some 1⟩) k cap,.int .u8 dr,.int .i64 f,.bool cr,.int .u8 fl,.int .i64 fm],119,false⟩,some ⟨d,197,false⟩])
def fy(b:Y)(a:Int):Bool:=decide (0≤a∧a<al b)
theorem r90_2(r2:Int)(aa:Int)(kk:Int)(ze:Bool)(k2:Nat)(cap2:Nat)(L:Int)(i:Int)(s:Y)(nb:Bool)(w:Int)(dg:Int)(sc:Int)(sg:Bool)(k:Nat)(cap:Nat)(dr:Int)(f:Int)(cr:Bool)(fl:Int)(fm:Int)(nu:Y)(mi:Bool)(us:Int)(at0:Int)(ld:Int)(d:E)(jk:Tmps)(R:Exit→E→J→Prop):(jb3 Tryz.prog G32 noL Tryz.f157.ntmps (jbk Tryz.f157 2) (tl S90_2.live (V90_2 (r2,aa,kk,ze,k2,cap2,L,i,s,nb,w,dg,sc,sg,k,cap,dr,f,cr,fl,fm,nu,mi,us,at0,ld,d)) jk) (ml S90_2.mid (B90_2 (r2,aa,kk,ze,k2,cap2,L,i,s,nb,w,dg,sc,sg,k,cap,dr,f,cr,fl,fm,nu,mi,us,at0,ld,d))) S90_2.n fun e t' m' _=>S90_2.out R e t' m')=(du (a7 i 0 d) R i L .i64 [e7 nb sg cr s w dg sc dr f fl fm 2 k cap,b8 [] d] [] d (aw 0::ak r2::ak aa::ft ze kk L i 2 k2 cap2) k2 2 (gx mi nu us at0 ld) (bif ay [] d then R .ret (aw 0::ak aa::ak aa::ft ze kk L i 2 k2 cap2) [gx mi nu us at0 ld,e7 nb sg cr s w dg sc dr f fl fm 2 k cap,b8 [] d]else False) (bif a7 i 1 d then bif fy nu kk then fv (jau nu kk.toNat !=48) R [e7 nb sg cr s w dg sc dr f fl fm 2 k cap,b8 [] d] [] d (ak aa::ft ze kk L i 2 k2 cap2) (bp aa::bp kk::ct ze L i 2 k2 cap2) (gx mi nu us at0 ld) (aw 0) (ak aa) (aw 0) (ak r2)else False else bif a7 i 2 d then bif aq fm 0 || true then fv (aq fm 0 || !ze) R [e7 nb sg cr s w dg sc dr f fl fm 2 k cap,b8 [] d] [] d (ak aa::ft ze kk L i 2 k2 cap2) (ak aa::ak kk::ct ze L i 2 k2 cap2) (gx mi nu us at0 ld) (aw 0) (ak aa) (aw 0) (ak r2)else False else a0 (ay [] d) R [gx mi nu us at0 ld,e7 nb sg cr s w dg sc dr f fl fm 2 k cap,b8 [] d] (aw 0::ak r2::bp aa::ak kk::ct ze L i 2 k2 cap2))):=by kernel_rfl
theorem l90_2:∀t m n K,S90_2.hA t m n K→Ab.Sem Tryz.prog Tryz.f157.ntmps (.loop (jbk Tryz.f157 2)) t m n K:=by
 refine jbo ok_G32 hmix (by kernel_rfl) (jbi _) S90_2 V90_2 B90_2 (fun(r2,aa,kk,ze,k2,cap2,L,i,s,nb,w,dg,sc,sg,k,cap,dr,f,cr,fl,fm,nu,mi,us,at0,ld,d)=>(k2-i).toNat) ?_ ?_ ?_
 ·intro vs bs s h;simp only[S90_2]at h;split at h
  all_goals first | (cases h;exact⟨rfl,rfl⟩) | cases h | (split at h<;>first | (rename_i hq;cases h;have hq:=jah hq;subst hq;exact⟨rfl,rfl⟩) | cases h)
 ·exact fun⟨r2,aa,kk,ze,k2,cap2,L,i,s,nb,w,dg,sc,sg,k,cap,dr,f,cr,fl,fm,nu,mi,us,at0,ld,d⟩ hp=>by
   simp only[S90_2,jaf]at hp;have hr:=jar.1 hp.1;simp[V90_2,B90_2,S90_2,jax,jbs,idsL,ids,jal hr.plain]
 ·intro⟨r2,aa,kk,ze,k2,cap2,L,i,s,nb,w,dg,sc,sg,k,cap,dr,f,cr,fl,fm,nu,mi,us,at0,ld,d⟩ jk Z hp hf;rw[r90_2];delta ay bx dv dq au du a0 ar bp ak bv bk bt ct aw b8 am e7 av ie gx fv bq ft aq ax a7 al fy;simp only[S90_2]at hp hf;simp only[jaf,jae]at hp;obtain⟨hR,hp⟩:=hp;have hr:=jar.1 hR;have hzl:=ja7 hr;have e0:0+i.toNat*1=i.toNat:=by omega
  rw[e0];simp only[hr.rlb];have hg:(jat [] d&&true&&true)=true:=by rw[hr.good];rfl
  apply cond_intro<;>intro h
  ·have h:=jab h;obtain⟨a1,a3⟩:=hr.at hp.1 (by omega);rw[a3]at hp hf;rw[enGo]at hf;rw[cn1]at hp;rw[a1,w64 (n:=i+1) (by omega)];have hc:=jjs ((zc d k2).drop (i+1).toNat);generalize jan d i.toNat=c at*;refine c_t (jaa (by omega)) (c_t rfl (cond_intro (fun z=>c_t hg ?_) (fun z=> ?_)))
   ·rw[z,cond_true]at hf;exact hf.1 aa kk i rfl (by omega)
   ·rw[z,cond_false]at hf;apply cond_intro<;>intro z
    ·rw[z,cond_true]at hf hp;obtain⟨hp1,hp2,hp3,hp4,hp5,hp6,hp7,hp8⟩:=hp;rw[jen hp5 (by omega),List.headD_cons,List.tail_cons]at hf;refine c_t (jaa (by omega)) (cond_intro (fun z=>c_t hg ?_) (fun z=>c_t hg ?_))
     ·rw[z,cond_true]at hf;exact hf.1 aa kk i rfl (by omega)
     ·rw[z,cond_false]at hf;rw[w64 (n:=aa+1) (by omega),w64 (n:=kk+1) (by omega)];exact⟨(r2,aa+1,kk+1,ze,k2,cap2,L,i+1,s,nb,w,dg,sc,sg,k,cap,dr,f,cr,fl,fm,nu,mi,us,at0,ld,d),rfl,rfl,by simp only[S90_2,jaf,jae];exact⟨hR,by omega⟩,by simp only;omega,hf⟩
    ·rw[z,cond_false]at hf hp;refine cond_intro (fun z=>c_t (by simp) (cond_intro (fun z2=>c_t hg ?_) (fun z2=>c_t hg ?_))) (fun z=>c_t hg ?_)
     ·rw[z,cond_true,z2,cond_true]at hf;exact hf.1 aa kk i rfl (by omega)
     ·rw[z,cond_true,z2,cond_false]at hf;exact⟨(r2,aa,kk,ze,k2,cap2,L,i+1,s,nb,w,dg,sc,sg,k,cap,dr,f,cr,fl,fm,nu,mi,us,at0,ld,d),rfl,rfl,by simp only[S90_2,jaf,jae];exact⟨hR,by omega⟩,by simp only;omega,hf⟩
     ·rw[z,cond_false]at hf;rw[w64 (n:=aa+1) (by omega)];exact⟨(r2,aa+1,kk,ze,k2,cap2,L,i+1,s,nb,w,dg,sc,sg,k,cap,dr,f,cr,fl,fm,nu,mi,us,at0,ld,d),rfl,rfl,by simp only[S90_2,jaf,jae];exact⟨hR,by omega⟩,by simp only;omega,hf⟩
  ·have h:=jac h;rw[hr.end (by omega),enGo]at hf;exact c_t hg (hf.2 rfl aa kk i)
def pnL(x:Nat)(nu:Y)(mi:Bool)(us at0 ld:Int):E:=[.pointer (some ⟨x,0,some 0⟩),.string nu,.bool mi,.int .i64 us,.int .i64 at0,.int .i64 ld]
def vwF3(p c d:E):Lk:=fun j=>match Nat.beq j 0 with | true=>some ⟨p,203,false⟩ | false=>match Nat.beq j 1 with | true=>some ⟨c,119,false⟩ | false=>match Nat.beq j 2 with | true=>some ⟨d,197,false⟩ | false=>none
def rho3(a x y:Nat):Nat→Nat:=fun j=>match j with | 0=>a | 1=>x | _=>y
theorem sub_F3{m:Lk}{a x y k cap:Nat}{nu:Y}{mi:Bool}{us at0 ld:Int}{s:Y}{nb:Bool}{w d sc:Int}{sg:Bool}{dr f:Int}{cr:Bool}{fl fm:Int}{own own2 own3:Bool}{r:E}(hr:jay r=true)
  (hp:m a=some ⟨pnL x nu mi us at0 ld,203,own⟩) (ha:m x=some ⟨fmL s nb w d sc sg y k cap dr f cr fl fm,119,own2⟩) (hx:m y=some ⟨r,197,own3⟩):
  SubM m (rho3 a x y) (vwF3 (pnL 1 nu mi us at0 ld) (fmL s nb w d sc sg 2 k cap dr f cr fl fm) r) 3:=by
 have hget:∀j b,vwF3 (pnL 1 nu mi us at0 ld) (fmL s nb w d sc sg 2 k cap dr f cr fl fm) r j=some b→(j=0∧b=⟨pnL 1 nu mi us at0 ld,203,false⟩)∨(j=1∧b=⟨fmL s nb w d sc sg 2 k cap dr f cr fl fm,119,false⟩)∨(j=2∧b=⟨r,197,false⟩):=fun j b h=>by
  simp only[vwF3]at h;split at h
  ·rename_i h0;cases h;exact .inl ⟨jah h0,rfl⟩
  ·split at h
   ·rename_i h0;cases h;exact .inr (.inl ⟨jah h0,rfl⟩)
   ·split at h
    ·rename_i h0;cases h;exact .inr (.inr ⟨jah h0,rfl⟩)
    ·cases h
 refine⟨fun j b h=> ?_,fun j b h=> ?_⟩
 ·rcases hget j b h with⟨rfl,rfl⟩ | ⟨rfl,rfl⟩ | ⟨rfl,rfl⟩
  ·refine⟨by omega,fun i hi=> ?_⟩;have:i=1:=by simpa[pnL,idsL,ids]using hi
   omega
  ·refine⟨by omega,fun i hi=> ?_⟩;have:i=2:=by simpa[fmL,idsL,ids]using hi
   omega
  ·exact⟨by omega,fun i hi=>by rw[jal hr]at hi;cases hi⟩
 ·rcases hget j b h with⟨rfl,rfl⟩ | ⟨rfl,rfl⟩ | ⟨rfl,rfl⟩
  ·refine⟨rfl,⟨pnL x nu mi us at0 ld,203,own⟩,?_,fun ι=> ?_⟩
   ·show noIt (m a)=_;rw[hp];simp only[noIt];have:(own&&Nat.beq 203 itTy)=false:=by cases own<;>rfl
    rw[this]
   ·simp[pnL,ren,ren1,rho3]
  ·refine⟨rfl,⟨fmL s nb w d sc sg y k cap dr f cr fl fm,119,own2⟩,?_,fun ι=> ?_⟩
   ·show noIt (m x)=_;rw[ha];simp only[noIt];have:(own2&&Nat.beq 119 itTy)=false:=by cases own2<;>rfl
    rw[this]
   ·simp[fmL,ren,ren1,rho3]
  ·refine⟨rfl,⟨r,197,own3⟩,?_,fun ι=>renMap_congr fun k hk=>by rw[jal hr]at hk;cases hk⟩;show noIt (m y)=_;rw[hx];simp only[noIt];have:(own3&&Nat.beq 197 itTy)=false:=by cases own3<;>rfl
   rw[this]
theorem fn90:Fn1 Tryz.prog 157 Tryz.f157:= .m Tryz.func157
theorem lok90:LOKf Tryz.prog (twoL 0 S90_0.hA 2 S90_2.hA) Tryz.f157:=jht (by kernel_rfl) (by kernel_rfl) l90_0 l90_2
def enV(nu:F)(fm:Int)(ro:F):Int:=bif enOn ro then enGo (jcj nu [48]).isEmpty fm ro nu 0 else 0
theorem v90(s:Y)(nb:Bool)(w:Int)(dg:Int)(sc:Int)(sg:Bool)(k:Nat)(cap:Nat)(dr:Int)(f:Int)(cr:Bool)(fl:Int)(fm:Int)(nu:Y)(mi:Bool)(us:Int)(at0:Int)(ld:Int)(d:E)(R:Value→Prop):(jbu Tryz.prog G32 (twoL 0 S90_0.hA 2 S90_2.hA) Tryz.f157 [.pointer (some ⟨0,0,some 0⟩)] (vwF3 (pnL 1 nu mi us at0 ld) (fmL s nb w dg sc sg 2 k cap dr f cr fl fm) d) 3 (fun v _ _=>R v))=(cu (ez nu) (ez ⟨#[48]⟩ &&asc (bz ⟨#[48]⟩)) (ay [] d&&b4 (rlbL [] d) 100) (bif S90_0.toLSpec.pre ((0:Int),((0:Int),((0:Int),(gv nu [] 48,(false,(k,(cap,(natO k,((0:Int),(s,(nb,(w,(dg,(sc,(sg,(k,(cap,(dr,(f,(cr,(fl,(fm,(nu,(mi,(us,(at0,(ld,rlbL [] d)))))))))))))))))))))))))))then Int→gq (rlbL [] d) 100 (bif !enOn (c9 (rlbL [] d) k)then R (ak 0)else bif ay [] (rlbL [] d) &&b4 (fq d) 140 then bif S90_2.toLSpec.pre ((0:Int),((0:Int),((0:Int),(gv nu [] 48,(k,(cap,(natO k,((0:Int),(s,(nb,(w,(dg,(sc,(sg,(k,(cap,(dr,(f,(cr,(fl,(fm,(nu,(mi,(us,(at0,(ld,fq d))))))))))))))))))))))))))then(∀a:Int,Int→Int→enGo (gv nu [] 48) fm (c9 (fq d) k) (d8 nu) 0=a→0≤a→ek (fq d) 140 (R (ak a)))∧(enGo (gv nu [] 48) fm (c9 (fq d) k) (d8 nu) 0= -(1:Int)→Int→Int→Int→ek (fq d) 140 (R (I (-1))))else False else False)else False) False):=by kernel_rfl
theorem w90(s:Y)(nb:Bool)(w:Int)(dg:Int)(sc:Int)(sg:Bool)(k:Nat)(cap:Nat)(dr:Int)(f:Int)(cr:Bool)(fl:Int)(fm:Int)(nu:Y)(mi:Bool)(us:Int)(at0:Int)(ld:Int)(d:E)(hR:jbm d k cap=true)(hk:k≤1000)(hn:nu.size≤1000)(hc:cn1 (zc d k)≤nu.size){R:Value→Prop}(hr:R (.int .i64 (enV (bz nu) fm (zc d k)))):
  jdu Tryz.prog G32 (twoL 0 S90_0.hA 2 S90_2.hA) Tryz.f157 [.pointer (some ⟨0,0,some 0⟩)] (vwF3 (pnL 1 nu mi us at0 ld) (fmL s nb w dg sc sg 2 k cap dr f cr fl fm) d) 3 (fun v _ _=>R v):=by
 rw[jdu,v90];delta cu b4 gq ek fq d8 c9 cv az gv ak ay ez;have h:=jar.1 hR;have k1:bz ⟨#[48]⟩=[48]:=rfl
 have e1:(ByteArray.toList (szO (jcj (bz nu) (bz (ByteArray.mk #[48]))))==ByteArray.toList (ByteArray.mk #[]))=(jcj (bz nu) [48]).isEmpty:=by
  rw[jcq,toList_nil,jg5 (trim_isB (jfo nu)),k1]
 have z0:Int.toNat 0=0:=rfl;simp only[h.rlb,e1,z0,List.drop_zero];have hg:∀n,(jat [] d&&true&&true&& (jax n d&&true))=true:=fun n=>by rw[h.good];simp[jax,idsL,jal h.plain]
 have hi:∀n,(jax n d&&true)=true:=fun n=>by simp[jax,idsL,jal h.plain]
 have c1:(decide (ByteArray.size (ByteArray.mk #[48])≤1000) &&asc (bz (ByteArray.mk #[48])))=true:=by kernel_rfl
 have c2:(decide (nu.size≤1000) && (decide (ByteArray.size (ByteArray.mk #[48])≤1000) &&asc (bz (ByteArray.mk #[48]))))=true:=by rw[c1,jaa hn];rfl
 refine c_t c2 (c_t (hg _) (c_t ?_ fun i'=>c_t (hi _) fun _=>cond_intro (fun ho=> ?_) (fun ho=>c_t (hg _) (c_t ?_ ⟨fun a' k' i' ha h0=>c_t (hi _) fun _=> ?_,fun ha a' k' i'=>c_t (hi _) fun _=> ?_⟩))))
 ·simp only[S90_0,jaf,jae,jbx];exact⟨hR,by omega,by omega,by omega,trivial,trivial⟩
 ·rw[Bool.not_eq_true']at ho;rw[enV,ho]at hr;exact hr
 ·simp only[S90_2,jaf,jae,jbx,z0,List.drop_zero];exact⟨hR,by omega,by omega,by omega,trivial,by omega,by omega,by omega,by omega,by omega⟩
 ·rw[Bool.not_eq_false']at ho;rw[enV,ho,cond_true,ha]at hr;exact hr
 ·rw[Bool.not_eq_false']at ho;rw[enV,ho,cond_true,ha]at hr;exact hr
def h90:E→Lk→Nat→(Value→Lk→Nat→Prop)→Prop:=fun args m n K=>match args with
 | [.pointer (some ⟨a,0,some 0⟩)]=>match m a with
  | some ⟨[.pointer (some ⟨x,0,some 0⟩),.string nu,.bool mi,.int .i64 us,.int .i64 at0,.int .i64 ld],203,own⟩=>match m x with
   | some ⟨[.string s,.bool nb,.int .i64 w,.int .i64 dg,.int .i64 sc,.bool sg,.slice (some ⟨y,0,some 1⟩) k cap,.int .u8 dr,.int .i64 f,.bool cr,.int .u8 fl,.int .i64 fm],119,own2⟩=>match m y with
    | some ⟨d,197,own3⟩=>
     match cnd (jbm d k cap&&decide (k≤1000∧nu.size≤1000∧cn1 (zc d k)≤nu.size))with
     | true=>K (.int .i64 (enV (bz nu) fm (zc d k))) m n
     | false=>False
    | _=>False
   | _=>False
  | _=>False
 | _=>False
theorem h90_ok:jdt Tryz.prog 157 h90:=by
 refine jh0 ok_G32 hmix fn90 lok90 fun args m n K h=> ?_
 unfold h90 at h;split at h
 case h_2=>exact h.elim
 rename_i a;split at h
 case h_2=>exact h.elim
 rename_i x nu mi us at0 ld own hm;split at h
 case h_2=>exact h.elim
 rename_i s nb w dg sc sg y k cap dr f cr fl fm own2 hx;split at h
 case h_2=>exact h.elim
 rename_i d own3 hy;split at h
 case h_2=>exact h.elim
 rename_i hc;simp only[cnd,jaf,jae]at hc;obtain⟨h1,h2,h3,h4⟩:=hc;refine⟨[.pointer (some ⟨0,0,some 0⟩)],_,3,rho3 a x y,.int .i64 (enV (bz nu) fm (zc d k)),sub_F3 (jar.1 h1).plain hm hx hy,fun ι=>by simp[ren,ren1,rho3],jag,fun v hv j hj=> ?_,rfl,w90 s nb w dg sc sg k cap dr f cr fl fm nu mi us at0 ld d h1 h2 h3 h4 (R:=fun v=>v= .int .i64 (enV (bz nu) fm (zc d k))) rfl,h⟩;simp at hv;subst hv;have:j=0:=by simpa[ids]using hj
 omega
end Go.Px
end
noncomputable section
set_option maxHeartbeats 3200000
namespace Go.Px
open Go Go.Ab Go.Proofs Go.Shelf
def G33:Env:=Env.nil
def G34:Env:=(Env.nil.add 199 (sp2 s26)).addG 198 (inlQ Tryz.prog G33 noL Tryz.f198)
def G35:Env:=((((((Env.nil.add 72 (sp2 s78)).addG 157 h90).addG 158 (inlQ Tryz.prog G34 noL Tryz.f158)).addG 159 (inlQ Tryz.prog G34 noL Tryz.f159)).addG 160 (inlQ Tryz.prog G34 noL Tryz.f160)).addG 161 (inlQ Tryz.prog G34 noL Tryz.f161)).addG 162 (inlQ Tryz.prog G34 noL Tryz.f162)
theorem fn123:Fn1 Tryz.prog 198 Tryz.f198:= .m Tryz.func198
theorem fn91:Fn1 Tryz.prog 158 Tryz.f158:= .m Tryz.func158
theorem fn92:Fn1 Tryz.prog 159 Tryz.f159:= .m Tryz.func159
theorem fn93:Fn1 Tryz.prog 160 Tryz.f160:= .m Tryz.func160
theorem fn94:Fn1 Tryz.prog 161 Tryz.f161:= .m Tryz.func161
theorem fn95:Fn1 Tryz.prog 162 Tryz.f162:= .m Tryz.func162
theorem fn64:Fn1 Tryz.prog 119 Tryz.f119:= .m Tryz.func119
theorem ok_G33:jap Tryz.prog G33:=ja5
theorem ok_G34:jap Tryz.prog G34:=jao (jak ja5 ok26) (jas ok_G33 hmix fn123 jai)
theorem ok_G35:jap Tryz.prog G35:=jao (jao (jao (jao (jao (jao (jak ja5 ok78) h90_ok) (jas ok_G34 hmix fn91 jai)) (jas ok_G34 hmix fn92 jai)) (jas ok_G34 hmix fn93 jai)) (jas ok_G34 hmix fn94 jai)) (jas ok_G34 hmix fn95 jai)
def wrC(f:Int)(cr:Bool)(n:Int)(mi:Bool)(ld fl:Int)(r c d i a:Int):Int:=
 bif i==f then fl else bif cr&&decide (i≥n-2)then(bif !mi then 32 else c)
 else bif decide (r=0)then fmZ c d mi else bif decide (r=1)then(bif decide (a<ld)then fl else d)
 else bif decide (r=3)then(bif c==66 then 32 else bif decide (a<ld)then fl else c)
 else bif decide (r=4)then(bif c==83&&mi then 45 else bif c==83 then 43 else bif (c==43)==mi then 32 else c)else c
def wrT(f:Int)(cr:Bool)(n:Int)(r i:Int):Bool:= !(i==f) && (!(cr&&decide (i≥n-2)) && (decide (r=0) || decide (r=1)))
def wrGo(f:Int)(cr:Bool)(n:Int)(mi:Bool)(ld fl:Int):F→F→F→Int→Int→F
 | [],_,_,_,_=> []
 | r::rs,cs,ds,i,a=>bif r==2 then wrGo f cr n mi ld fl rs cs.tail ds (i+1) a
  else wrC f cr n mi ld fl r (cs.headD 0) (ds.headD 0) i a::wrGo f cr n mi ld fl rs cs.tail (bif wrT f cr n r i then ds.tail else ds) (i+1) (a+1)
def cdg:F→Int
 | []=>0
 | r::rs=>(bif decide (r=0) || decide (r=1)then 1 else 0)+cdg rs
def roOK(l:F):Bool:=l.all fun r=>decide (0≤r∧r<6)
def jkr:E→Bool
 | [.func (.func a) ⟨[]⟩ ⟨[]⟩,.func (.func b) ⟨[]⟩ ⟨[]⟩,.nilFunc,.func (.func c) ⟨[]⟩ ⟨[]⟩,.func (.func d) ⟨[]⟩ ⟨[]⟩,.func (.func e) ⟨[]⟩ ⟨[]⟩]=>Nat.beq a 158&& (Nat.beq b 159&& (Nat.beq c 160&& (Nat.beq d 161&&Nat.beq e 162)))
 | _=>false
def how:E:=[.func (.func 158) ⟨[]⟩ ⟨[]⟩,.func (.func 159) ⟨[]⟩ ⟨[]⟩,.nilFunc,.func (.func 160) ⟨[]⟩ ⟨[]⟩,.func (.func 161) ⟨[]⟩ ⟨[]⟩,.func (.func 162) ⟨[]⟩ ⟨[]⟩]
theorem isHow_eq{l:E}(h:jkr l=true):l=how:=by
 unfold jkr at h;split at h
 ·simp only[jaf,Nat.beq_eq]at h;obtain⟨rfl,rfl,rfl,rfl,rfl⟩:=h;rfl
 ·cases h
theorem jkk:∀l,0≤cdg l
 | []=>by simp[cdg]
 | r::rs=>by have:=jkk rs;rw[cdg];cases decide (r=0) || decide (r=1) <;>simp<;>omega
theorem cdg_c{r:Int}{rs:F}:cdg rs≤cdg (r::rs):=by rw[cdg];cases decide (r=0) || decide (r=1) <;>simp<;>omega
theorem jkw{r:Int}{rs:F}(h:r=0∨r=1):cdg (r::rs)=1+cdg rs:=by rw[cdg];rcases h with rfl | rfl<;>rfl
theorem roOK_at{l:F}(h:roOK l=true){j:Nat}{r:Int}{rs:F}(hj:l.drop j=r::rs):0≤r∧r<6:=by
 simp only[roOK,List.all_eq_true,jae]at h;exact h r (List.drop_subset j l (by rw[hj];exact List.mem_cons_self))
theorem jjr{s:Y}(h:dgL (bz s)=true){j:Int}(h0:0≤j)(hj:j<s.size):48≤jau s j.toNat∧jau s j.toNat≤57:=by
 simp only[dgL,List.all_eq_true,jae]at h;exact h _ (List.drop_subset j.toNat (bz s) (by rw[jen h0 hj];exact List.mem_cons_self))
theorem fm_a{c d:Int}{m:Bool}(h:(c==89&&d==48)=true):fmZ c d m=32:=by
 have:c=89∧d=48:=by simpa using h
 rw[fmZ,if_pos this]
theorem fm_b{c d:Int}{m:Bool}(h:(c==89&&d==48)=false)(q:(c==84 || bif c==73 then !m || c==82&&m else c==82&&m)=true):fmZ c d m=puZ (d-48) m:=by
 have h1:¬(c=89∧d=48):=fun e=>by rw[e.1,e.2]at h;cases h
 rw[fmZ,if_neg h1,if_pos];cases m<;>by_cases a:c=84<;>by_cases b:c=73<;>by_cases e:c=82<;>simp_all
theorem fm_c{c d:Int}{m:Bool}(h:(c==89&&d==48)=false)(q:(c==84 || bif c==73 then !m || c==82&&m else c==82&&m)=false):fmZ c d m=d:=by
 have h1:¬(c=89∧d=48):=fun e=>by rw[e.1,e.2]at h;cases h
 rw[fmZ,if_neg h1,if_neg];cases m<;>by_cases a:c=84<;>by_cases b:c=73<;>by_cases e:c=82<;>simp_all
def V64_0:Bool×Y×Int×Rw×Nat×Nat×Int×Int×Y×Bool×Int×Int×Int×Bool×Nat×Nat×Int×Int×Bool×Int×Int×Y×Bool×Int×Int×Int×E→E:=fun(m2,r6,r7,o,k2,cap2,L,i,s,nb,w,dg,sc,sg,k,cap,dr,f,cr,fl,fm,nu,mi,us,at0,ld,d)=> [.pointer (some ⟨0,0,some 0⟩),.bool m2,.string r6,.int .i64 r7,.pointer (some ⟨8,0,some 0⟩),.pointer (some ⟨22,0,some 0⟩),o.v 200,.slice (some ⟨1,0,some 1⟩) k2 cap2,.int .i64 L,.int .i64 i]
def B64_0:Bool×Y×Int×Rw×Nat×Nat×Int×Int×Y×Bool×Int×Int×Int×Bool×Nat×Nat×Int×Int×Bool×Int×Int×Y×Bool×Int×Int×Int×E→J:=fun(m2,r6,r7,o,k2,cap2,L,i,s,nb,w,dg,sc,sg,k,cap,dr,f,cr,fl,fm,nu,mi,us,at0,ld,d)=> [some ⟨[.string s,.bool nb,.int .i64 w,.int .i64 dg,.int .i64 sc,.bool sg,.slice (some ⟨1,0,some 1⟩) k cap,.int .u8 dr,.int .i64 f,.bool cr,.int .u8 fl,.int .i64 fm],119,false⟩,some ⟨d,197,false⟩,some ⟨[.pointer (some ⟨0,0,some 0⟩),.string nu,.bool mi,.int .i64 us,.int .i64 at0,.int .i64 ld],203,true⟩,some ⟨how,206,true⟩,o.b]
def S64_0:LSpecA (Bool×Y×Int×Rw×Nat×Nat×Int×Int×Y×Bool×Int×Int×Int×Bool×Nat×Nat×Int×Int×Bool×Int×Int×Y×Bool×Int×Int×Int×E) where
 live:=[0,2,6,7,8,9,10,49,50,51]
 mid:=[0,1,8,22,200]
 n:=210
 ap:=[(.tmp 10,200)]
 dec vs bs:=match vs,bs with | [.pointer (some ⟨0,0,some 0⟩),.bool m2,.string r6,.int .i64 r7,.pointer (some ⟨8,0,some 0⟩),.pointer (some ⟨22,0,some 0⟩),.slice none 0 0,.slice (some ⟨1,0,some 1⟩) k2 cap2,.int .i64 L,.int .i64 i],[some ⟨[.string s,.bool nb,.int .i64 w,.int .i64 dg,.int .i64 sc,.bool sg,.slice (some ⟨1,0,some 1⟩) k cap,.int .u8 dr,.int .i64 f,.bool cr,.int .u8 fl,.int .i64 fm],119,false⟩,some ⟨d,197,false⟩,some ⟨[.pointer (some ⟨0,0,some 0⟩),.string nu,.bool mi,.int .i64 us,.int .i64 at0,.int .i64 ld],203,true⟩,some ⟨hw,206,true⟩,none]=>(match jkr hw with | true=>some (m2,r6,r7,.nil,k2,cap2,L,i,s,nb,w,dg,sc,sg,k,cap,dr,f,cr,fl,fm,nu,mi,us,at0,ld,d) | false=>none) | [.pointer (some ⟨0,0,some 0⟩),.bool m2,.string r6,.int .i64 r7,.pointer (some ⟨8,0,some 0⟩),.pointer (some ⟨22,0,some 0⟩),.slice (some ⟨200,0,some 1⟩) om oc,.slice (some ⟨1,0,some 1⟩) k2 cap2,.int .i64 L,.int .i64 i],[some ⟨[.string s,.bool nb,.int .i64 w,.int .i64 dg,.int .i64 sc,.bool sg,.slice (some ⟨1,0,some 1⟩) k cap,.int .u8 dr,.int .i64 f,.bool cr,.int .u8 fl,.int .i64 fm],119,false⟩,some ⟨d,197,false⟩,some ⟨[.pointer (some ⟨0,0,some 0⟩),.string nu,.bool mi,.int .i64 us,.int .i64 at0,.int .i64 ld],203,true⟩,some ⟨hw,206,true⟩,some ⟨od,5,true⟩]=>(match jkr hw with | true=>some (m2,r6,r7,.own od om oc,k2,cap2,L,i,s,nb,w,dg,sc,sg,k,cap,dr,f,cr,fl,fm,nu,mi,us,at0,ld,d) | false=>none) | _,_=>none
 pre:=fun(m2,r6,r7,o,k2,cap2,L,i,s,nb,w,dg,sc,sg,k,cap,dr,f,cr,fl,fm,nu,mi,us,at0,ld,d)=>o.ok&& (jbm d k2 cap2&& (roOK (zc d k2) && (dgL (bz nu) &&decide (m2=mi∧0≤i∧i≤k2∧k2≤1000∧L=k2∧k2≤s.size∧s.size≤1000∧0≤us∧us≤i∧0≤at0∧at0≤i∧us+cdg ((zc d k2).drop i.toNat)≤nu.size∧o.z.length≤i))))
 fin:=fun(m2,r6,r7,o,k2,cap2,L,i,s,nb,w,dg,sc,sg,k,cap,dr,f,cr,fl,fm,nu,mi,us,at0,ld,d) Z=>(o.is=false→wrGo f cr s.size mi ld fl ((zc d k2).drop i.toNat) ((bz s).drop i.toNat) ((bz nu).drop us.toNat) i at0=[]→ ∀us' at' i',Z (.exit 0) [.pointer (some ⟨0,0,some 0⟩),.bool m2,.string r6,.int .i64 r7,.pointer (some ⟨8,0,some 0⟩),.pointer (some ⟨22,0,some 0⟩),.slice none 0 0,.slice (some ⟨1,0,some 1⟩) k2 cap2,.int .i64 L,.int .i64 i'] [some ⟨[.string s,.bool nb,.int .i64 w,.int .i64 dg,.int .i64 sc,.bool sg,.slice (some ⟨1,0,some 1⟩) k cap,.int .u8 dr,.int .i64 f,.bool cr,.int .u8 fl,.int .i64 fm],119,false⟩,some ⟨d,197,false⟩,some ⟨[.pointer (some ⟨0,0,some 0⟩),.string nu,.bool mi,.int .i64 us',.int .i64 at',.int .i64 ld],203,true⟩,some ⟨how,206,true⟩,none])∧(∀us' at' i' od' om' oc',jc6 od' om' oc'=true→zc od' om'=o.z++wrGo f cr s.size mi ld fl ((zc d k2).drop i.toNat) ((bz s).drop i.toNat) ((bz nu).drop us.toNat) i at0→Z (.exit 0) [.pointer (some ⟨0,0,some 0⟩),.bool m2,.string r6,.int .i64 r7,.pointer (some ⟨8,0,some 0⟩),.pointer (some ⟨22,0,some 0⟩),.slice (some ⟨200,0,some 1⟩) om' oc',.slice (some ⟨1,0,some 1⟩) k2 cap2,.int .i64 L,.int .i64 i'] [some ⟨[.string s,.bool nb,.int .i64 w,.int .i64 dg,.int .i64 sc,.bool sg,.slice (some ⟨1,0,some 1⟩) k cap,.int .u8 dr,.int .i64 f,.bool cr,.int .u8 fl,.int .i64 fm],119,false⟩,some ⟨d,197,false⟩,some ⟨[.pointer (some ⟨0,0,some 0⟩),.string nu,.bool mi,.int .i64 us',.int .i64 at',.int .i64 ld],203,true⟩,some ⟨how,206,true⟩,some ⟨od',5,true⟩])
def e64(m2:Bool)(r6:Y)(r7:Int)(k2:Nat)(cap2:Nat)(L:Int)(i:Int)(s:Y)(nb:Bool)(w:Int)(dg:Int)(sc:Int)(sg:Bool)(k:Nat)(cap:Nat)(dr:Int)(f:Int)(cr:Bool)(fl:Int)(fm:Int)(nu:Y)(mi:Bool)(us:Int)(at0:Int)(ld:Int)(d:E)(pre:E)(ln N:Nat)(X U:Int)(R:Exit→E→J→Prop):Prop:=∀(cap_1:Nat)(tail:E),jbf tail cap_1 ln 1=true→bif jat [(N,200)] d&& (jat [(N,200)] (pre++ [.int .u8 X]++tail) &&true) &&true then R Exit.normal [.pointer (some (.mk 0 0 (some 0))),B m2,S r6,I r7,.pointer (some (.mk 8 0 (some 0))),.pointer (some (.mk 22 0 (some 0))),.slice (some (.mk 200 0 (some 1))) ln cap_1,.slice (some (.mk 1 0 (some 1))) k2 cap2,I L,I (IntKind.wrap .i64 (i+1))] [some (.mk [S s,B nb,I w,I dg,I sc,B sg,.slice (some (.mk 1 0 (some 1))) k cap,.int .u8 dr,I f,B cr,.int .u8 fl,I fm] 119 false),some (.mk (rlbL [(N,200)] d) 197 false),some (.mk [.pointer (some (.mk 0 0 (some 0))),S nu,B mi,I U,I (IntKind.wrap .i64 (at0+1)),I ld] 203 true),some (.mk [Value.func (Fn.func 158) ⟨[]⟩ ⟨[]⟩,Value.func (Fn.func 159) ⟨[]⟩ ⟨[]⟩,Value.nilFunc,Value.func (Fn.func 160) ⟨[]⟩ ⟨[]⟩,Value.func (Fn.func 161) ⟨[]⟩ ⟨[]⟩,Value.func (Fn.func 162) ⟨[]⟩ ⟨[]⟩] 206 true),some (.mk (rlbL [(N,200)] (pre++ [.int .u8 X]++tail)) 5 true)]else False
def gy(a c:Int)(b:E):Bool:=decide (((0+(ax a b).toNat*1:Nat):Int)=c)
def dw(a:Y)(b c:Int):Bool:=jau a b.toNat==c
def ki(i:Bool)(c:Y)(a e f:Int)(b:E)(d g h j k l m n:Prop):Prop:=bif gy a 2 b then False else bif gy a 3 b then bif dw c a 66 then d else bif au e f then g else h else bif gy a 4 b then bm (dw c a 83) true (dw c a 83&&i) j (bif dw c a 83 then k else bif dw c a 43==i then l else m)else bif gy a 5 b then n else False
def a8(a b:Int):Int:=IntKind.i64.wrap (a-b)
def ic(a:Y)(b:Int):Int:=jau a (a8 (ar b 1) 1).toNat
def k9(c d:Bool)(a:Y)(b:Int):Bool:=dw a b 84 || (bif dw a b 73 then !c || d else d)
def kj(f:Bool)(b c:Y)(a d:Int)(e g h:Prop):Prop:=bif bn (a8 (ar a 1) 1) (al b)then bif dw c d 89 || true then bif dw c d 89&&ic b a==48 then e else bif k9 f (dw c d 82 || true) c d then bif k9 f (dw c d 82&&f) c d then g else h else False else False else False
def jn(a:Bool)(b:Y)(c:Int)(g:E)(e f:Nat)(d:Option Addr):E:=aw 0:: .bool a:: .string b::ak c::aw 8::aw 22:: .slice d e f::g
def ji(a:FuncId):Value:= .func (.func a) ⟨[]⟩ ⟨[]⟩
def l0:E:=[ji 158,ji 159,Value.nilFunc,ji 160,ji 161,ji 162]
def jo:Option Blk:=some (.mk l0 206 true)
theorem r64_0n(m2:Bool)(r6:Y)(r7:Int)(k2:Nat)(cap2:Nat)(L:Int)(i:Int)(s:Y)(nb:Bool)(w:Int)(dg:Int)(sc:Int)(sg:Bool)(k:Nat)(cap:Nat)(dr:Int)(f:Int)(cr:Bool)(fl:Int)(fm:Int)(nu:Y)(mi:Bool)(us:Int)(at0:Int)(ld:Int)(d:E)(jk:Tmps)(R:Exit→E→J→Prop):(jb3 Tryz.prog G35 noL Tryz.f119.ntmps (jbk Tryz.f119 0) (tl S64_0.live (V64_0 (m2,r6,r7,.nil,k2,cap2,L,i,s,nb,w,dg,sc,sg,k,cap,dr,f,cr,fl,fm,nu,mi,us,at0,ld,d)) jk) (ml S64_0.mid (B64_0 (m2,r6,r7,.nil,k2,cap2,L,i,s,nb,w,dg,sc,sg,k,cap,dr,f,cr,fl,fm,nu,mi,us,at0,ld,d))) S64_0.n fun e t' m' _=>S64_0.out R e t' m')=(du (fy s i) R i L .i64 [b8 [] d,av true (ie mi nu us at0 ld 0) 203,jo,none] [] d (jn m2 r6 r7 (bq L i 1 k2 cap2) 0 0 none) k2 0 (e7 nb sg cr s w dg sc dr f fl fm 1 k cap) (bif a7 i 2 d then a0 (ay [] d) R [e7 nb sg cr s w dg sc dr f fl fm 1 k cap,b8 [] d,av true (ie mi nu us at0 ld 0) 203,jo,none] (jn m2 r6 r7 (bt L i 1 k2 cap2) 0 0 none)else bif i==f then e64 m2 r6 r7 k2 cap2 L i s nb w dg sc sg k cap dr f cr fl fm nu mi us at0 ld d [] 1 240 fl us R else bm cr true (cr&&decide (i≥b7 s 2)) (bif !m2 then e64 m2 r6 r7 k2 cap2 L i s nb w dg sc sg k cap dr f cr fl fm nu mi us at0 ld d [] 1 256 32 us R else e64 m2 r6 r7 k2 cap2 L i s nb w dg sc sg k cap dr f cr fl fm nu mi us at0 ld d [] 1 255 (jau s i.toNat) us R) (bif bn (ax i d) 6 then bif gy i 0 d then kj mi nu s us i (e64 m2 r6 r7 k2 cap2 L i s nb w dg sc sg k cap dr f cr fl fm nu mi us at0 ld d [] 1 303 32 (ar us 1) R) (e64 m2 r6 r7 k2 cap2 L i s nb w dg sc sg k cap dr f cr fl fm nu mi us at0 ld d [] 1 328 (puZ (IntKind.i64.wrap (IntKind.u8.wrap (ic nu us-48))) mi) (ar us 1) R) (e64 m2 r6 r7 k2 cap2 L i s nb w dg sc sg k cap dr f cr fl fm nu mi us at0 ld d [] 1 328 (ic nu us) (ar us 1) R)else bif gy i 1 d then bif bn (a8 (ar us 1) 1) (al nu)then bif au at0 ld then e64 m2 r6 r7 k2 cap2 L i s nb w dg sc sg k cap dr f cr fl fm nu mi us at0 ld d [] 1 299 fl (ar us 1) R else e64 m2 r6 r7 k2 cap2 L i s nb w dg sc sg k cap dr f cr fl fm nu mi us at0 ld d [] 1 293 (ic nu us) (ar us 1) R else False else ki mi s i at0 ld d (e64 m2 r6 r7 k2 cap2 L i s nb w dg sc sg k cap dr f cr fl fm nu mi us at0 ld d [] 1 263 32 us R) (e64 m2 r6 r7 k2 cap2 L i s nb w dg sc sg k cap dr f cr fl fm nu mi us at0 ld d [] 1 280 fl us R) (e64 m2 r6 r7 k2 cap2 L i s nb w dg sc sg k cap dr f cr fl fm nu mi us at0 ld d [] 1 274 (jau s i.toNat) us R) (e64 m2 r6 r7 k2 cap2 L i s nb w dg sc sg k cap dr f cr fl fm nu mi us at0 ld d [] 1 269 45 us R) (e64 m2 r6 r7 k2 cap2 L i s nb w dg sc sg k cap dr f cr fl fm nu mi us at0 ld d [] 1 272 43 us R) (e64 m2 r6 r7 k2 cap2 L i s nb w dg sc sg k cap dr f cr fl fm nu mi us at0 ld d [] 1 280 32 us R) (e64 m2 r6 r7 k2 cap2 L i s nb w dg sc sg k cap dr f cr fl fm nu mi us at0 ld d [] 1 281 (jau s i.toNat) us R) (e64 m2 r6 r7 k2 cap2 L i s nb w dg sc sg k cap dr f cr fl fm nu mi us at0 ld d [] 1 261 (jau s i.toNat) us R)else False)) False):=by kernel_rfl
def jc(a b:E):Bool:=fk [] a b 200 200&&true
theorem r64_0o(m2:Bool)(r6:Y)(r7:Int)(od:E)(om:Nat)(oc:Nat)(k2:Nat)(cap2:Nat)(L:Int)(i:Int)(s:Y)(nb:Bool)(w:Int)(dg:Int)(sc:Int)(sg:Bool)(k:Nat)(cap:Nat)(dr:Int)(f:Int)(cr:Bool)(fl:Int)(fm:Int)(nu:Y)(mi:Bool)(us:Int)(at0:Int)(ld:Int)(d:E)(jk:Tmps)(R:Exit→E→J→Prop):(jb3 Tryz.prog G35 noL Tryz.f119.ntmps (jbk Tryz.f119 0) (tl S64_0.live (V64_0 (m2,r6,r7,(.own od om oc),k2,cap2,L,i,s,nb,w,dg,sc,sg,k,cap,dr,f,cr,fl,fm,nu,mi,us,at0,ld,d)) jk) (ml S64_0.mid (B64_0 (m2,r6,r7,(.own od om oc),k2,cap2,L,i,s,nb,w,dg,sc,sg,k,cap,dr,f,cr,fl,fm,nu,mi,us,at0,ld,d))) S64_0.n fun e t' m' _=>S64_0.out R e t' m')=(bif au i L then dq i .i64 d k2 (bif fy s i then bif a7 i 2 d then a0 (jc d od) R [e7 nb sg cr s w dg sc dr f fl fm 1 k cap,b8 dx d,av true (ie mi nu us at0 ld 0) 203,jo,cw dx od] (jn m2 r6 r7 (bt L i 1 k2 cap2) om oc (bv 200 1))else bif i==f then bif cq od oc om 1 1 then e64 m2 r6 r7 k2 cap2 L i s nb w dg sc sg k cap dr f cr fl fm nu mi us at0 ld d (b6 od om) (om+1) 240 fl us R else False else bm cr true (cr&&decide (i≥b7 s 2)) (bif !m2 then bif cq od oc om 1 1 then e64 m2 r6 r7 k2 cap2 L i s nb w dg sc sg k cap dr f cr fl fm nu mi us at0 ld d (b6 od om) (om+1) 256 32 us R else False else bif cq od oc om 1 1 then e64 m2 r6 r7 k2 cap2 L i s nb w dg sc sg k cap dr f cr fl fm nu mi us at0 ld d (b6 od om) (om+1) 255 (jau s i.toNat) us R else False) (bif bn (ax i d) 6 then bif gy i 0 d then kj mi nu s us i (bif cq od oc om 1 1 then e64 m2 r6 r7 k2 cap2 L i s nb w dg sc sg k cap dr f cr fl fm nu mi us at0 ld d (b6 od om) (om+1) 303 32 (ar us 1) R else False) (bif cq od oc om 1 1 then e64 m2 r6 r7 k2 cap2 L i s nb w dg sc sg k cap dr f cr fl fm nu mi us at0 ld d (b6 od om) (om+1) 328 (puZ (IntKind.i64.wrap (IntKind.u8.wrap (ic nu us-48))) mi) (ar us 1) R else False) (bif cq od oc om 1 1 then e64 m2 r6 r7 k2 cap2 L i s nb w dg sc sg k cap dr f cr fl fm nu mi us at0 ld d (b6 od om) (om+1) 328 (ic nu us) (ar us 1) R else False)else bif gy i 1 d then bif bn (a8 (ar us 1) 1) (al nu)then bif au at0 ld then bif cq od oc om 1 1 then e64 m2 r6 r7 k2 cap2 L i s nb w dg sc sg k cap dr f cr fl fm nu mi us at0 ld d (b6 od om) (om+1) 299 fl (ar us 1) R else False else bif cq od oc om 1 1 then e64 m2 r6 r7 k2 cap2 L i s nb w dg sc sg k cap dr f cr fl fm nu mi us at0 ld d (b6 od om) (om+1) 293 (ic nu us) (ar us 1) R else False else False else ki mi s i at0 ld d (bif cq od oc om 1 1 then e64 m2 r6 r7 k2 cap2 L i s nb w dg sc sg k cap dr f cr fl fm nu mi us at0 ld d (b6 od om) (om+1) 263 32 us R else False) (bif cq od oc om 1 1 then e64 m2 r6 r7 k2 cap2 L i s nb w dg sc sg k cap dr f cr fl fm nu mi us at0 ld d (b6 od om) (om+1) 280 fl us R else False) (bif cq od oc om 1 1 then e64 m2 r6 r7 k2 cap2 L i s nb w dg sc sg k cap dr f cr fl fm nu mi us at0 ld d (b6 od om) (om+1) 274 (jau s i.toNat) us R else False) (bif cq od oc om 1 1 then e64 m2 r6 r7 k2 cap2 L i s nb w dg sc sg k cap dr f cr fl fm nu mi us at0 ld d (b6 od om) (om+1) 269 45 us R else False) (bif cq od oc om 1 1 then e64 m2 r6 r7 k2 cap2 L i s nb w dg sc sg k cap dr f cr fl fm nu mi us at0 ld d (b6 od om) (om+1) 272 43 us R else False) (bif cq od oc om 1 1 then e64 m2 r6 r7 k2 cap2 L i s nb w dg sc sg k cap dr f cr fl fm nu mi us at0 ld d (b6 od om) (om+1) 280 32 us R else False) (bif cq od oc om 1 1 then e64 m2 r6 r7 k2 cap2 L i s nb w dg sc sg k cap dr f cr fl fm nu mi us at0 ld d (b6 od om) (om+1) 281 (jau s i.toNat) us R else False) (bif cq od oc om 1 1 then e64 m2 r6 r7 k2 cap2 L i s nb w dg sc sg k cap dr f cr fl fm nu mi us at0 ld d (b6 od om) (om+1) 261 (jau s i.toNat) us R else False)else False)else False)else bif jc d od then R (.exit 0) (jn m2 r6 r7 (bq L i 1 k2 cap2) om oc (bv 200 1)) [e7 nb sg cr s w dg sc dr f fl fm 1 k cap,b8 dx d,av true (ie mi nu us at0 ld 0) 203,jo,cw dx od]else False):=by kernel_rfl
theorem l64_0:LOKf Tryz.prog (oneL 0 S64_0.hA) Tryz.f119:=by
 refine jcc (h:=S64_0.hA) (by kernel_rfl) (jbo ok_G35 hmix (by kernel_rfl) (jbi _) S64_0 V64_0 B64_0 (fun(m2,r6,r7,o,k2,cap2,L,i,s,nb,w,dg,sc,sg,k,cap,dr,f,cr,fl,fm,nu,mi,us,at0,ld,d)=>(k2-i).toNat) ?_ ?_ ?_)
 ·intro vs bs s h;simp only[S64_0]at h;split at h
  all_goals first | (cases h;exact⟨rfl,rfl⟩) | cases h | (split at h<;>first | (rename_i hq;cases h;have hq:=isHow_eq hq;subst hq;exact⟨rfl,rfl⟩) | cases h)
 ·exact fun⟨m2,r6,r7,o,k2,cap2,L,i,s,nb,w,dg,sc,sg,k,cap,dr,f,cr,fl,fm,nu,mi,us,at0,ld,d⟩ hp=>by
   simp only[S64_0,jaf]at hp;have hr:=jar.1 hp.2.1;cases o with
   | nil=>simp[how,V64_0,B64_0,S64_0,jax,jbs,idsL,ids,Rw.v,Rw.b,jal hr.plain]
   | own od om oc=>simp[how,V64_0,B64_0,S64_0,jax,jbs,idsL,ids,Rw.v,Rw.b,jal hr.plain,jal (jaz.1 hp.1).plain]
 ·intro⟨m2,r6,r7,o,k2,cap2,L,i,s,nb,w,dg,sc,sg,k,cap,dr,f,cr,fl,fm,nu,mi,us,at0,ld,d⟩ jk Z hp hf;simp only[S64_0]at hp hf;cases o with
  | nil=>
   rw[r64_0n];delta ay bx dv dq au du bm ax gy dw ki ar a8 ic bn al k9 kj b7 a0 bv aw ak jn bp bk bt ji l0 jo av ie b8 am e7 a7 bq fy;simp only[jaf,jae]at hp;obtain⟨-,hR,hO,hD,rfl,hp⟩:=hp;have hr:=jar.1 hR;simp only[Rw.z,List.length_nil]at hp hf;have e0:0+i.toNat*1=i.toNat:=by omega
   rw[e0];apply cond_intro<;>intro h
   ·have h:=jab h;obtain⟨a1,a3⟩:=hr.at hp.1 (by omega);have hro:=roOK_at hO a3;rw[a3,wrGo,jen hp.1 (by omega),List.headD_cons,List.tail_cons]at hf;rw[a3]at hp;have hc1:= @cdg_c (jan d i.toNat) ((zc d k2).drop (i+1).toNat);have hc2:=jkk ((zc d k2).drop (i+1).toNat);rw[a1,w64 (n:=i+1) (by omega),w64 (n:=(s.size:Int)-2) (by omega)];have eu:IntKind.wrap .i64 (IntKind.wrap .i64 (us+1)-1)=us:=by rw[w64 (n:=us+1) (by omega),w64 (by omega)];omega
    rw[eu];generalize jan d i.toNat=r at*;generalize jau s i.toNat=c at*;have er:((0+r.toNat*1:Nat):Int)=r:=by omega
    rw[er];refine c_t (jaa (by omega)) (c_t rfl (c_t (jaa (by omega)) (cond_intro (fun q=> ?_) (fun q=> ?_))))
    ·rw[q,cond_true]at hf;refine c_t (by rw[hr.good];rfl) ?_;rw[hr.rlb];exact⟨(m2,r6,r7,.nil,k2,cap2,L,i+1,s,nb,w,dg,sc,sg,k,cap,dr,f,cr,fl,fm,nu,m2,us,at0,ld,d),rfl,rfl,by simp only[S64_0,jaf,jae];exact⟨rfl,hR,hO,hD,trivial,by simp only[Rw.z,List.length_nil];omega⟩,by simp only;omega,hf⟩
    ·rw[q,cond_false]at hf
     have leaf:∀(b:Bool)(N:Nat)(X:Int){U:Int},wrC f cr s.size m2 ld fl r c (List.headD (List.drop us.toNat (bz nu)) 0) i at0=X→wrT f cr s.size r i=b→(bif b then(List.drop us.toNat (bz nu)).tail else List.drop us.toNat (bz nu))=List.drop U.toNat (bz nu)→(U+cdg ((zc d k2).drop (i+1).toNat)≤nu.size∧0≤U∧U≤i+1)→e64 m2 r6 r7 k2 cap2 L i s nb w dg sc sg k cap dr f cr fl fm nu m2 us at0 ld d [] 1 N X U (S64_0.step V64_0 B64_0 (fun(m2,r6,r7,o,k2,cap2,L,i,s,nb,w,dg,sc,sg,k,cap,dr,f,cr,fl,fm,nu,mi,us,at0,ld,d)=>(k2-i).toNat) (m2,r6,r7,.nil,k2,cap2,L,i,s,nb,w,dg,sc,sg,k,cap,dr,f,cr,fl,fm,nu,m2,us,at0,ld,d) Z):=by
      intro b N X U e eT eD hU;rw[e,eT,eD]at hf;intro cap1 tail ht;obtain⟨h1,h2⟩:RowP ([]++ [Value.int IntKind.u8 X]++tail) 1 cap1∧zc ([]++ [Value.int IntKind.u8 X]++tail) 1=[X]:=jgb [X] ht;have hl1:=ja4 h1;rw[w64 (n:=i+1) (by omega),w64 (n:=at0+1) (by omega)];generalize []++ [Value.int IntKind.u8 X]++tail=od' at*;refine c_t (by rw[hr.good,h1.good];rfl) ?_;rw[hr.rlb,h1.rlb];exact⟨(m2,r6,r7,.own od' (1) cap1,k2,cap2,L,i+1,s,nb,w,dg,sc,sg,k,cap,dr,f,cr,fl,fm,nu,m2,U,at0+1,ld,d),rfl,rfl,by simp only[S64_0,jaf,jae];exact⟨jaz.2 h1,hR,hO,hD,trivial,by simp only[Rw.z,hl1];omega⟩,by simp only;omega,⟨fun q=>(by cases q),fun us' at' i' od'' om'' oc'' g1 g2=>hf.2 us' at' i' od'' om'' oc'' g1 (by rw[g2];simp only[Rw.z,h2,List.append_assoc,List.cons_append,List.nil_append])⟩⟩
     refine cond_intro (fun q0=> ?_) (fun q0=>c_t (by simp) (cond_intro (fun q1=>cond_intro (fun q2=> ?_) (fun q2=> ?_)) (fun q1=>c_t (jaa hro) ?_)))
     ·exact leaf false _ _ (by simp only[wrC,q0,cond_true,cond_false]) (by simp[wrT,q0]) rfl (by omega)
     ·exact leaf false _ _ (by simp only[wrC,q0,q1,q2,cond_true,cond_false]) (by simp[wrT,q0,q1,q2]) rfl (by omega)
     ·exact leaf false _ _ (by simp only[wrC,q0,q1,q2,cond_true,cond_false]) (by simp[wrT,q0,q1,q2]) rfl (by omega)
     ·refine cond_intro (fun n=> ?_) (fun m=>cond_intro (fun n=> ?_) (fun m1=>cond_intro (fun n=> ?_) (fun m2'=>cond_intro (fun n=> ?_) (fun m3=>cond_intro (fun n=> ?_) (fun m4=> ?_)))))
      ·have n0:=jab n;have hc3:= @jkw r ((zc d k2).drop (i+1).toNat) (by omega);have hd:=jjr hD hp.2.2.2.2.2.2.1 (by omega);have ed:=jen hp.2.2.2.2.2.2.1 (s:=nu) (by omega);have ed':List.headD (List.drop us.toNat (bz nu)) 0=jau nu us.toNat:=by rw[ed];rfl
       rw[w8 (n:=jau nu us.toNat-48) (by omega),w64 (n:=jau nu us.toNat-48) (by omega)];generalize jau nu us.toNat=dd at*;refine c_t (jaa (by omega)) (c_t (by simp) (cond_intro (fun q2=> ?_) (fun q2=>c_t (by cases c==84<;>cases c==73<;>simp) (cond_intro (fun q3=> ?_) (fun q3=> ?_)))))
       ·rw[w64 (n:=us+1) (by omega)];exact leaf true _ _ (by simp only[wrC,q0,q1,n,ed',cond_true,cond_false];exact fm_a q2) (by simp[wrT,q0,q1,n,ed']) (by rw[cond_true,ed,List.tail_cons]) (by omega)
       ·rw[w64 (n:=us+1) (by omega)];exact leaf true _ _ (by simp only[wrC,q0,q1,n,ed',cond_true,cond_false];exact fm_b q2 q3) (by simp[wrT,q0,q1,n,ed']) (by rw[cond_true,ed,List.tail_cons]) (by omega)
       ·rw[w64 (n:=us+1) (by omega)];exact leaf true _ _ (by simp only[wrC,q0,q1,n,ed',cond_true,cond_false];exact fm_c q2 q3) (by simp[wrT,q0,q1,n,ed']) (by rw[cond_true,ed,List.tail_cons]) (by omega)
      ·have n0:=jab n;have hc3:= @jkw r ((zc d k2).drop (i+1).toNat) (by omega);have hd:=jjr hD hp.2.2.2.2.2.2.1 (by omega);have ed:=jen hp.2.2.2.2.2.2.1 (s:=nu) (by omega);have ed':List.headD (List.drop us.toNat (bz nu)) 0=jau nu us.toNat:=by rw[ed];rfl
       generalize jau nu us.toNat=dd at*;refine c_t (jaa (by omega)) (cond_intro (fun q2=> ?_) (fun q2=> ?_))
       ·rw[w64 (n:=us+1) (by omega)];exact leaf true _ _ (by simp only[wrC,q0,q1,m,n,q2,ed',cond_true,cond_false]) (by simp[wrT,q0,q1,m,n,q2,ed']) (by rw[cond_true,ed,List.tail_cons]) (by omega)
       ·rw[w64 (n:=us+1) (by omega)];exact leaf true _ _ (by simp only[wrC,q0,q1,m,n,q2,ed',cond_true,cond_false]) (by simp[wrT,q0,q1,m,n,q2,ed']) (by rw[cond_true,ed,List.tail_cons]) (by omega)
      ·have n:=jab n;rw[n]at q;cases q
      ·refine cond_intro (fun q2=> ?_) (fun q2=>cond_intro (fun q3=> ?_) (fun q3=> ?_))
       ·exact leaf false _ _ (by simp only[wrC,q0,q1,m,m1,n,q2,cond_true,cond_false]) (by simp[wrT,q0,q1,m,m1,n,q2]) rfl (by omega)
       ·exact leaf false _ _ (by simp only[wrC,q0,q1,m,m1,n,q2,q3,cond_true,cond_false]) (by simp[wrT,q0,q1,m,m1,n,q2,q3]) rfl (by omega)
       ·exact leaf false _ _ (by simp only[wrC,q0,q1,m,m1,n,q2,q3,cond_true,cond_false]) (by simp[wrT,q0,q1,m,m1,n,q2,q3]) rfl (by omega)
      ·refine c_t (by simp) (cond_intro (fun q2=> ?_) (fun q2=>cond_intro (fun q3=> ?_) (fun q3=>cond_intro (fun q4=> ?_) (fun q4=> ?_))))
       ·exact leaf false _ _ (by simp only[wrC,q0,q1,m,m1,m3,n,q2,cond_true,cond_false]) (by simp[wrT,q0,q1,m,m1,m3,n,q2]) rfl (by omega)
       ·exact leaf false _ _ (by simp only[wrC,q0,q1,m,m1,m3,n,q2,cond_true,cond_false];rw[q3];rfl) (by simp[wrT,q0,q1,m,m1,m3,n,q2]) rfl (by omega)
       ·exact leaf false _ _ (by simp only[wrC,q0,q1,m,m1,m3,n,q2,cond_true,cond_false];rw[q3,q4];rfl) (by simp[wrT,q0,q1,m,m1,m3,n,q2]) rfl (by omega)
       ·exact leaf false _ _ (by simp only[wrC,q0,q1,m,m1,m3,n,q2,cond_true,cond_false];rw[q3,q4];rfl) (by simp[wrT,q0,q1,m,m1,m3,n,q2]) rfl (by omega)
      ·have k0:=jac m;have k1:=jac m1;have k3:=jac m3;have k4:=jac m4;have k2':r≠2:=fun e=>by rw[e]at q;cases q
       refine c_t (jaa (by omega)) ?_;exact leaf false _ _ (by simp only[wrC,q0,q1,m,m1,m3,m4,cond_true,cond_false]) (by simp[wrT,q0,q1,m,m1,m3,m4]) rfl (by omega)
   ·have h:=jac h;rw[hr.end (by omega),wrGo]at hf;refine c_t (by rw[hr.good];rfl) ?_;rw[hr.rlb];exact hf.1 rfl rfl us at0 i
  | own od om oc=>
   rw[r64_0o];delta cw dx ji l0 jo av ak bv aw ie b8 am bk e7 jn bq fk jc bx dv dq bm ax gy dw au ki b6 cq ar a8 ic bn al k9 kj b7 a0 bp bt a7 fy;simp only[jaf,jae]at hp;obtain⟨ho,hR,hO,hD,rfl,hp⟩:=hp;have hr:=jar.1 hR;have ho:=jaz.1 ho;have hzl:=ja4 ho;simp only[Rw.z,hzl]at hp hf;have e0:0+i.toNat*1=i.toNat:=by omega
   rw[e0];apply cond_intro<;>intro h
   ·have h:=jab h;obtain⟨a1,a3⟩:=hr.at hp.1 (by omega);have hro:=roOK_at hO a3;rw[a3,wrGo,jen hp.1 (by omega),List.headD_cons,List.tail_cons]at hf;rw[a3]at hp;have hc1:= @cdg_c (jan d i.toNat) ((zc d k2).drop (i+1).toNat);have hc2:=jkk ((zc d k2).drop (i+1).toNat);rw[a1,w64 (n:=i+1) (by omega),w64 (n:=(s.size:Int)-2) (by omega)];have eu:IntKind.wrap .i64 (IntKind.wrap .i64 (us+1)-1)=us:=by rw[w64 (n:=us+1) (by omega),w64 (by omega)];omega
    rw[eu];generalize jan d i.toNat=r at*;generalize jau s i.toNat=c at*;have er:((0+r.toNat*1:Nat):Int)=r:=by omega
    rw[er];refine c_t (jaa (by omega)) (c_t rfl (c_t (jaa (by omega)) (cond_intro (fun q=> ?_) (fun q=> ?_))))
    ·rw[q,cond_true]at hf;refine c_t (by rw[hr.good,ho.good];rfl) ?_;rw[hr.rlb,ho.rlb];exact⟨(m2,r6,r7,.own od om oc,k2,cap2,L,i+1,s,nb,w,dg,sc,sg,k,cap,dr,f,cr,fl,fm,nu,m2,us,at0,ld,d),rfl,rfl,by simp only[S64_0,jaf,jae];exact⟨jaz.2 ho,hR,hO,hD,trivial,by simp only[Rw.z,hzl];omega⟩,by simp only;omega,hf⟩
    ·rw[q,cond_false]at hf
     have leaf:∀(b:Bool)(N:Nat)(X:Int){U:Int},wrC f cr s.size m2 ld fl r c (List.headD (List.drop us.toNat (bz nu)) 0) i at0=X→wrT f cr s.size r i=b→(bif b then(List.drop us.toNat (bz nu)).tail else List.drop us.toNat (bz nu))=List.drop U.toNat (bz nu)→(U+cdg ((zc d k2).drop (i+1).toNat)≤nu.size∧0≤U∧U≤i+1)→e64 m2 r6 r7 k2 cap2 L i s nb w dg sc sg k cap dr f cr fl fm nu m2 us at0 ld d (List.take (om*1) od) (om+1) N X U (S64_0.step V64_0 B64_0 (fun(m2,r6,r7,o,k2,cap2,L,i,s,nb,w,dg,sc,sg,k,cap,dr,f,cr,fl,fm,nu,mi,us,at0,ld,d)=>(k2-i).toNat) (m2,r6,r7,.own od om oc,k2,cap2,L,i,s,nb,w,dg,sc,sg,k,cap,dr,f,cr,fl,fm,nu,m2,us,at0,ld,d) Z):=by
      intro b N X U e eT eD hU;rw[e,eT,eD]at hf;intro cap1 tail ht;obtain⟨h1,h2⟩:=ho.app1 X ht;have hl1:=ja4 h1;rw[w64 (n:=i+1) (by omega),w64 (n:=at0+1) (by omega)];generalize List.take (om*1) od++ [Value.int IntKind.u8 X]++tail=od' at*;refine c_t (by rw[hr.good,h1.good];rfl) ?_;rw[hr.rlb,h1.rlb];exact⟨(m2,r6,r7,.own od' (om+1) cap1,k2,cap2,L,i+1,s,nb,w,dg,sc,sg,k,cap,dr,f,cr,fl,fm,nu,m2,U,at0+1,ld,d),rfl,rfl,by simp only[S64_0,jaf,jae];exact⟨jaz.2 h1,hR,hO,hD,trivial,by simp only[Rw.z,hl1];omega⟩,by simp only;omega,⟨fun q=>(by cases q),fun us' at' i' od'' om'' oc'' g1 g2=>hf.2 us' at' i' od'' om'' oc'' g1 (by rw[g2];simp only[Rw.z,h2,List.append_assoc,List.cons_append,List.nil_append])⟩⟩
     refine cond_intro (fun q0=> ?_) (fun q0=>c_t (by simp) (cond_intro (fun q1=>cond_intro (fun q2=> ?_) (fun q2=> ?_)) (fun q1=>c_t (jaa hro) ?_)))
     ·refine c_t (ho.ask (k:=1) (by omega)) ?_;exact leaf false _ _ (by simp only[wrC,q0,cond_true,cond_false]) (by simp[wrT,q0]) rfl (by omega)
     ·refine c_t (ho.ask (k:=1) (by omega)) ?_;exact leaf false _ _ (by simp only[wrC,q0,q1,q2,cond_true,cond_false]) (by simp[wrT,q0,q1,q2]) rfl (by omega)
     ·refine c_t (ho.ask (k:=1) (by omega)) ?_;exact leaf false _ _ (by simp only[wrC,q0,q1,q2,cond_true,cond_false]) (by simp[wrT,q0,q1,q2]) rfl (by omega)
     ·refine cond_intro (fun n=> ?_) (fun m=>cond_intro (fun n=> ?_) (fun m1=>cond_intro (fun n=> ?_) (fun m2'=>cond_intro (fun n=> ?_) (fun m3=>cond_intro (fun n=> ?_) (fun m4=> ?_)))))
      ·have n0:=jab n;have hc3:= @jkw r ((zc d k2).drop (i+1).toNat) (by omega);have hd:=jjr hD hp.2.2.2.2.2.2.1 (by omega);have ed:=jen hp.2.2.2.2.2.2.1 (s:=nu) (by omega);have ed':List.headD (List.drop us.toNat (bz nu)) 0=jau nu us.toNat:=by rw[ed];rfl
       rw[w8 (n:=jau nu us.toNat-48) (by omega),w64 (n:=jau nu us.toNat-48) (by omega)];generalize jau nu us.toNat=dd at*;refine c_t (jaa (by omega)) (c_t (by simp) (cond_intro (fun q2=> ?_) (fun q2=>c_t (by cases c==84<;>cases c==73<;>simp) (cond_intro (fun q3=> ?_) (fun q3=> ?_)))))
       ·refine c_t (ho.ask (k:=1) (by omega)) ?_;rw[w64 (n:=us+1) (by omega)];exact leaf true _ _ (by simp only[wrC,q0,q1,n,ed',cond_true,cond_false];exact fm_a q2) (by simp[wrT,q0,q1,n,ed']) (by rw[cond_true,ed,List.tail_cons]) (by omega)
       ·refine c_t (ho.ask (k:=1) (by omega)) ?_;rw[w64 (n:=us+1) (by omega)];exact leaf true _ _ (by simp only[wrC,q0,q1,n,ed',cond_true,cond_false];exact fm_b q2 q3) (by simp[wrT,q0,q1,n,ed']) (by rw[cond_true,ed,List.tail_cons]) (by omega)
       ·refine c_t (ho.ask (k:=1) (by omega)) ?_;rw[w64 (n:=us+1) (by omega)];exact leaf true _ _ (by simp only[wrC,q0,q1,n,ed',cond_true,cond_false];exact fm_c q2 q3) (by simp[wrT,q0,q1,n,ed']) (by rw[cond_true,ed,List.tail_cons]) (by omega)
      ·have n0:=jab n;have hc3:= @jkw r ((zc d k2).drop (i+1).toNat) (by omega);have hd:=jjr hD hp.2.2.2.2.2.2.1 (by omega);have ed:=jen hp.2.2.2.2.2.2.1 (s:=nu) (by omega);have ed':List.headD (List.drop us.toNat (bz nu)) 0=jau nu us.toNat:=by rw[ed];rfl
       generalize jau nu us.toNat=dd at*;refine c_t (jaa (by omega)) (cond_intro (fun q2=> ?_) (fun q2=> ?_))
       ·refine c_t (ho.ask (k:=1) (by omega)) ?_;rw[w64 (n:=us+1) (by omega)];exact leaf true _ _ (by simp only[wrC,q0,q1,m,n,q2,ed',cond_true,cond_false]) (by simp[wrT,q0,q1,m,n,q2,ed']) (by rw[cond_true,ed,List.tail_cons]) (by omega)
       ·refine c_t (ho.ask (k:=1) (by omega)) ?_;rw[w64 (n:=us+1) (by omega)];exact leaf true _ _ (by simp only[wrC,q0,q1,m,n,q2,ed',cond_true,cond_false]) (by simp[wrT,q0,q1,m,n,q2,ed']) (by rw[cond_true,ed,List.tail_cons]) (by omega)
      ·have n:=jab n;rw[n]at q;cases q
      ·refine cond_intro (fun q2=> ?_) (fun q2=>cond_intro (fun q3=> ?_) (fun q3=> ?_))
       ·refine c_t (ho.ask (k:=1) (by omega)) ?_;exact leaf false _ _ (by simp only[wrC,q0,q1,m,m1,n,q2,cond_true,cond_false]) (by simp[wrT,q0,q1,m,m1,n,q2]) rfl (by omega)
       ·refine c_t (ho.ask (k:=1) (by omega)) ?_;exact leaf false _ _ (by simp only[wrC,q0,q1,m,m1,n,q2,q3,cond_true,cond_false]) (by simp[wrT,q0,q1,m,m1,n,q2,q3]) rfl (by omega)
       ·refine c_t (ho.ask (k:=1) (by omega)) ?_;exact leaf false _ _ (by simp only[wrC,q0,q1,m,m1,n,q2,q3,cond_true,cond_false]) (by simp[wrT,q0,q1,m,m1,n,q2,q3]) rfl (by omega)
      ·refine c_t (by simp) (cond_intro (fun q2=> ?_) (fun q2=>cond_intro (fun q3=> ?_) (fun q3=>cond_intro (fun q4=> ?_) (fun q4=> ?_))))
       ·refine c_t (ho.ask (k:=1) (by omega)) ?_;exact leaf false _ _ (by simp only[wrC,q0,q1,m,m1,m3,n,q2,cond_true,cond_false]) (by simp[wrT,q0,q1,m,m1,m3,n,q2]) rfl (by omega)
       ·refine c_t (ho.ask (k:=1) (by omega)) ?_;exact leaf false _ _ (by simp only[wrC,q0,q1,m,m1,m3,n,q2,cond_true,cond_false];rw[q3];rfl) (by simp[wrT,q0,q1,m,m1,m3,n,q2]) rfl (by omega)
       ·refine c_t (ho.ask (k:=1) (by omega)) ?_;exact leaf false _ _ (by simp only[wrC,q0,q1,m,m1,m3,n,q2,cond_true,cond_false];rw[q3,q4];rfl) (by simp[wrT,q0,q1,m,m1,m3,n,q2]) rfl (by omega)
       ·refine c_t (ho.ask (k:=1) (by omega)) ?_;exact leaf false _ _ (by simp only[wrC,q0,q1,m,m1,m3,n,q2,cond_true,cond_false];rw[q3,q4];rfl) (by simp[wrT,q0,q1,m,m1,m3,n,q2]) rfl (by omega)
      ·have k0:=jac m;have k1:=jac m1;have k3:=jac m3;have k4:=jac m4;have k2':r≠2:=fun e=>by rw[e]at q;cases q
       refine c_t (jaa (by omega)) ?_;refine c_t (ho.ask (k:=1) (by omega)) ?_;exact leaf false _ _ (by simp only[wrC,q0,q1,m,m1,m3,m4,cond_true,cond_false]) (by simp[wrT,q0,q1,m,m1,m3,m4]) rfl (by omega)
   ·have h:=jac h;rw[hr.end (by omega),wrGo]at hf;refine c_t (by rw[hr.good,ho.good];rfl) ?_;rw[hr.rlb,ho.rlb];exact hf.2 us at0 i od om oc (jaz.2 ho) (by simp)
def vwN(p:E):Lk:=fun j=>match Nat.beq j 0 with | true=>some ⟨p,203,false⟩ | false=>none
theorem sub_N{m:Lk}{a x:Nat}{nu:Y}{mi:Bool}{us at0 ld:Int}{own:Bool}(hp:m a=some ⟨pnL x nu mi us at0 ld,203,own⟩):SubM m (rho2 a x) (vwN (pnL 1 nu mi us at0 ld)) 2:=by
 have hget:∀j b,vwN (pnL 1 nu mi us at0 ld) j=some b→j=0∧b=⟨pnL 1 nu mi us at0 ld,203,false⟩:=fun j b h=>by
  simp only[vwN]at h;split at h
  ·rename_i h0;cases h;exact⟨jah h0,rfl⟩
  ·cases h
 refine⟨fun j b h=> ?_,fun j b h=> ?_⟩
 ·obtain⟨rfl,rfl⟩:=hget j b h;refine⟨by omega,fun i hi=> ?_⟩;have:i=1:=by simpa[pnL,idsL,ids]using hi
  omega
 ·obtain⟨rfl,rfl⟩:=hget j b h;refine⟨rfl,⟨pnL x nu mi us at0 ld,203,own⟩,?_,fun ι=> ?_⟩
  ·show noIt (m a)=_;rw[hp];simp only[noIt];have:(own&&Nat.beq 203 itTy)=false:=by cases own<;>rfl
   rw[this]
  ·simp[pnL,ren,ren1,rho2]
def sgC(c:Int)(m:Bool):Int:=bif c==83&&m then 45 else bif c==83 then 43 else bif (c==43)==m then 32 else c
theorem v94(nu:Y)(mi:Bool)(us:Int)(at0:Int)(ld:Int)(c:Int)(R:Value→Prop):(jbu Tryz.prog G33 noL Tryz.f161 [.pointer (some ⟨0,0,some 0⟩),.int .u8 c] (vwN (pnL 1 nu mi us at0 ld)) 2 (fun v _ _=>R v))=(bm (c==83) true (c==83&&mi) (R (am 45)) (bif c==83 then R (am 43)else bif (c==43)==mi then R (am 32)else R (am c))):=by kernel_rfl
def h94:E→Lk→Nat→(Value→Lk→Nat→Prop)→Prop:=fun args m n K=>match args with
 | [.pointer (some ⟨a,0,some 0⟩),.int .u8 c]=>match m a with
  | some ⟨[.pointer (some ⟨x,0,some 0⟩),.string nu,.bool mi,.int .i64 us,.int .i64 at0,.int .i64 ld],203,own⟩=>∀e,sgC c mi=e→K (.int .u8 e) m n
  | _=>False
 | _=>False
def h90h:E→Lk→Nat→(Value→Lk→Nat→Prop)→Prop:=fun args m n K=>h90 args m n fun v m' n'=>match v with
 | .int .i64 x=>∀e,x=e→K (.int .i64 e) m' n'
 | _=>False
def G36:Env:=((((((Env.nil.add 72 (sp2 s78)).addG 158 (inlQ Tryz.prog G34 noL Tryz.f158)).addG 159 (inlQ Tryz.prog G34 noL Tryz.f159)).addG 160 (inlQ Tryz.prog G34 noL Tryz.f160)).addG 162 (inlQ Tryz.prog G34 noL Tryz.f162)).addG 157 h90h).addG 161 h94
theorem w94(nu:Y)(mi:Bool)(us at0 ld c:Int){R:Value→Prop}(h:R (.int .u8 (sgC c mi))):jdu Tryz.prog G33 noL Tryz.f161 [.pointer (some ⟨0,0,some 0⟩),.int .u8 c] (vwN (pnL 1 nu mi us at0 ld)) 2 (fun v _ _=>R v):=by
 rw[jdu,v94];delta bm am;rw[sgC]at h;refine c_t (by simp) (cond_intro (fun q=> ?_) (fun q=>cond_intro (fun q2=> ?_) (fun q2=>cond_intro (fun q3=> ?_) (fun q3=> ?_))))
 ·rw[q]at h;exact h
 ·rw[q,q2]at h;exact h
 ·rw[q,q2,q3]at h;exact h
 ·rw[q,q2,q3]at h;exact h
theorem h94_ok:jdt Tryz.prog 161 h94:=by
 refine jh0 ok_G33 hmix fn94 jai fun args m n K h=> ?_
 unfold h94 at h;split at h
 case h_2=>exact h.elim
 rename_i a c;split at h
 case h_2=>exact h.elim
 rename_i x nu mi us at0 ld own hm;refine⟨[.pointer (some ⟨0,0,some 0⟩),.int .u8 c],_,2,rho2 a x,.int .u8 (sgC c mi),sub_N hm,fun ι=>by simp[ren,ren1,rho2],jag,fun v hv j hj=> ?_,rfl,w94 nu mi us at0 ld c (R:=fun v=>v= .int .u8 (sgC c mi)) rfl,h _ rfl⟩;simp at hv;rcases hv with rfl | rfl
 ·have:j=0:=by simpa[ids]using hj
  omega
 ·simp[ids]at hj
theorem gen_imp{P:Program}{f:FuncId}{h h':E→Lk→Nat→(Value→Lk→Nat→Prop)→Prop}(hh:∀args m n K,h' args m n K→h args m n K)(hg:jdt P f h):jdt P f h':=
 ⟨hg.1,fun args m n K hk=>hg.2 args m n K (hh args m n K hk)⟩
theorem h90h_ok:jdt Tryz.prog 157 h90h:=by
 refine gen_imp (fun args m n K h=> ?_) h90_ok;unfold h90h h90 at h;unfold h90;split at h
 case h_2=>exact h.elim
 split at h
 case h_2=>exact h.elim
 split at h
 case h_2=>exact h.elim
 split at h
 case h_2=>exact h.elim
 split at h
 case h_2=>exact h.elim
 rename_i hm _ _ _ _ _ _ _ _ _ _ _ _ _ _ _ _ _ hx _ _ hy hc;simp only[*]
theorem ok_G36:jap Tryz.prog G36:=jao (jao (jao (jao (jao (jao (jak ja5 ok78) (jas ok_G34 hmix fn91 jai)) (jas ok_G34 hmix fn92 jai)) (jas ok_G34 hmix fn93 jai)) (jas ok_G34 hmix fn95 jai)) h90h_ok) h94_ok
theorem lok64:LOKf Tryz.prog (oneL 0 S64_0.hA) Tryz.f119:=l64_0
def l4(a:Prop):Prop:=(((((a∧a)∧a)∧a)∧a)∧a)∧(((((a∧a)∧a)∧a)∧a)∧((((a∧a)∧a)∧a)∧(((a∧a)∧a)∧((a∧a)∧(a∧a)∧a)∧a)∧a)∧a)∧a
def lp(a b:Int)(c d e:Prop):Prop:=Tmps→bm (a==36) true (a==36&&aq b 0) c (bif a !=0 || true then bif a !=0&&aq b 0 then l4 d else e else False)
def lq(a d:Int)(c:E)(b:Nat)(e:Value→Prop):Prop:=bif bn (a8 a 1) (b:Int)then bif Nat.ble (0+(a8 a 1).toNat*1+1) c.length then b5 (ja6 (setL c (0+(a8 a 1).toNat*1) [am d]) 0 b) (.tuple ⟨[.string (ja3 (setL c (0+(a8 a 1).toNat*1) [am d]) 0 b),ak a]⟩) e else False else False
def jd(b:Y)(a:Int):Bool:=decide (0≤a∧a≤1000∧b.size≤1000)
theorem v64(s:Y)(nb:Bool)(w:Int)(dg:Int)(sc:Int)(sg:Bool)(k:Nat)(cap:Nat)(dr:Int)(f:Int)(cr:Bool)(fl:Int)(fm:Int)(nu:Y)(mi:Bool)(d:E)(R:Value→Prop):(jbu Tryz.prog G36 (oneL 0 S64_0.hA) Tryz.f119 [.pointer (some ⟨0,0,some 0⟩),S nu,B mi] (vwF2 (fmL s nb w dg sc sg 1 k cap dr f cr fl fm) d) 2 (fun v _ _=>R v))=(bif jbm d k cap&&decide (k≤1000∧nu.size≤1000∧cn1 (zc d k)≤al nu)then∀a:Int,enV (bz nu) fm (zc d k)=a→(bif au a 0 then e9 (jd (Utf8.encode fl) w) [S (sz (repZ (bz (Utf8.encode fl)) w.toNat)),ak w] R else cu (ay [] d) (b4 (rlbL [] d) 210) (S64_0.toLSpec.pre (mi,(az,((0:Int),(Rw.nil,(k,(cap,(natO k,((0:Int),(s,(nb,(w,(dg,(sc,(sg,(k,(cap,(dr,(f,(cr,(fl,(fm,(nu,(mi,((0:Int),((0:Int),(a,rlbL [] d))))))))))))))))))))))))))) ((Rw.is Rw.nil=false→wrGo f cr (al s) mi a fl (c9 (rlbL [] d) k) (d8 s) (d8 nu) 0 0=([]:F)→Int→Int→Int→(bif b4 (rlbL [] d) 210 then lp dr a False (∀b:Int,sgC dr mi=b→False) (bw [S ByteArray.empty,ak a] R)else False))∧(Int→Int→Int→(∀b:E,∀c:Nat,∀e:Nat,jc6 b c e=true→zc b c=Rw.z Rw.nil++wrGo f cr (al s) mi a fl (c9 (rlbL [] d) k) (d8 s) (d8 nu) 0 0→(bif jax 210 (rlbL [] d) &&b4 b 210 then lp dr a (lq a 36 b c R) (∀g:Int,sgC dr mi=g→lq a g b c R) (e9 (ja6 b 0 c) [S (ja3 b 0 c),ak a] R)else False)))) False)else False):=by kernel_rfl
def wrV(sp:F)(w f:Int)(cr:Bool)(dr fl fm:Int)(ro nu:F)(mi:Bool):F×Int:=
 bif decide (enV nu fm ro<0)then(repZ [fl] w.toNat,w)
 else(bif dr !=0&&decide (enV nu fm ro>0)then(wrGo f cr sp.length mi (enV nu fm ro) fl ro sp nu 0 0).set (enV nu fm ro-1).toNat (bif dr==36 then 36 else sgC dr mi)
  else wrGo f cr sp.length mi (enV nu fm ro) fl ro sp nu 0 0,enV nu fm ro)
def wrR(x:F×Int):Value:= .tuple ⟨[.string (sz x.1),.int .i64 x.2]⟩
def cN:F→Int
 | []=>0
 | r::rs=>(bif r==2 then 0 else 1)+cN rs
theorem jkl:∀l,0≤cN l
 | []=>by simp[cN]
 | r::rs=>by have:=jkl rs;rw[cN];cases r==2<;>simp<;>omega
theorem cn1_cdg:∀l,cn1 l≤cdg l
 | []=>by simp[cn1,cdg]
 | r::rs=>by
  have:=cn1_cdg rs;rw[cn1,cdg];by_cases h1:r=1
  ·subst h1;show 1+_≤1+_;omega
  ·have e:(r==1)=false:=by simpa using h1
   rw[e];cases decide (r=0) || decide (r=1) <;>simp<;>omega
theorem jhi{f:Int}{cr:Bool}{n:Int}{mi:Bool}{ld fl:Int}:∀(rs cs ds:F)(i a:Int),((wrGo f cr n mi ld fl rs cs ds i a).length:Int)=cN rs
 | [],_,_,_,_=>rfl
 | r::rs,cs,ds,i,a=>by
  rw[wrGo,cN];cases r==2
  ·simp only[cond_false,List.length_cons];have:=jhi (f:=f) (cr:=cr) (n:=n) (mi:=mi) (ld:=ld) (fl:=fl) rs cs.tail (bif wrT f cr n r i then ds.tail else ds) (i+1) (a+1);omega
  ·simp only[cond_true];rw[jhi];omega
theorem jh4{ze:Bool}{fm:Int}:∀(ro ds:F)(a:Int),-1≤a→enGo ze fm ro ds a≤a+cN ro
 | [],_,a,h=>by rw[enGo,cN];omega
 | r::rs,ds,a,h=>by
  have h0:=jkl rs;rw[enGo,cN];by_cases h2:r=2
  ·subst h2;have e0:((2:Int)==0)=false:=rfl;have e1:((2:Int)==1)=false:=rfl;have e2:((2:Int)==2)=true:=rfl;rw[e0,e1,e2];simp only[cond_true,cond_false];have:=jh4 (ze:=ze) (fm:=fm) rs ds a h;cases decide (fm>0) || !ze<;>simp<;>omega
  ·have e2:(r==2)=false:=by simpa using h2
   rw[e2];have h1:=jh4 (ze:=ze) (fm:=fm) rs ds (a+1) (by omega);have h3:=jh4 (ze:=ze) (fm:=fm) rs ds.tail (a+1) (by omega);cases r==0
   ·cases r==1
    ·simp only[cond_false];omega
    ·simp only[cond_true,cond_false];cases ds.headD 0 !=48<;>simp<;>omega
   ·simp only[cond_true,cond_false];omega
theorem enV_le{nu:F}{fm:Int}{ro:F}:enV nu fm ro≤cN ro:=by
 rw[enV];have:=jkl ro;have:=jh4 (ze:=(jcj nu [48]).isEmpty) (fm:=fm) ro nu 0 (by omega);cases enOn ro<;>simp<;>omega
theorem enc_fl{fl:Int}(h:fl=32∨fl=42):bz (Utf8.encode fl)=[fl]:=by
 rcases h with rfl | rfl<;>kernel_rfl
theorem w_64(s:Y)(nb:Bool)(w:Int)(dg:Int)(sc:Int)(sg:Bool)(k:Nat)(cap:Nat)(dr:Int)(f:Int)(cr:Bool)(fl:Int)(fm:Int)(nu:Y)(mi:Bool)(d:E)(hR:jbm d k cap=true)(hO:roOK (zc d k)=true)(hD:dgL (bz nu)=true)(hk:k≤1000∧nu.size≤1000∧k≤s.size∧s.size≤1000∧0≤w∧w≤1000)(hc:cdg (zc d k)≤nu.size)(hfl:fl=32∨fl=42)
  {R:Value→Prop} (hV:R (wrR (wrV (bz s) w f cr dr fl fm (zc d k) (bz nu) mi))):
  jdu Tryz.prog G36 (oneL 0 S64_0.hA) Tryz.f119 [.pointer (some ⟨0,0,some 0⟩),.string nu,.bool mi] (vwF2 (fmL s nb w dg sc sg 1 k cap dr f cr fl fm) d) 2 (fun v _ _=>R v):=by
 rw[jdu,v64];delta cu bm l4 aq lp bw e9 ak b5 am a8 bn lq b4 d8 c9 al az ay jd au;have h:=jar.1 hR;have h1:=cn1_cdg (zc d k);have hl:= @enV_le (bz nu) fm (zc d k);have z0:Int.toNat 0=0:=rfl;have hg:(jat [] d&&true&&true&& (jax 210 d&&true))=true:=by rw[h.good];simp[jax,idsL,jal h.plain]
 have hi:(jax 210 d&&true)=true:=by simp[jax,idsL,jal h.plain]
 have sl:((bz s).length:Int)=s.size:=by rw[jav]
 rw[wrV,wrR,sl]at hV;simp only[h.rlb,z0,List.drop_zero];refine c_t (by rw[hR];simp only[Bool.true_and,jae];omega) fun e he=> ?_
 rw[he]at hV hl;have hw:=fun a=> @jhi f cr s.size mi e fl (zc d k) (bz s) (bz nu) 0 a
 have hw:=hw 0;generalize wrGo f cr s.size mi e fl (zc d k) (bz s) (bz nu) 0 0=W at*;apply cond_intro<;>intro q
 ·rw[q,cond_true]at hV;have eb:=enc_fl hfl;have es:(Utf8.encode fl).size=1:=by rw[←jav,eb];rfl
  rw[es,eb];exact c_t (jaa (by omega)) hV
 ·rw[q,cond_false]at hV;refine c_t hg (c_t ?_ ⟨fun _ hn us' at' i'=>c_t hi fun _=>c_t (by simp) ?_,fun us' at' i' od om oc g1 g2=> ?_⟩)
  ·show(Rw.nil.ok&& (jbm d k cap&& (roOK (zc d k) && (dgL (bz nu) &&decide (mi=mi∧(0:Int)≤0∧(0:Int)≤k∧k≤1000∧natO k=k∧k≤s.size∧s.size≤1000∧(0:Int)≤0∧(0:Int)≤0∧(0:Int)≤0∧(0:Int)≤0∧0+cdg ((zc d k).drop (Int.toNat 0))≤nu.size∧((Rw.nil.z.length:Nat):Int)≤0)))))=true;rw[hR,hO,hD,jbx,z0,List.drop_zero];simp only[Bool.true_and,Rw.ok,Rw.z,List.length_nil,jae];exact⟨trivial,by omega,by omega,by omega,trivial,by omega,by omega,by omega,by omega,by omega,by omega,by omega,by omega⟩
  ·rw[hn,List.length_nil]at hw;have e0:decide (e>0)=false:=jad (by omega);rw[e0,Bool.and_false,Bool.and_false,cond_false];rw[e0,Bool.and_false,cond_false,hn]at hV;exact c_t (by simp) hV
  ·have ho:=jaz.1 g1;have hzl:=ja4 ho;rw[g2]at hzl;have g3:zc od om=W:=by rw[g2];rfl
   have hzl:W.length=om:=hzl;have hio:(jax 210 d&& (jax 210 od&&true))=true:=by simp[jax,idsL,jal h.plain,jal ho.plain]
   have hset:∀x:Int,e>0→R (.tuple ⟨[.string (sz (W.set (e-1).toNat x)),.int .i64 e]⟩)→
     (bif decide (0 ≤ IntKind.wrap IntKind.i64 (e-1) ∧ IntKind.wrap IntKind.i64 (e-1)<(↑om : Int)) then
      bif Nat.ble (0+Int.toNat (IntKind.wrap IntKind.i64 (e-1))*1+1) (List.length od)then
       bif ja6 (setL od (0+Int.toNat (IntKind.wrap IntKind.i64 (e-1))*1) [Value.int IntKind.u8 x]) 0 om then
        R (Value.tuple (Array.mk [Value.string (ja3 (setL od (0+Int.toNat (IntKind.wrap IntKind.i64 (e-1))*1) [Value.int IntKind.u8 x]) 0 om),Value.int IntKind.i64 e]))
       else False
      else False
     else False):=fun x h0 hx=>by
    have hb:(W.length:Int)≤1000:=by
     have:=hw
     have h2:cN (zc d k)≤k:=by
      have:∀l:F,cN l≤l.length:=fun l=>by
       induction l with
       | nil=>simp[cN]
       | cons r rs ih=>rw[cN,List.length_cons];cases r==2<;>simp<;>omega
      have:=this (zc d k);rw[ja7 h]at this;exact this
     omega
    rw[w64 (n:=e-1) (by omega)];obtain⟨s1,s2,s4⟩:=ho.set x (i:=(e-1).toNat) (by omega);have s3:=s1.str;rw[s2,g3]at s3;exact c_t (jaa (by omega)) (c_t s4 (c_t s3.1 (by rw[s3.2];exact hx)))
   refine c_t hio fun _=>c_t (by simp) (cond_intro (fun p=> ?_) (fun p=>c_t (by simp) (cond_intro (fun p2=> ?_) (fun p2=> ?_))))
   ·obtain⟨p1,p3⟩:=Bool.and_eq_true_iff.1 p;have pe:dr=36:=by simpa using p1
    have pn:(dr !=0)=true:=by rw[pe];rfl
    rw[pn,p3,p1,Bool.true_and,cond_true,cond_true]at hV;exact hset 36 (jab p3) hV
   ·obtain⟨p1,p3⟩:=Bool.and_eq_true_iff.1 p2
    have pe:(dr==36)=false:=by
     rw[p3,Bool.and_true]at p;exact p
    rw[p1,p3,pe,Bool.true_and,cond_true,cond_false]at hV;have hX:∀e_1:Int,sgC dr mi=e_1→_:=fun e_1 h1=>hset e_1 (jab p3) (by rw[←h1];exact hV)
    repeat' (first | exact hX | apply And.intro)
   ·rw[p2,cond_false]at hV;have s3:=ho.str;rw[g3]at s3;exact c_t s3.1 (by rw[s3.2];exact hV)
def w64C(s nu:Y)(k cap:Nat)(w fl:Int)(d:E):Bool:=jbm d k cap&& (roOK (zc d k) && (dgL (bz nu) &&decide ((k≤1000∧nu.size≤1000∧k≤s.size∧s.size≤1000∧0≤w∧w≤1000)∧cdg (zc d k)≤nu.size∧(fl=32∨fl=42))))
def h64:E→Lk→Nat→(Value→Lk→Nat→Prop)→Prop:=fun args m n K=>match args with
 | [.pointer (some ⟨a,0,some 0⟩),.string nu,.bool mi]=>match m a with
  | some ⟨[.string s,.bool nb,.int .i64 w,.int .i64 dg,.int .i64 sc,.bool sg,.slice (some ⟨y,0,some 1⟩) k cap,.int .u8 dr,.int .i64 f,.bool cr,.int .u8 fl,.int .i64 fm],119,own⟩=>match m y with
   | some ⟨d,197,own2⟩=>match cnd (w64C s nu k cap w fl d)with
    | true=>∀(t:Y)(l:Int),sz (wrV (bz s) w f cr dr fl fm (zc d k) (bz nu) mi).1=t→(wrV (bz s) w f cr dr fl fm (zc d k) (bz nu) mi).2=l→K (.tuple ⟨[.string t,.int .i64 l]⟩) m n
    | false=>False
   | _=>False
  | _=>False
 | _=>False
theorem h64_ok:jdt Tryz.prog 119 h64:=by
 refine jh0 ok_G36 hmix fn64 lok64 fun args m n K h=> ?_
 unfold h64 at h;split at h
 case h_2=>exact h.elim
 rename_i a nu mi;split at h
 case h_2=>exact h.elim
 rename_i s nb w dg sc sg y k cap dr f cr fl fm own hm;split at h
 case h_2=>exact h.elim
 rename_i d own2 hy;split at h
 case h_2=>exact h.elim
 rename_i hc;simp only[cnd,w64C,jaf,jae]at hc;obtain⟨h1,h2,h3,h4,h5,h6⟩:=hc
 refine⟨[.pointer (some ⟨0,0,some 0⟩),.string nu,.bool mi],_,2,rho2 a y,wrR (wrV (bz s) w f cr dr fl fm (zc d k) (bz nu) mi),sub_F2 (jar.1 h1).plain hm hy,fun ι=>by simp[ren,ren1,rho2],jag,fun v hv j hj=> ?_,rfl,
  w_64 s nb w dg sc sg k cap dr f cr fl fm nu mi d h1 h2 h3 h4 h5 h6 (R:=fun v=>v=wrR (wrV (bz s) w f cr dr fl fm (zc d k) (bz nu) mi)) rfl,h _ _ rfl rfl⟩
 simp at hv;rcases hv with rfl | rfl | rfl
 ·have:j=0:=by simpa[ids]using hj
  omega
 ·simp[ids]at hj
 ·simp[ids]at hj
def G37:Env:=Env.nil.add 154 (sp1 s28)
theorem ok_G37:jap Tryz.prog G37:=jak ja5 ok28
end Go.Px
end
noncomputable section
namespace Go.Px
open Go Go.Ab Go.Proofs Go.Shelf
theorem jgs{ze:Bool}{fm:Int}:∀(rs:F)(ds:F)(a:Int),okR rs→0≤a→(decide (fm>0) || !ze)=true→
  enGo ze fm rs ds a=jfs (rs.map rmk) ds a∨(enGo ze fm rs ds a= -1∧0∉rs∧ ∀c∈ds.take (cn1 rs).toNat,c=48)
 | [],ds,a,_,_,_=> .inr ⟨rfl,by simp,by simp[cn1]⟩
 | r::rs,ds,a,hok,ha,hz=>by
  have hok':okR rs:=fun x hx=>hok x (List.mem_cons_of_mem _ hx)
  have h0:=jjs rs;rw[enGo,List.map_cons,jfs];rcases jcf (hok r List.mem_cons_self)with rfl | rfl | rfl | rfl | rfl | rfl
  ·exact .inl rfl
  ·show(bif ds.headD 0 !=48 then a else enGo ze fm rs ds.tail (a+1))=(bif ds.headD 0 !=48 then a else jfs (rs.map rmk) ds.tail (a+1))∨((bif ds.headD 0 !=48 then a else enGo ze fm rs ds.tail (a+1))= -1∧_∧ ∀c∈ds.take (1+cn1 rs).toNat,c=48)
   cases hd:ds.headD 0 !=48 with
   | true=>exact .inl rfl
   | false=>
    simp only[cond_false];rcases jgs rs ds.tail (a+1) hok' (by omega) hz with h | ⟨h1,h2,h3⟩
    ·exact .inl h
    ·refine .inr ⟨h1,by simpa using h2,fun c hc=> ?_⟩;have e:(1+cn1 rs).toNat=(cn1 rs).toNat+1:=by omega
     rw[e]at hc;cases ds with
     | nil=>simp at hc
     | cons x xs=>
      rw[List.take_succ_cons]at hc;rcases List.mem_cons.1 hc with rfl | hc
      ·simpa using hd
      ·exact h3 c hc
  ·show(bif decide (fm>0) || !ze then a else enGo ze fm rs ds a)=a∨_;rw[hz];exact .inl rfl
  ·rcases jgs rs ds (a+1) hok' (by omega) hz with h | ⟨h1,h2,h3⟩
   ·exact .inl h
   ·exact .inr ⟨h1,by simpa using h2,by simpa[cn1]using h3⟩
  ·rcases jgs rs ds (a+1) hok' (by omega) hz with h | ⟨h1,h2,h3⟩
   ·exact .inl h
   ·exact .inr ⟨h1,by simpa using h2,by simpa[cn1]using h3⟩
  ·rcases jgs rs ds (a+1) hok' (by omega) hz with h | ⟨h1,h2,h3⟩
   ·exact .inl h
   ·exact .inr ⟨h1,by simpa using h2,by simpa[cn1]using h3⟩
theorem jff{fm:Int}(hf:decide (fm>0)=false):∀(rs:F)(ds:F)(a:Int),okR rs→0∉rs→(∀c∈ds,c=48)→cn1 rs≤ds.length→enGo true fm rs ds a= -1
 | [],_,_,_,_,_,_=>rfl
 | r::rs,ds,a,hok,hr,hd,hl=>by
  have hok':okR rs:=fun x hx=>hok x (List.mem_cons_of_mem _ hx)
  have hr':0∉rs:=fun h=>hr (List.mem_cons_of_mem _ h)
  rw[cn1]at hl;have h0:=jjs rs;rw[enGo];rcases jcf (hok r List.mem_cons_self)with rfl | rfl | rfl | rfl | rfl | rfl
  ·exact absurd List.mem_cons_self hr
  ·have hl:1+cn1 rs≤ds.length:=hl;cases ds with
   | nil=>simp at hl;omega
   | cons x xs=>
    have:x=48:=hd x List.mem_cons_self;subst this;exact jff hf rs xs (a+1) hok' hr' (fun c hc=>hd c (List.mem_cons_of_mem _ hc)) (by simp at hl;omega)
  ·show(bif decide (fm>0) || !true then a else enGo true fm rs ds a)= -1;rw[hf];exact jff hf rs ds a hok' hr' hd (by simpa using hl)
  ·exact jff hf rs ds (a+1) hok' hr' hd (by simpa using hl)
  ·exact jff hf rs ds (a+1) hok' hr' hd (by simpa using hl)
  ·exact jff hf rs ds (a+1) hok' hr' hd (by simpa using hl)
theorem jkf:∀(rs:F),okR rs→(∀bh pt dg,(ldGo (rs.map rmk) false bh pt dg).1=true→enOn rs=hasZ (rs.map rmk) 99)
 | [],_,_,_,_,_=>rfl
 | r::rs,hok,bh,pt,dg,h=>by
  have hok':okR rs:=fun x hx=>hok x (List.mem_cons_of_mem _ hx)
  rw[List.map_cons,ldGo]at h;rw[enOn,List.map_cons,jfz];rcases jcf (hok r List.mem_cons_self)with rfl | rfl | rfl | rfl | rfl | rfl
  ·show false=(false || hasZ (rs.map rmk) 99)
   rw[Bool.false_or];cases hq:hasZ (rs.map rmk) 99 with
   | false=>rfl
   | true=>
    have h:(ldGo (rs.map rmk) true bh pt (dg+1)).1=true:=h;rw[jgl _ _ _ _ (jba.1 hq)]at h;cases h
  ·rfl
  ·exact(jkf rs hok' _ _ _ h).trans (Bool.false_or _).symm
  ·exact(jkf rs hok' _ _ _ h).trans (Bool.false_or _).symm
  ·exact(jkf rs hok' _ _ _ h).trans (Bool.false_or _).symm
  ·exact(jkf rs hok' _ _ _ h).trans (Bool.false_or _).symm
theorem cdg_pd:∀(rs:F),okR rs→cdg rs=pdGo (rs.map rmk)
 | [],_=>rfl
 | r::rs,hok=>by
  have hok':okR rs:=fun x hx=>hok x (List.mem_cons_of_mem _ hx)
  rw[cdg,List.map_cons,pdGo,cdg_pd rs hok'];rcases jcf (hok r List.mem_cons_self)with rfl | rfl | rfl | rfl | rfl | rfl<;>rfl
theorem jfi:∀(rs:F),0∉rs→cn1 rs=cdg rs
 | [],_=>rfl
 | r::rs,h=>by
  have h1:r≠0:=fun e=>h (by rw[e];exact List.mem_cons_self)
  rw[cn1,cdg,jfi rs fun q=>h (List.mem_cons_of_mem _ q),jad h1,Bool.false_or];by_cases e:r=1
  ·subst e;rfl
  ·rw[jad e];have:(r==1)=false:=by simpa using e
   rw[this]
theorem has_100:∀(rs:F),okR rs→hasZ (rs.map rmk) 100=decide (0∈rs)
 | [],_=>rfl
 | r::rs,hok=>by
  have hok':okR rs:=fun x hx=>hok x (List.mem_cons_of_mem _ hx)
  rw[List.map_cons,jfz,has_100 rs hok'];rcases jcf (hok r List.mem_cons_self)with rfl | rfl | rfl | rfl | rfl | rfl<;>simp[rmk]
theorem jip:∀(a:F)(fm bh pt:Bool)(dg:Int),(ldGo (a++ [115,115]) fm bh pt dg).1=(ldGo a fm bh pt dg).1
 | [],_,_,_,_=>rfl
 | m::r,fm,bh,pt,dg=>by
  rw[List.cons_append,ldGo,ldGo];cases m==118
  ·cases m==100
   ·cases m==99
    ·exact jip r _ _ _ _
    ·cases fm
     ·exact jip r _ _ _ _
     ·rfl
   ·exact jip r _ _ _ _
  ·exact jip r _ _ _ _
theorem cnt_has{l:F}{c:Int}:decide ((cntZ l c:Int)>0)=hasZ l c:=by
 rw[Bool.eq_iff_iff,jae,jba]
 induction l with
 | nil=>simp[cntZ]
 | cons x l ih=>
  rw[jcp];by_cases e:x=c
  ·subst e;simp;omega
  ·rw[if_neg e,Int.zero_add,ih];simp[Ne.symm e]
theorem rep48p:∀{l:F}{k:Nat},l.length=k→(l=rep1 48 k↔ ∀c∈l,c=48)
 | l,k,h=>by
  rw[rep1,List.eq_replicate_iff];exact⟨fun q=>q.2,fun q=>⟨h,q⟩⟩
theorem jge{l:F}(hl:IsB (pS l)∧(pS l).length≤32)(h:pN l=true):okR (rolF (pS l))∧(rolF (pS l)).map rmk=ja1 (pS l)∧cdg (rolF (pS l))=pD l∧enOn (rolF (pS l))=hasZ (ja1 (pS l)) 99∧
  decide ((cntZ (mkGo (drZ (jaj (pS l))) false (jaj (pS l))) 100:Int)>0)=hasZ (ja1 (pS l)) 100∧hasZ (ja1 (pS l)) 100=decide (0∈rolF (pS l))∧(hasZ (ja1 (pS l)) 99=true→pW l>0):=by
 obtain⟨h1,h2,h3⟩:=jew h;have hv:=jdv h;have hS:pS l=exZ l:=by rw[pS,if_pos hv]
 have hnp:=jgf h;obtain⟨_,_,p3,_⟩:=jkz hl h 0;have hW:pW l=(pS l).length-cntZ (pS l) 86:=by rw[pW,if_pos hv,hnp.nch,hS];rfl
 refine⟨h2,h3,by rw[cdg_pd _ h2,h3,p3],?_,?_,by rw[←h3,has_100 _ h2],fun h9=> ?_⟩
 ·have hld:=hnp.ld;rw[←hS]at hld;unfold jfm at hld
  have hL:(ldGo (mkGo (drZ (jaj (pS l))) false (jaj (pS l))) false false false 0).1=true:=by
   revert hld;cases hasZ (jaj (pS l)) 90&&hasZ (jaj (pS l)) 42
   ·cases(hasZ (jaj (pS l)) 90 || hasZ (jaj (pS l)) 42) &&drZ (jaj (pS l)) !=0
    ·intro q;have q:((ldGo (mkGo (drZ (jaj (pS l))) false (jaj (pS l))) false false false 0).1&&_)=true:=q;exact(Bool.and_eq_true_iff.1 q).1
    ·intro q;cases q
   ·intro q;cases q
  have hL2:(ldGo (ja1 (pS l)) false false false 0).1=true:=by
   unfold ja1;split
   ·rw[jip];exact hL
   ·rw[List.append_nil];exact hL
  rw[←h3]at hL2 ⊢;exact jkf _ h2 _ _ _ hL2
 ·rw[cnt_has,ja1]
  have:∀a:F,hasZ (a++(if crZ (pS l)=true then [115,115]else [])) 100=hasZ a 100:=fun a=>by
   split<;>simp[hasZ]
  rw[this]
 ·have hm:=jfx (pS l)
  have:0<nv (ja1 (pS l)):=by
   have:=jba.1 h9;unfold nv;exact List.length_pos_of_mem (List.mem_filter.2 ⟨this,by decide⟩)
  omega
theorem dig_zero{n:Int}{k:Nat}(hn:(n.natAbs:Int)<tenZ k):(∀c∈digZ n.natAbs k,c=48)↔n=0:=by
 have h1:=jfh k n.natAbs;have h2:=all48 h1;have h3:=dval_dig k n.natAbs (by omega);rw[Int.emod_eq_of_lt (by omega) hn]at h3;rw[h3]at h2
 have:(∀c∈digZ n.natAbs k,c=48)↔(∀c∈digZ n.natAbs k,hasZ [48] c=true):=
  ⟨fun q c hc=>by rw[q c hc];rfl,fun q c hc=>by have:=jba.1 (q c hc);simpa using this⟩
 rw[this,h2];omega
theorem en_law{l:F}(hl:IsB (pS l)∧(pS l).length≤32)(h:pN l=true){n:Int}(hn:(n.natAbs:Int)<tenZ (pD l).toNat):
  enV (digZ n.natAbs (pD l).toNat) (cntZ (mkGo (drZ (jaj (pS l))) false (jaj (pS l))) 100) (rolF (pS l))=(bif fdBl (pS l) (pW l) (pD l).toNat n then -1 else fdLe (pS l) (pW l) (pD l).toNat n)∧
  (fdBl (pS l) (pW l) (pD l).toNat n=true→fdLe (pS l) (pW l) (pD l).toNat n=pW l):=by
 obtain⟨f1,f2,f3,f4,f5,f6,f7⟩:=jge hl h;have hz:=dig_zero hn;have hlen:=jf3 (pD l).toNat n.natAbs;have hp:=jjk h
 have hze:(jcj (digZ n.natAbs (pD l).toNat) [48]).isEmpty=decide (n=0):=by
  rw[Bool.eq_iff_iff,List.isEmpty_iff,trim_nil,jae,←hz];exact⟨fun q c hc=>by have:=jba.1 (q c hc);simpa using this,fun q c hc=>by rw[q c hc];rfl⟩
 rw[enV,f4,hze,fdBl,fdLe,endZ]
 have hrep:decide (digZ n.natAbs (pD l).toNat=rep1 48 (pD l).toNat)=decide (n=0):=by
  rw[Bool.eq_iff_iff,jae,jae,rep48p hlen,hz]
 rw[hrep];generalize hds:digZ n.natAbs (pD l).toNat=ds at*;cases h9:hasZ (ja1 (pS l)) 99 with
 | false=>exact⟨rfl,fun q=>by cases q⟩
 | true=>
  have hW:=f7 h9;have e0:(n==0)=decide (n=0):=by rw[Bool.eq_iff_iff];simp
  rw[e0];simp only[Bool.not_true,cond_false,cond_true];cases hq:(!hasZ (ja1 (pS l)) 100&&decide (n=0))with
  | true=>
   obtain⟨q1,q2⟩:=Bool.and_eq_true_iff.1 hq;rw[q1,q2];have q0:hasZ (ja1 (pS l)) 100=false:=by simpa using q1
   rw[q0]at f5 f6;have h0:0∉rolF (pS l):=jac f6.symm;have hcn:=jfi _ h0;rw[jff f5 _ _ _ f1 h0 (hz.2 (jab q2)) (by omega)];simp[hW]
  | false=>
   have hst:(decide ((cntZ (mkGo (drZ (jaj (pS l))) false (jaj (pS l))) 100:Int)>0) || !decide (n=0))=true:=by
    rw[f5];cases q1:hasZ (ja1 (pS l)) 100 with
    | true=>rfl
    | false=>
     rw[q1]at hq;have:decide (n=0)=false:=by simpa using hq
     rw[this];rfl
   have hB:(decide ((bif false then pW l else jfs (ja1 (pS l)) ds 0)>0) && ((bif false then pW l else jfs (ja1 (pS l)) ds 0)==pW l&& (decide (n=0) && !hasZ (ja1 (pS l)) 100)))=false:=by
    rw[Bool.and_comm (decide (n=0)),hq,Bool.and_false,Bool.and_false]
   rw[hB];refine⟨?_,fun q=>by cases q⟩;rcases jgs (rolF (pS l)) ds 0 f1 (by omega) hst with q | ⟨q1,q2,q3⟩
   ·rw[q,f2];rfl
   ·exfalso;have hcn:=jfi _ q2;rw[f6,jad q2]at f5;rw[f5,Bool.false_or]at hst;have hn0:n≠0:=by simpa using hst
    refine hn0 (hz.1 fun c hc=>q3 c ?_);rw[hcn,f3,List.take_of_length_le (by omega)];exact hc
theorem ro_cases{b pre r:F}{c d f:Int}(h:DrP b d f)(hb:b=pre++c::r):
  ((pre.length:Int)=f∧c=d∧d≠0∧(roP d f c pre.length=4∨roP d f c pre.length=5))∨
  ((pre.length : Int) ≠ f ∧ (roP d f c pre.length = 0 ∨ roP d f c pre.length = 1 ∨ roP d f c pre.length = 2 ∨ roP d f c pre.length = 3 ∨
   (c≠d∧(roP d f c pre.length=4∧(c=83∨c=43∨c=45)∨roP d f c pre.length=5∧c=36)))):=by
 have he:=h.eq hb;have hc0:=h.zero c (by rw[hb];simp);by_cases hf:(pre.length:Int)=f
 ·obtain⟨h1,h2⟩:=he.2.1 hf;have hd:d≠0:=by rw[←h1];exact hc0
  refine .inl ⟨hf,h1,hd,?_⟩
  have hm:d=36∨d=83∨d=43∨d=45:=by
   rcases h.at_ with⟨q,_⟩ | ⟨_,_,_,q⟩
   ·exact absurd q hd
   ·simpa using q
  have hne:((pre.length:Int) !=f)=false:=by simpa using hf
  unfold roP;rw[hne,h1];rcases hm with rfl | rfl | rfl | rfl<;>simp[hasZ]
 ·refine .inr ⟨hf,?_⟩;have hne:((pre.length:Int) !=f)=true:=by simpa using hf
  unfold roP;rw[hne,Bool.and_true];cases q1:hasZ [57,89,84,73,82] c with
  | true=>exact .inl rfl
  | false=>
   cases q2:(c==90 || (c==42 || c==d))with
   | true=>exact .inr (.inl rfl)
   | false=>
    have hcd:c≠d:=fun e=>by rw[e]at q2;simp at q2
    cases q3:c==86 with
    | true=>exact .inr (.inr (.inl rfl))
    | false=>
     cases q4:c==36 with
     | true=>exact .inr (.inr (.inr (.inr ⟨hcd,.inr ⟨rfl,by simpa using q4⟩⟩)))
     | false=>
      cases q5:(c==83 || (c==43 || c==45))with
      | true=>exact .inr (.inr (.inr (.inr ⟨hcd,.inl ⟨rfl,by simpa using q5⟩⟩)))
      | false=>exact .inr (.inr (.inr (.inl rfl)))
theorem sg_eq{c:Int}{m:Bool}(h:c=83∨c=43∨c=45):sgC c m=sgZ c m:=by
 rcases h with rfl | rfl | rfl<;>cases m<;>rfl
theorem wr_body{b t:F}{d f n ld fl dr':Int}{cr mi:Bool}(h:DrP b d f)(hdr:d≠0→dr'=d∧fl=32)(hdr0:d=0→dr'=0)(hn:n=b.length+(bif cr then 2 else 0)):
  ∀(r pre ds:F)(a:Int)(X:F→F→Int→F)(rs' ms':F),b=pre++r→
   (∀ds a,wrGo f cr n mi ld fl rs' t ds b.length a=fdGo ld fl dr' mi ms' t ds a)→
   wrGo f cr n mi ld fl (ja8 d f r pre.length++rs') (r++t) ds pre.length a=fdGo ld fl dr' mi ((ja8 d f r pre.length).map rmk++ms') (r++t) ds a
 | [],pre,ds,a,X,rs',ms',hb,ht=>by
  rw[List.append_nil]at hb;rw[←hb];exact ht ds a
 | c::r,pre,ds,a,X,rs',ms',hb,ht=>by
  have ih:=fun ds a=>wr_body h hdr hdr0 hn r (pre++ [c]) ds a X rs' ms' (by rw[hb];simp) ht
  have e:((pre++ [c]).length:Int)=pre.length+1:=by simp
  rw[e]at ih
  have hcr:(cr&&decide ((pre.length:Int)≥n-2))=false:=by
   cases cr with
   | false=>rfl
   | true=>
    have:(b.length:Int)=pre.length+(r.length+1):=by rw[hb];simp
    rw[Bool.true_and,decide_eq_false_iff_not];simp only[cond_true]at hn;omega
  rw[ja8,List.cons_append,List.cons_append,List.map_cons,List.cons_append,wrGo,fdGo];simp only[List.headD_cons,List.tail_cons];rcases ro_cases h hb with⟨h1,h2,h3,h4⟩ | ⟨h1,h4⟩
  ·obtain⟨g1,g2⟩:=hdr h3;have hf:((pre.length:Int)==f)=true:=by simpa using h1
   have e1:wrC f cr n mi ld fl (roP d f c pre.length) c (ds.headD 0) pre.length a=32:=by rw[wrC,hf,cond_true,g2]
   have e2:wrT f cr n (roP d f c pre.length) pre.length=false:=by rw[wrT,hf];rfl
   have e3:ssZ c dr' mi=32:=by
    rw[ssZ,g1,h2];have:(d !=0&&d==d)=true:=by simp[h3]
    rw[this];rfl
   rw[e1,e2,e3,ih,ih];rcases h4 with h4 | h4<;>rw[h4] <;>rfl
  ·have hf:((pre.length:Int)==f)=false:=by simpa using h1
   rcases h4 with h4 | h4 | h4 | h4 | ⟨h5,h4⟩
   ·rw[h4];have e1:wrC f cr n mi ld fl 0 c (ds.headD 0) pre.length a=fmZ c (ds.headD 0) mi:=by rw[wrC,hf,hcr];rfl
    have e2:wrT f cr n 0 pre.length=true:=by rw[wrT,hf,hcr];rfl
    rw[e1,e2,ih,ih];rfl
   ·rw[h4];have e1:wrC f cr n mi ld fl 1 c (ds.headD 0) pre.length a=bif decide (a<ld)then fl else ds.headD 0:=by rw[wrC,hf,hcr];rfl
    have e2:wrT f cr n 1 pre.length=true:=by rw[wrT,hf,hcr];rfl
    rw[e1,e2,ih,ih];rfl
   ·rw[h4,ih];rfl
   ·rw[h4];have e1:wrC f cr n mi ld fl 3 c (ds.headD 0) pre.length a=bif c==66 then 32 else bif decide (a<ld)then fl else c:=by rw[wrC,hf,hcr];rfl
    have e2:wrT f cr n 3 pre.length=false:=by rw[wrT,hf,hcr];rfl
    rw[e1,e2,ih,ih];rfl
   ·have hss:ssZ c dr' mi=bif hasZ [67,82,68,66] c then(bif mi then c else 32)else sgZ c mi:=by
     have:(dr' !=0&&c==dr')=false:=by
      by_cases hd:d=0
      ·rw[hdr0 hd];rfl
      ·rw[(hdr hd).1];have:(c==d)=false:=by simpa using h5
       rw[this,Bool.and_false]
     rw[ssZ,this];rfl
    rcases h4 with⟨h4,h6⟩ | ⟨h4,h6⟩
    ·rw[h4];have e1:wrC f cr n mi ld fl 4 c (ds.headD 0) pre.length a=sgC c mi:=by rw[wrC,hf,hcr];rfl
     have e2:wrT f cr n 4 pre.length=false:=by rw[wrT,hf,hcr];rfl
     have e3:ssZ c dr' mi=sgC c mi:=by
      rw[hss,sg_eq h6];rcases h6 with rfl | rfl | rfl<;>rfl
     rw[e1,e2,ih,ih,←e3];rfl
    ·rw[h4];have e1:wrC f cr n mi ld fl 5 c (ds.headD 0) pre.length a=c:=by rw[wrC,hf,hcr];rfl
     have e2:wrT f cr n 5 pre.length=false:=by rw[wrT,hf,hcr];rfl
     have e3:ssZ c dr' mi=c:=by rw[hss,h6];rfl
     rw[e1,e2,ih,ih];show c::_=(ssZ c dr' mi::_)
     rw[e3];rfl
theorem mk_99a{d:Int}(hd:d≠0)(h4:d∈ [36,83,43,(45:Int)]):∀r:F,d∈r→99∈mkGo d true r
 | c::r,h=>by
  rw[mkGo];have hs:∀y:Bool,mkGo d (true || y) r=mkGo d true r:=fun y=>by rw[Bool.true_or]
  rw[hs];rcases List.mem_cons.1 h with e | h
  ·subst e
   have:mk1 d true d=99:=by
    have:d=36∨d=83∨d=43∨d=45:=by simpa using h4
    rcases this with rfl | rfl | rfl | rfl<;>rfl
   rw[this];exact List.mem_cons_self
  ·exact List.mem_cons_of_mem _ (mk_99a hd h4 r h)
theorem mk_99{d:Int}(hd:d≠0)(h4:d∈ [36,83,43,(45:Int)]):∀(r:F)(seen:Bool),¬(cntZ r d:Int)<2→99∈mkGo d seen r
 | [],_,h=>by simp[cntZ]at h
 | c::r,seen,h=>by
  rw[mkGo];rw[jcp]at h;by_cases e:c=d
  ·subst e;rw[if_pos rfl]at h
   have hs:(seen || (c !=0&&c==c))=true:=by
    have:(c !=0)=true:=by simpa using hd
    rw[this];simp
   rw[hs];refine List.mem_cons_of_mem _ (mk_99a hd h4 r ?_);have:(cntZ r c:Int)>0:=by omega
   exact jba.1 (cnt_has.symm.trans (jaa this))
  ·rw[if_neg e]at h;exact List.mem_cons_of_mem _ (mk_99 hd h4 r _ (by omega))
theorem wr_2(f n:Int)(mi:Bool)(ld fl x y:Int)(ds:F)(i a:Int):∃D,wrGo f true n mi ld fl [4,4] [x,y] ds i a=[wrC f true n mi ld fl 4 x (ds.headD 0) i a,wrC f true n mi ld fl 4 y D (i+1) (a+1)]:=⟨_,rfl⟩
theorem fd_2(le fl dr:Int)(mi:Bool)(x y:Int)(ds:F)(a:Int):fdGo le fl dr mi [115,115] [x,y] ds a=[ssZ x dr mi,ssZ y dr mi]:=rfl
theorem rep_one(c:Int):∀k:Nat,repZ [c] k=rep1 c k
 | 0=>rfl
 | k+1=>by rw[repZ,rep_one c k];rfl
theorem dr_facts{s:F}(h:NumP s):(drZ (jaj s)≠0→fdDr s=drZ (jaj s)∧fdFl s=32)∧(drZ (jaj s)=0→fdDr s=0):=by
 have e:=dr_body s;constructor
 ·intro hd;have hld:=h.ld;unfold jfm at hld
  have h1:((hasZ (jaj s) 90 || hasZ (jaj s) 42) &&drZ (jaj s) !=0)=false:=by
   revert hld;cases hasZ (jaj s) 90&&hasZ (jaj s) 42
   ·cases(hasZ (jaj s) 90 || hasZ (jaj s) 42) &&drZ (jaj s) !=0
    ·exact fun _=>rfl
    ·intro q;cases q
   ·intro q;cases q
  have hdn:(drZ (jaj s) !=0)=true:=by simpa using hd
  rw[hdn,Bool.and_true,Bool.or_eq_false_iff]at h1;obtain⟨t,ht,hc⟩:=jdr s
  have ha:∀c:Int,(c=90∨c=42)→hasZ (jaj s) c=false→hasZ s c=false:=fun c h0 h1=>by
   have:hasZ s c=hasZ (jaj s++t) c:=congrArg (hasZ · c) ht;rw[this];unfold hasZ at h1 ⊢;rw[List.any_append,h1,Bool.false_or];rcases hc with⟨rfl,_⟩ | ⟨rfl | rfl,_⟩ <;>rcases h0 with rfl | rfl<;>rfl
  have a1:=ha 90 (.inl rfl) h1.1;have a2:=ha 42 (.inr rfl) h1.2;obtain⟨f1,f2⟩:=(je2 (jaj s) (jaj s)).resolve_left hd;obtain⟨f3,f4⟩:=jfd f1
  have h9:hasZ (ja1 s) 99=true:=jba.2 (by
   unfold ja1;exact List.mem_append_left _ (mk_99 hd f3 _ _ f4))
  rw[fdDr,fdFl,a1,a2,h9,e];exact⟨rfl,rfl⟩
 ·intro hd;rw[fdDr,e,hd];cases !hasZ s 90&& (!hasZ s 42&&hasZ (ja1 s) 99) <;>rfl
theorem fdLe_nn{sp:F}{w:Int}{k:Nat}{n:Int}(hw:0≤w):0≤fdLe sp w k n:=by
 rw[fdLe,endZ];have:=(jjq (ja1 sp) (digZ n.natAbs k) 0).1;cases !hasZ (ja1 sp) 99
 ·cases !hasZ (ja1 sp) 100&&decide (digZ n.natAbs k=rep1 48 k)
  ·exact this
  ·exact hw
 ·exact Int.le_refl 0
theorem out_law{l:F}(h:pN l=true)(ds:F)(ld:Int)(mi:Bool):
  wrGo (nD (jaj (pS l))).2.2 (crZ (pS l)) (pS l).length mi ld (fdFl (pS l)) (rolF (pS l)) (pS l) ds 0 0=fdGo ld (fdFl (pS l)) (fdDr (pS l)) mi (ja1 (pS l)) (pS l) ds 0:=by
 obtain⟨h1,h2,h3⟩:=jew h;have hv:=jdv h;have hS:pS l=exZ l:=by rw[pS,if_pos hv]
 have hnp:NumP (pS l):=by rw[hS];exact jgf h
 obtain⟨d1,d2⟩:=dr_facts hnp;obtain⟨t,ht,hc⟩:=jdr (pS l);have hP:=h1.drP
 have hfl:(nD (jaj (pS l))).2.2<(jaj (pS l)).length:=by
  rcases hP.at_ with⟨_,q⟩ | ⟨_,q1,q2,_⟩
  ·rw[q];omega
  ·rw[q2];exact(jeo _ q1).2
 have hdr':fdDr (pS l)≠67∧fdDr (pS l)≠82∧fdDr (pS l)≠68∧fdDr (pS l)≠66:=by
  by_cases q:drZ (jaj (pS l))=0
  ·rw[d2 q];decide
  ·rw[(d1 q).1];rcases hP.at_ with⟨q1,_⟩ | ⟨_,_,_,q4⟩
   ·exact absurd q1 q
   ·have:drZ (jaj (pS l))=36∨drZ (jaj (pS l))=83∨drZ (jaj (pS l))=43∨drZ (jaj (pS l))=45:=by simpa using q4
    omega
 have hlen:((pS l).length:Int)=(jaj (pS l)).length+(bif crZ (pS l)then 2 else 0):=by
  have:=congrArg List.length ht;rw[List.length_append]at this;rcases hc with⟨rfl,hc⟩ | ⟨rfl | rfl,hc⟩ <;>rw[hc] <;>simp at this ⊢ <;>omega
 have hrol:rolF (pS l)=ja8 (drZ (jaj (pS l))) (nD (jaj (pS l))).2.2 (jaj (pS l)) 0++(bif crZ (pS l)then [4,4]else []):=by
  rw[rolF,nR,h1.d]
 have hmk:ja1 (pS l)=(ja8 (drZ (jaj (pS l))) (nD (jaj (pS l))).2.2 (jaj (pS l)) 0).map rmk++(bif crZ (pS l)then [115,115]else []):=by
  rw[←h3,hrol,List.map_append];congr 1;cases crZ (pS l) <;>rfl
 have key:=wr_body (t:=t) (n:=(pS l).length) (ld:=ld) (mi:=mi) hP d1 d2 hlen (jaj (pS l)) [] ds 0 (fun _ _ _=> []) (bif crZ (pS l)then [4,4]else []) (bif crZ (pS l)then [115,115]else []) rfl
 have key:=key fun ds a=>by
  rcases hc with⟨rfl,hc⟩ | ⟨ht',hc⟩
  ·rw[hc];rfl
  ·rw[hc]at hlen;simp only[cond_true]at hlen;have f1:(((jaj (pS l)).length:Int)==(nD (jaj (pS l))).2.2)=false:=by simp;omega
   have f2:(((jaj (pS l)).length:Int)+1==(nD (jaj (pS l))).2.2)=false:=by simp;omega
   have g1:(true&&decide (((jaj (pS l)).length:Int)≥((pS l).length:Int)-2))=true:=by simp;omega
   have g2:(true&&decide (((jaj (pS l)).length:Int)+1≥((pS l).length:Int)-2))=true:=by simp;omega
   have ss:∀c:Int,c=67∨c=82∨c=68∨c=66→ssZ c (fdDr (pS l)) mi=bif !mi then 32 else c:=fun c hcc=>by
    have:(fdDr (pS l) !=0&&c==fdDr (pS l))=false:=by
     have:(c==fdDr (pS l))=false:=by simp;omega
     rw[this,Bool.and_false]
    rw[ssZ,this];have h5:hasZ [67,82,68,66] c=true:=by rcases hcc with rfl | rfl | rfl | rfl<;>rfl
    rw[h5];cases mi<;>rfl
   have wc:∀(r c d a:Int)(i:Int),(i==(nD (jaj (pS l))).2.2)=false→(true&&decide (i≥((pS l).length:Int)-2))=true→wrC (nD (jaj (pS l))).2.2 true (pS l).length mi ld (fdFl (pS l)) r c d i a=bif !mi then 32 else c:=fun r c d a i q1 q2=>by
    rw[wrC,q1,q2];rfl
   rw[hc];simp only[cond_true];rcases ht' with rfl | rfl
   ·obtain⟨D,e⟩:=wr_2 (nD (jaj (pS l))).2.2 (pS l).length mi ld (fdFl (pS l)) 67 82 ds (jaj (pS l)).length a;rw[e,fd_2,wc _ _ _ _ _ f1 g1,wc _ _ _ _ _ f2 g2,ss 67 (by decide),ss 82 (by decide)]
   ·obtain⟨D,e⟩:=wr_2 (nD (jaj (pS l))).2.2 (pS l).length mi ld (fdFl (pS l)) 68 66 ds (jaj (pS l)).length a;rw[e,fd_2,wc _ _ _ _ _ f1 g1,wc _ _ _ _ _ f2 g2,ss 68 (by decide),ss 66 (by decide)]
 rw[hrol,hmk];have e0:((([]:F).length:Nat):Int)=0:=rfl;rw[e0,←ht]at key;exact key
theorem wr_law{l:F}(hl:IsB (pS l)∧(pS l).length≤32)(h:pN l=true){n:Int}(hn:(n.natAbs:Int)<tenZ (pD l).toNat):
  wrV (pS l) (pW l) (nD (jaj (pS l))).2.2 (crZ (pS l)) (drZ (jaj (pS l))) (fdFl (pS l)) (cntZ (mkGo (drZ (jaj (pS l))) false (jaj (pS l))) 100) (rolF (pS l)) (digZ n.natAbs (pD l).toNat) (decide (n<0))=
   (jgq (pS l) (pW l) (pD l).toNat n,fdLe (pS l) (pW l) (pD l).toNat n):=by
 obtain⟨e1,e2⟩:=en_law hl h hn;obtain⟨_,_,_,p4,_,p6⟩:=jkz hl h n;have hv:=jdv h;have hS:pS l=exZ l:=by rw[pS,if_pos hv]
 have hnp:NumP (pS l):=by rw[hS];exact jgf h
 obtain⟨d1,d2⟩:=dr_facts hnp;have hP:=(jew h).1.drP;rw[wrV,e1,jgq];cases hb:fdBl (pS l) (pW l) (pD l).toNat n with
 | true=>
  rw[e2 hb,←rep_one];rfl
 | false=>
  simp only[cond_false];have h0:decide (fdLe (pS l) (pW l) (pD l).toNat n<0)=false:=jad (by have:= @fdLe_nn (pS l) (pW l) (pD l).toNat n p4;omega);rw[h0,cond_false,out_law h];rw[fdOK,hb,Bool.false_or]at p6;by_cases q:drZ (jaj (pS l))=0
  ·have q1:=d2 q;have hO:jh3 (pS l) (pW l) (pD l).toNat n=fdGo (fdLe (pS l) (pW l) (pD l).toNat n) (fdFl (pS l)) 0 (decide (n<0)) (ja1 (pS l)) (pS l) (digZ n.natAbs (pD l).toNat) 0:=by rw[jh3,q1]
   rw[q,q1,hO];have z:((0:Int) !=0)=false:=rfl;rw[z,Bool.false_and];rfl
  ·have q1:=(d1 q).1;rw[q1]at p6 ⊢;have hq:(drZ (jaj (pS l)) !=0)=true:=by simpa using q
   have hq2:(drZ (jaj (pS l))==0)=false:=by simpa using q
   rw[hq2,Bool.false_or,jae]at p6;have h1:decide (fdLe (pS l) (pW l) (pD l).toNat n>0)=true:=jaa (by omega);rw[hq,h1]
   have hs:(bif drZ (jaj (pS l))==36 then 36 else sgC (drZ (jaj (pS l))) (decide (n<0)))=sgZ (drZ (jaj (pS l))) (decide (n<0)):=by
    rcases hP.at_ with⟨z,_⟩ | ⟨_,_,_,q4⟩
    ·exact absurd z q
    ·have:drZ (jaj (pS l))=36∨drZ (jaj (pS l))=83∨drZ (jaj (pS l))=43∨drZ (jaj (pS l))=45:=by simpa using q4
     rcases this with e | e | e | e<;>rw[e] <;>cases decide (n<0) <;>rfl
   rw[hs];have:jh3 (pS l) (pW l) (pD l).toNat n=fdGo (fdLe (pS l) (pW l) (pD l).toNat n) (fdFl (pS l)) (drZ (jaj (pS l))) (decide (n<0)) (ja1 (pS l)) (pS l) (digZ n.natAbs (pD l).toNat) 0:=by rw[jh3,q1]
   rw[this];rfl
end Go.Px
end
noncomputable section
set_option maxHeartbeats 3200000
namespace Go.Px
open Go Go.Ab Go.Proofs Go.Shelf
theorem wr_use{s:Y}(h:pN (bz s)=true){k cap:Nat}{d:E}(hR:jbm d k cap=true)(hz:zc d k=rolF (pS (bz s))){m:Int}(hm:(m.natAbs:Int)<tenZ (pD (bz s)).toNat):
  w64C (sz (pS (bz s))) (sz (digZ m.natAbs (pD (bz s)).toNat)) k cap (pW (bz s)) (fdFl (pS (bz s))) d=true∧
  wrV (bz (sz (pS (bz s)))) (pW (bz s)) (nD (jaj (pS (bz s)))).2.2 (crZ (pS (bz s))) (drZ (jaj (pS (bz s)))) (fdFl (pS (bz s))) (cntZ (mkGo (drZ (jaj (pS (bz s)))) false (jaj (pS (bz s)))) 100) (zc d k) (bz (sz (digZ m.natAbs (pD (bz s)).toNat))) (decide (m<0))=
   (jgq (pS (bz s)) (pW (bz s)) (pD (bz s)).toNat m,fdLe (pS (bz s)) (pW (bz s)) (pD (bz s)).toNat m):=by
 have hl:=jjj s;have hr:=jar.1 hR;have hk:k=(pS (bz s)).length:=by rw[←rol_len h,←hz,ja7 hr]
 have b1:bz (sz (pS (bz s)))=pS (bz s):=jg5 hl.1;have hdd:=jfh (pD (bz s)).toNat m.natAbs;have b2:bz (sz (digZ m.natAbs (pD (bz s)).toNat))=digZ m.natAbs (pD (bz s)).toNat:=jg5 (jkh hdd);have z1:(sz (pS (bz s))).size=(pS (bz s)).length:=by rw[←jav,b1]
 have z2:(sz (digZ m.natAbs (pD (bz s)).toNat)).size=(pD (bz s)).toNat:=by rw[←jav,b2,jf3]
 obtain⟨f1,_,f3,_⟩:=jge hl h;have hp:=jjk h;have hw:=jkz hl h 0;refine⟨?_,by rw[b1,b2,hz];exact wr_law hl h hm⟩;simp only[w64C,jaf,jae];rw[hz,b2,z1,z2,f3];refine⟨hR,?_,hdd,⟨by omega,by omega,by omega,by omega,hw.2.2.2.1,by omega⟩,by omega,?_⟩
 ·simp only[roOK,List.all_eq_true,jae];exact fun r hr=>by have:=f1 r hr;omega
 ·unfold fdFl;split
  ·exact .inr rfl
  ·exact .inl rfl
theorem unK_dig{c:Int}(h1:c≥48)(h2:c≤57):unK c=false:=by
 cases h:unK c with
 | false=>rfl
 | true=>
  have:=jba.1 h;simp only[punchedZ,List.mem_cons,List.not_mem_nil,or_false]at this;omega
def gsGo:F→F→F
 | [],_=> []
 | r::rs,cs=>bif r==2 then gsGo rs cs else bif r !=0&&r !=1 then gsGo rs cs.tail else(48+rdD (cs.headD 0))::gsGo rs cs.tail
def V67_0:Y×Y×Rw×Int×Nat×Nat×Int×Int×E→E:=fun(t,r4,o,aa,k2,cap2,L,i,d)=> [.string t,.string r4,o.v 200,.int .i64 aa,.slice (some ⟨1,0,some 1⟩) k2 cap2,.int .i64 L,.int .i64 i]
def B67_0:Y×Y×Rw×Int×Nat×Nat×Int×Int×E→J:=fun(t,r4,o,aa,k2,cap2,L,i,d)=> [some ⟨d,197,false⟩,o.b]
def S67_0:LSpecA (Y×Y×Rw×Int×Nat×Nat×Int×Int×E) where
 live:=[1,4,5,6,16,17,18]
 mid:=[1,200]
 n:=210
 ap:=[(.tmp 5,200)]
 dec vs bs:=match vs,bs with | [.string t,.string r4,.slice none 0 0,.int .i64 aa,.slice (some ⟨1,0,some 1⟩) k2 cap2,.int .i64 L,.int .i64 i],[some ⟨d,197,false⟩,none]=>some (t,r4,.nil,aa,k2,cap2,L,i,d) | [.string t,.string r4,.slice (some ⟨200,0,some 1⟩) om oc,.int .i64 aa,.slice (some ⟨1,0,some 1⟩) k2 cap2,.int .i64 L,.int .i64 i],[some ⟨d,197,false⟩,some ⟨od,5,true⟩]=>some (t,r4,.own od om oc,aa,k2,cap2,L,i,d) | _,_=>none
 pre:=fun(t,r4,o,aa,k2,cap2,L,i,d)=>o.ok&& (jbm d k2 cap2&&decide (0≤i∧i≤k2∧k2≤1000∧L=k2∧0≤aa∧aa≤i∧aa+cN ((zc d k2).drop i.toNat)≤t.size∧o.z.length≤i))
 fin:=fun(t,r4,o,aa,k2,cap2,L,i,d) Z=>(o.is=false→gsGo ((zc d k2).drop i.toNat) ((bz t).drop aa.toNat)=[]→ ∀a' i',Z (.exit 0) [.string t,.string r4,.slice none 0 0,.int .i64 a',.slice (some ⟨1,0,some 1⟩) k2 cap2,.int .i64 L,.int .i64 i'] [some ⟨d,197,false⟩,none])∧(∀a' i' od' om' oc',jc6 od' om' oc'=true→zc od' om'=o.z++gsGo ((zc d k2).drop i.toNat) ((bz t).drop aa.toNat)→Z (.exit 0) [.string t,.string r4,.slice (some ⟨200,0,some 1⟩) om' oc',.int .i64 a',.slice (some ⟨1,0,some 1⟩) k2 cap2,.int .i64 L,.int .i64 i'] [some ⟨d,197,false⟩,some ⟨od',5,true⟩])
def kl(k l:Y)(f:Exit→E→J→Prop)(d g h m:Int)(c:E)(e i j:Nat):Prop:=∀a:Nat,∀b:E,d9 (fk [] c (am d::b) e 200) f [] b (bt g h 1 i j) a 1 (b8 [(e,200)] c) (cw [(e,200)] (am d::b)) (.string k) (.string l) (bk 200 1 a) (bp m)
theorem r67_0n(t:Y)(r4:Y)(aa:Int)(k2:Nat)(cap2:Nat)(L:Int)(i:Int)(d:E)(jk:Tmps)(R:Exit→E→J→Prop):(jb3 Tryz.prog G37 noL Tryz.f117.ntmps (jbk Tryz.f117 0) (tl S67_0.live (V67_0 (t,r4,.nil,aa,k2,cap2,L,i,d)) jk) (ml S67_0.mid (B67_0 (t,r4,.nil,aa,k2,cap2,L,i,d))) S67_0.n fun e t' m' _=>S67_0.out R e t' m')=(du (a7 i 2 d) R i L .i64 [none] [] d (S t::S r4:: .slice none 0 0::ak aa::bq L i 1 k2 cap2) k2 0 (b8 [] d) (a0 (ay [] d) R [b8 [] d,none] (S t::S r4:: .slice none 0 0::ak aa::bt L i 1 k2 cap2)) (bif fy t aa then bm (ax i d !=0) true (ax i d !=0&&ax i d !=1) (a0 (ay [] d) R [b8 [] d,none] (S t::S r4:: .slice none 0 0::bp aa::bt L i 1 k2 cap2)) (gz (jau t aa.toNat) 48 57 (kl t r4 R (jau t aa.toNat) L i aa d 248 k2 cap2) (bif unK (jau t aa.toNat)then kl t r4 R (IntKind.u8.wrap (48+IntKind.u8.wrap (unD (jau t aa.toNat)))) L i aa d 252 k2 cap2 else kl t r4 R 48 L i aa d 249 k2 cap2))else False)):=by kernel_rfl
def km(n o:Y)(i:Exit→E→J→Prop)(g j k p:Int)(c f:E)(d e h l m:Nat):Prop:=bif cq c d e 1 1 then∀a:Nat,∀b:E,d9 (fk [] f (b6 c e++ [am g]++b) h 200) i [] b (bt j k 1 l m) a (e+1) (b8 [(h,200)] f) (cw [(h,200)] (b6 c e++ [am g]++b)) (.string n) (.string o) (bk 200 (e+1) a) (bp p)else False
theorem r67_0o(t:Y)(r4:Y)(od:E)(om:Nat)(oc:Nat)(aa:Int)(k2:Nat)(cap2:Nat)(L:Int)(i:Int)(d:E)(jk:Tmps)(R:Exit→E→J→Prop):(jb3 Tryz.prog G37 noL Tryz.f117.ntmps (jbk Tryz.f117 0) (tl S67_0.live (V67_0 (t,r4,(.own od om oc),aa,k2,cap2,L,i,d)) jk) (ml S67_0.mid (B67_0 (t,r4,(.own od om oc),aa,k2,cap2,L,i,d))) S67_0.n fun e t' m' _=>S67_0.out R e t' m')=(bif au i L then dq i .i64 d k2 (bif a7 i 2 d then a0 (jc d od) R [b8 dx d,cw dx od] (S t::S r4::bk 200 om oc::ak aa::bt L i 1 k2 cap2)else bif fy t aa then bm (ax i d !=0) true (ax i d !=0&&ax i d !=1) (a0 (jc d od) R [b8 dx d,cw dx od] (S t::S r4::bk 200 om oc::bp aa::bt L i 1 k2 cap2)) (gz (jau t aa.toNat) 48 57 (km t r4 R (jau t aa.toNat) L i aa od d oc om 248 k2 cap2) (bif unK (jau t aa.toNat)then km t r4 R (IntKind.u8.wrap (48+IntKind.u8.wrap (unD (jau t aa.toNat)))) L i aa od d oc om 252 k2 cap2 else km t r4 R 48 L i aa od d oc om 249 k2 cap2))else False)else bif jc d od then R (.exit 0) (S t::S r4::bk 200 om oc::ak aa::bq L i 1 k2 cap2) [b8 dx d,cw dx od]else False):=by kernel_rfl
theorem l67_0:LOKf Tryz.prog (oneL 0 S67_0.hA) Tryz.f117:=by
 refine jcc (h:=S67_0.hA) (by kernel_rfl) (jbo ok_G37 hmix (by kernel_rfl) (jbi _) S67_0 V67_0 B67_0 (fun(t,r4,o,aa,k2,cap2,L,i,d)=>(k2-i).toNat) ?_ ?_ ?_)
 ·intro vs bs s h;simp only[S67_0]at h;split at h
  all_goals first | (cases h;exact⟨rfl,rfl⟩) | cases h | (split at h<;>first | (rename_i hq;cases h;have hq:=jah hq;subst hq;exact⟨rfl,rfl⟩) | cases h)
 ·exact fun⟨t,r4,o,aa,k2,cap2,L,i,d⟩ hp=>by
   simp only[S67_0,jaf]at hp;have hr:=jar.1 hp.2.1;cases o with
   | nil=>simp[V67_0,B67_0,S67_0,jax,jbs,idsL,ids,Rw.v,Rw.b,jal hr.plain]
   | own od om oc=>simp[V67_0,B67_0,S67_0,jax,jbs,idsL,ids,Rw.v,Rw.b,jal hr.plain,jal (jaz.1 hp.1).plain]
 ·intro⟨t,r4,o,aa,k2,cap2,L,i,d⟩ jk Z hp hf;simp only[S67_0]at hp hf;cases o with
  | nil=>
   rw[r67_0n];delta ay bx dv dq au du bm e8 fu gz a0 d9 ar bp bv bk cw am b8 ak bt fk kl ax al fy bq a7;simp only[jaf,jae]at hp;obtain⟨-,hR,hp⟩:=hp;have hr:=jar.1 hR;simp only[Rw.z,List.length_nil]at hp hf;have e0:0+i.toNat*1=i.toNat:=by omega
   rw[e0];apply cond_intro<;>intro h
   ·have h:=jab h;obtain⟨a1,a3⟩:=hr.at hp.1 (by omega);rw[a3,gsGo]at hf;rw[a3,cN]at hp;have hc:=jkl ((zc d k2).drop (i+1).toNat);rw[a1,w64 (n:=i+1) (by omega),w64 (n:=aa+1) (by omega)];generalize jan d i.toNat=r at*;refine c_t (jaa (by omega)) (c_t rfl (cond_intro (fun q=> ?_) (fun q=> ?_)))
    ·rw[q,cond_true]at hf hp;refine c_t (by rw[hr.good];rfl) ?_;rw[hr.rlb];exact⟨(t,r4,.nil,aa,k2,cap2,L,i+1,d),rfl,rfl,by simp only[S67_0,jaf,jae];exact⟨rfl,hR,by simp only[Rw.z,List.length_nil];omega⟩,by simp only;omega,hf⟩
    ·rw[q,cond_false]at hf hp;obtain⟨p1,p2,p3,p4,p5,p6,p7,p8⟩:=hp;rw[jen p5 (by omega),List.headD_cons,List.tail_cons]at hf;have hB:=jic t aa.toNat;generalize jau t aa.toNat=c at*;have hu:0≤unD c∧unD c≤9:=by unfold unD;split<;>omega
     rw[w8 (n:=unD c) (by omega),w8 (n:=48+unD c) (by omega)];refine c_t (jaa (by omega)) (c_t (by simp) (cond_intro (fun q2=> ?_) (fun q2=>c_t (by simp) (cond_intro (fun q3=> ?_) (fun q3=>cond_intro (fun q4=> ?_) (fun q4=> ?_))))))
     ·rw[q2,cond_true]at hf;refine c_t (by rw[hr.good];rfl) ?_;rw[hr.rlb];exact⟨(t,r4,.nil,aa+1,k2,cap2,L,i+1,d),rfl,rfl,by simp only[S67_0,jaf,jae];exact⟨rfl,hR,by simp only[Rw.z,List.length_nil];omega⟩,by simp only;omega,hf⟩
     ·rw[q2,cond_false]at hf;intro cap1 tail ht;obtain⟨h1,h2⟩:RowP (Value.int IntKind.u8 (c)::tail) 1 cap1∧zc (Value.int IntKind.u8 (c)::tail) 1=[c]:=jgb [c] ht;have hl1:=ja4 h1;generalize Value.int IntKind.u8 (c)::tail=od' at*
      have e:48+rdD c=c:=by
       have q:=q3;simp only[jaf,jae]at q;unfold rdD;rw[unK_dig q.1 q.2,q3];simp only[cond_true,cond_false];omega
      rw[e]at hf;refine c_t (by rw[hr.good,h1.good];rfl) ?_;rw[hr.rlb,h1.rlb];exact⟨(t,r4,.own od' (1) cap1,aa+1,k2,cap2,L,i+1,d),rfl,rfl,by simp only[S67_0,jaf,jae];exact⟨jaz.2 h1,hR,by simp only[Rw.z,hl1];omega⟩,by simp only;omega,⟨fun q=>(by cases q),fun a' i' od'' om'' oc'' g1 g2=>hf.2 a' i' od'' om'' oc'' g1 (by rw[g2];simp only[Rw.z,h2,List.append_assoc,List.cons_append,List.nil_append])⟩⟩
     ·rw[q2,cond_false]at hf;intro cap1 tail ht;obtain⟨h1,h2⟩:RowP (Value.int IntKind.u8 (48+unD c)::tail) 1 cap1∧zc (Value.int IntKind.u8 (48+unD c)::tail) 1=[48+unD c]:=jgb [48+unD c] ht;have hl1:=ja4 h1;generalize Value.int IntKind.u8 (48+unD c)::tail=od' at*
      have e:48+rdD c=48+unD c:=by
       unfold rdD;rw[q4];rfl
      rw[e]at hf;refine c_t (by rw[hr.good,h1.good];rfl) ?_;rw[hr.rlb,h1.rlb];exact⟨(t,r4,.own od' (1) cap1,aa+1,k2,cap2,L,i+1,d),rfl,rfl,by simp only[S67_0,jaf,jae];exact⟨jaz.2 h1,hR,by simp only[Rw.z,hl1];omega⟩,by simp only;omega,⟨fun q=>(by cases q),fun a' i' od'' om'' oc'' g1 g2=>hf.2 a' i' od'' om'' oc'' g1 (by rw[g2];simp only[Rw.z,h2,List.append_assoc,List.cons_append,List.nil_append])⟩⟩
     ·rw[q2,cond_false]at hf;intro cap1 tail ht;obtain⟨h1,h2⟩:RowP (Value.int IntKind.u8 (48)::tail) 1 cap1∧zc (Value.int IntKind.u8 (48)::tail) 1=[48]:=jgb [48] ht;have hl1:=ja4 h1;generalize Value.int IntKind.u8 (48)::tail=od' at*
      have e:48+rdD c=48:=by
       unfold rdD;rw[q4,q3];rfl
      rw[e]at hf;refine c_t (by rw[hr.good,h1.good];rfl) ?_;rw[hr.rlb,h1.rlb];exact⟨(t,r4,.own od' (1) cap1,aa+1,k2,cap2,L,i+1,d),rfl,rfl,by simp only[S67_0,jaf,jae];exact⟨jaz.2 h1,hR,by simp only[Rw.z,hl1];omega⟩,by simp only;omega,⟨fun q=>(by cases q),fun a' i' od'' om'' oc'' g1 g2=>hf.2 a' i' od'' om'' oc'' g1 (by rw[g2];simp only[Rw.z,h2,List.append_assoc,List.cons_append,List.nil_append])⟩⟩
   ·have h:=jac h;rw[hr.end (by omega),gsGo]at hf;refine c_t (by rw[hr.good];rfl) ?_;rw[hr.rlb];exact hf.1 rfl rfl aa i
  | own od om oc=>
   rw[r67_0o];delta cw dx b8 ak bv bk bq fk jc bx dv dq bm e8 fu gz a0 d9 ar bp am b6 bt cq km ax al fy a7 au;simp only[jaf,jae]at hp;obtain⟨ho,hR,hp⟩:=hp;have hr:=jar.1 hR;have ho:=jaz.1 ho;have hzl:=ja4 ho;simp only[Rw.z,hzl]at hp hf;have e0:0+i.toNat*1=i.toNat:=by omega
   rw[e0];apply cond_intro<;>intro h
   ·have h:=jab h;obtain⟨a1,a3⟩:=hr.at hp.1 (by omega);rw[a3,gsGo]at hf;rw[a3,cN]at hp;have hc:=jkl ((zc d k2).drop (i+1).toNat);rw[a1,w64 (n:=i+1) (by omega),w64 (n:=aa+1) (by omega)];generalize jan d i.toNat=r at*;refine c_t (jaa (by omega)) (c_t rfl (cond_intro (fun q=> ?_) (fun q=> ?_)))
    ·rw[q,cond_true]at hf hp;refine c_t (by rw[hr.good,ho.good];rfl) ?_;rw[hr.rlb,ho.rlb];exact⟨(t,r4,.own od om oc,aa,k2,cap2,L,i+1,d),rfl,rfl,by simp only[S67_0,jaf,jae];exact⟨jaz.2 ho,hR,by simp only[Rw.z,hzl];omega⟩,by simp only;omega,hf⟩
    ·rw[q,cond_false]at hf hp;obtain⟨p1,p2,p3,p4,p5,p6,p7,p8⟩:=hp;rw[jen p5 (by omega),List.headD_cons,List.tail_cons]at hf;have hB:=jic t aa.toNat;generalize jau t aa.toNat=c at*;have hu:0≤unD c∧unD c≤9:=by unfold unD;split<;>omega
     rw[w8 (n:=unD c) (by omega),w8 (n:=48+unD c) (by omega)];refine c_t (jaa (by omega)) (c_t (by simp) (cond_intro (fun q2=> ?_) (fun q2=>c_t (by simp) (cond_intro (fun q3=> ?_) (fun q3=>cond_intro (fun q4=> ?_) (fun q4=> ?_))))))
     ·rw[q2,cond_true]at hf;refine c_t (by rw[hr.good,ho.good];rfl) ?_;rw[hr.rlb,ho.rlb];exact⟨(t,r4,.own od om oc,aa+1,k2,cap2,L,i+1,d),rfl,rfl,by simp only[S67_0,jaf,jae];exact⟨jaz.2 ho,hR,by simp only[Rw.z,hzl];omega⟩,by simp only;omega,hf⟩
     ·rw[q2,cond_false]at hf;refine c_t (ho.ask (k:=1) (by omega)) (fun cap1 tail ht=> ?_);obtain⟨h1,h2⟩:=ho.app1 (c) ht;have hl1:=ja4 h1;generalize List.take (om*1) od++ [Value.int IntKind.u8 (c)]++tail=od' at*
      have e:48+rdD c=c:=by
       have q:=q3;simp only[jaf,jae]at q;unfold rdD;rw[unK_dig q.1 q.2,q3];simp only[cond_true,cond_false];omega
      rw[e]at hf;refine c_t (by rw[hr.good,h1.good];rfl) ?_;rw[hr.rlb,h1.rlb];exact⟨(t,r4,.own od' (om+1) cap1,aa+1,k2,cap2,L,i+1,d),rfl,rfl,by simp only[S67_0,jaf,jae];exact⟨jaz.2 h1,hR,by simp only[Rw.z,hl1];omega⟩,by simp only;omega,⟨fun q=>(by cases q),fun a' i' od'' om'' oc'' g1 g2=>hf.2 a' i' od'' om'' oc'' g1 (by rw[g2];simp only[Rw.z,h2,List.append_assoc,List.cons_append,List.nil_append])⟩⟩
     ·rw[q2,cond_false]at hf;refine c_t (ho.ask (k:=1) (by omega)) (fun cap1 tail ht=> ?_);obtain⟨h1,h2⟩:=ho.app1 (48+unD c) ht;have hl1:=ja4 h1;generalize List.take (om*1) od++ [Value.int IntKind.u8 (48+unD c)]++tail=od' at*
      have e:48+rdD c=48+unD c:=by
       unfold rdD;rw[q4];rfl
      rw[e]at hf;refine c_t (by rw[hr.good,h1.good];rfl) ?_;rw[hr.rlb,h1.rlb];exact⟨(t,r4,.own od' (om+1) cap1,aa+1,k2,cap2,L,i+1,d),rfl,rfl,by simp only[S67_0,jaf,jae];exact⟨jaz.2 h1,hR,by simp only[Rw.z,hl1];omega⟩,by simp only;omega,⟨fun q=>(by cases q),fun a' i' od'' om'' oc'' g1 g2=>hf.2 a' i' od'' om'' oc'' g1 (by rw[g2];simp only[Rw.z,h2,List.append_assoc,List.cons_append,List.nil_append])⟩⟩
     ·rw[q2,cond_false]at hf;refine c_t (ho.ask (k:=1) (by omega)) (fun cap1 tail ht=> ?_);obtain⟨h1,h2⟩:=ho.app1 (48) ht;have hl1:=ja4 h1;generalize List.take (om*1) od++ [Value.int IntKind.u8 (48)]++tail=od' at*
      have e:48+rdD c=48:=by
       unfold rdD;rw[q4,q3];rfl
      rw[e]at hf;refine c_t (by rw[hr.good,h1.good];rfl) ?_;rw[hr.rlb,h1.rlb];exact⟨(t,r4,.own od' (om+1) cap1,aa+1,k2,cap2,L,i+1,d),rfl,rfl,by simp only[S67_0,jaf,jae];exact⟨jaz.2 h1,hR,by simp only[Rw.z,hl1];omega⟩,by simp only;omega,⟨fun q=>(by cases q),fun a' i' od'' om'' oc'' g1 g2=>hf.2 a' i' od'' om'' oc'' g1 (by rw[g2];simp only[Rw.z,h2,List.append_assoc,List.cons_append,List.nil_append])⟩⟩
   ·have h:=jac h;rw[hr.end (by omega),gsGo]at hf;refine c_t (by rw[hr.good,ho.good];rfl) ?_;rw[hr.rlb,ho.rlb];exact hf.2 aa i od om oc (jaz.2 ho) (by simp)
theorem v67(s:Y)(nb:Bool)(w:Int)(dg:Int)(sc:Int)(sg:Bool)(k:Nat)(cap:Nat)(dr:Int)(f:Int)(cr:Bool)(fl:Int)(fm:Int)(t:Y)(d:E)(R:Value→Prop):(jbu Tryz.prog G37 (oneL 0 S67_0.hA) Tryz.f117 [.pointer (some ⟨0,0,some 0⟩),S t] (vwF2 (fmL s nb w dg sc sg 1 k cap dr f cr fl fm) d) 2 (fun v _ _=>R v))=(cu (ay [] d) (b4 (rlbL [] d) 210) (S67_0.toLSpec.pre (t,(az,(Rw.nil,((0:Int),(k,(cap,(natO k,((0:Int),rlbL [] d))))))))) ((Rw.is Rw.nil=false→gsGo (c9 (rlbL [] d) k) (d8 t)=([]:F)→Int→Int→ek (rlbL [] d) 210 (R (S ByteArray.empty)))∧(Int→Int→(∀a:E,∀b:Nat,∀c:Nat,jc6 a b c=true→zc a b=Rw.z Rw.nil++gsGo (c9 (rlbL [] d) k) (d8 t)→jb (rlbL [] d) a 210 (b5 (ja6 a 0 b) (S (ja3 a 0 b)) R)))) False):=by kernel_rfl
theorem fn67:Fn1 Tryz.prog 117 Tryz.f117:= .m Tryz.func117
theorem w_67(s:Y)(nb:Bool)(w:Int)(dg:Int)(sc:Int)(sg:Bool)(k:Nat)(cap:Nat)(dr:Int)(f:Int)(cr:Bool)(fl:Int)(fm:Int)(t:Y)(d:E)(hR:jbm d k cap=true)(hk:k≤1000)(hc:cN (zc d k)≤t.size)
  {R:Value→Prop} (hV:R (.string (sz (gsGo (zc d k) (bz t))))):
  jdu Tryz.prog G37 (oneL 0 S67_0.hA) Tryz.f117 [.pointer (some ⟨0,0,some 0⟩),.string t] (vwF2 (fmL s nb w dg sc sg 1 k cap dr f cr fl fm) d) 2 (fun v _ _=>R v):=by
 rw[jdu,v67];delta cu b4 jb b5 d8 c9 ek az ay;have h:=jar.1 hR;have z0:Int.toNat 0=0:=rfl;have hg:(jat [] d&&true&&true&& (jax 210 d&&true))=true:=by rw[h.good];simp[jax,idsL,jal h.plain]
 have hg':(jat [] d&&true&& (jax 210 d&&true))=true:=by rw[h.good];simp[jax,idsL,jal h.plain]
 have hi:(jax 210 d&&true)=true:=by simp[jax,idsL,jal h.plain]
 simp only[h.rlb,z0,List.drop_zero];refine c_t (by first | exact hg | exact hg') (c_t ?_ ⟨fun _ hn a' i'=>c_t hi fun _=> ?_,fun a' i' od om oc g1 g2=> ?_⟩)
 ·show(Rw.nil.ok&& (jbm d k cap&&decide ((0:Int)≤0∧(0:Int)≤k∧k≤1000∧natO k=k∧(0:Int)≤0∧(0:Int)≤0∧0+cN ((zc d k).drop (Int.toNat 0))≤t.size∧((Rw.nil.z.length:Nat):Int)≤0)))=true;rw[hR,jbx,z0,List.drop_zero];simp only[Bool.true_and,Rw.ok,Rw.z,List.length_nil,jae];exact⟨by omega,by omega,by omega,trivial,by omega,by omega,by omega,by omega⟩
 ·rw[hn]at hV;exact hV
 ·have ho:=jaz.1 g1;have hio:(jax 210 d&& (jax 210 od&&true))=true:=by simp[jax,idsL,jal h.plain,jal ho.plain]
  have s3:=ho.str;have g3:zc od om=gsGo (zc d k) (bz t):=by rw[g2];rfl
  rw[g3]at s3;exact c_t hio fun _=>c_t s3.1 (by rw[s3.2];exact hV)
def h67:E→Lk→Nat→(Value→Lk→Nat→Prop)→Prop:=fun args m n K=>match args with
 | [.pointer (some ⟨a,0,some 0⟩),.string t]=>match m a with
  | some ⟨[.string s,.bool nb,.int .i64 w,.int .i64 dg,.int .i64 sc,.bool sg,.slice (some ⟨y,0,some 1⟩) k cap,.int .u8 dr,.int .i64 f,.bool cr,.int .u8 fl,.int .i64 fm],119,own⟩=>match m y with
   | some ⟨d,197,own2⟩=>match cnd (jbm d k cap&&decide (k≤1000∧cN (zc d k)≤t.size))with
    | true=>∀e:Y,sz (gsGo (zc d k) (bz t))=e→K (.string e) m n
    | false=>False
   | _=>False
  | _=>False
 | _=>False
theorem h67_ok:jdt Tryz.prog 117 h67:=by
 refine jh0 ok_G37 hmix fn67 l67_0 fun args m n K h=> ?_
 unfold h67 at h;split at h
 case h_2=>exact h.elim
 rename_i a t;split at h
 case h_2=>exact h.elim
 rename_i s nb w dg sc sg y k cap dr f cr fl fm own hm;split at h
 case h_2=>exact h.elim
 rename_i d own2 hy;split at h
 case h_2=>exact h.elim
 rename_i hc;simp only[cnd,jaf,jae]at hc;obtain⟨h1,h2,h3⟩:=hc
 refine⟨[.pointer (some ⟨0,0,some 0⟩),.string t],_,2,rho2 a y,.string (sz (gsGo (zc d k) (bz t))),sub_F2 (jar.1 h1).plain hm hy,fun ι=>by simp[ren,ren1,rho2],jag,fun v hv j hj=> ?_,rfl,
  w_67 s nb w dg sc sg k cap dr f cr fl fm t d h1 h2 h3 (R:=fun v=>v= .string (sz (gsGo (zc d k) (bz t)))) rfl,h _ rfl⟩
 simp at hv;rcases hv with rfl | rfl
 ·have:j=0:=by simpa[ids]using hj
  omega
 ·simp[ids]at hj
def V71_0:Y×Bool×E×Nat×Nat×Int×Int→E:=fun(s,r,d,m,cap,L,i)=> [S s,B r,.slice (some ⟨300,0,some 1⟩) m cap,I L,I i]
def B71_0:Y×Bool×E×Nat×Nat×Int×Int→J:=fun(s,r,d,m,cap,L,i)=> [some ⟨d,5,false⟩]
def S71_0:LSpecA (Y×Bool×E×Nat×Nat×Int×Int) where
 live:=[0,4,15,16,17]
 mid:=[300]
 n:=310
 ap:=[(.tmp 15,300)]
 dec vs bs:=match vs,bs with | [.string s,.bool r,.slice (some ⟨300,0,some 1⟩) m cap,.int .i64 L,.int .i64 i],[some ⟨d,5,false⟩]=>some (s,r,d,m,cap,L,i) | _,_=>none
 pre:=fun(s,r,d,m,cap,L,i)=>vwOK d m&& ((bz s).all (hasZ [65,88,57]) &&decide (0≤i∧i≤m∧L=m∧s.size=m∧m≤1000))
 fin:=fun(s,r,d,m,cap,L,i) Z=>(bif onGo ((bz s).drop i.toNat) ((zc d m).drop i.toNat)then∀i',Z (.exit 0) [S s,B r,.slice (some ⟨300,0,some 1⟩) m cap,I L,I i'] [some ⟨d,5,false⟩]else∀i',Z .ret [S s,B false,.slice (some ⟨300,0,some 1⟩) m cap,I L,I i'] [some ⟨d,5,false⟩])
def lr(d e:Bool)(a:Y)(b:Int)(c:E):Bool:=bif dw a b 65 then bif !(bif decide (ax b c≥65)then decide (ax b c≤90) || e8 (ax b c) 97 122 else e8 (ax b c) 97 122)then ax b c !=32 || d&&e else d&&e else d&&e
theorem r71_0(s:Y)(r:Bool)(d:E)(m:Nat)(cap:Nat)(L:Int)(i:Int)(jk:Tmps)(R:Exit→E→J→Prop):(jb3 Tryz.prog G37 noL Tryz.f70.ntmps (jbk Tryz.f70 0) (tl S71_0.live (V71_0 (s,r,d,m,cap,L,i)) jk) (ml S71_0.mid (B71_0 (s,r,d,m,cap,L,i))) S71_0.n fun e t' m' _=>S71_0.out R e t' m')=(du (fu (ax i d) 48) R i L .u8 [] [(300,300)] d (S s::B r::bq L i 300 m cap) m 0 (gu d 300) (ig (decide (ax i d≥65)) (decide (ax i d≤90) || fu (ax i d) 97) (fu (ax i d) 97) (fy s i&&lr (fy s i) (bif dw s i 57 then !e8 (ax i d) 48 57 || true else true) s i d) (fv (lr (dw s i 57) (!e8 (ax i d) 48 57&&ax i d !=32) s i d) R [] [(300,300)] d (bq L i 300 m cap) (bt L i 300 m cap) (gu d 300) (S s) (B false) (S s) (B r)) False) False):=by kernel_rfl
theorem l71_0:LOKf Tryz.prog (oneL 0 S71_0.hA) Tryz.f70:=by
 refine jcc (h:=S71_0.hA) (by kernel_rfl) (jbo ok_G37 hmix (by kernel_rfl) (jbi _) S71_0 V71_0 B71_0 (fun(s,r,d,m,cap,L,i)=>(m-i).toNat) ?_ ?_ ?_)
 ·intro vs bs s h;simp only[S71_0]at h;split at h
  all_goals first | (cases h;exact⟨rfl,rfl⟩) | cases h | (split at h<;>first | (rename_i hq;cases h;have hq:=jah hq;subst hq;exact⟨rfl,rfl⟩) | cases h)
 ·exact fun⟨s,r,d,m,cap,L,i⟩ hp=>by
   simp only[S71_0,jaf]at hp;have hv:=jb1.1 hp.1;simp[V71_0,B71_0,S71_0,jax,jbs,idsL,ids,jal hv.plain]
 ·intro⟨s,r,d,m,cap,L,i⟩ jk Z hp hf;rw[r71_0];delta ay bx dv dq au du ig a0 fv av gu ar bp ak bv bk bt bq ax e8 dw lr al fy fu;simp only[S71_0]at hp hf;simp only[jaf,jae]at hp;obtain⟨hV,hA,hp⟩:=hp;have hv:=jb1.1 hV;have e0:0+i.toNat*1=i.toNat:=by omega
  rw[e0];simp only[hv.rlb];have hg:∀ps,(jat ps d&&true&&true)=true:=fun ps=>by rw[goodL_plain hv.plain];rfl
  apply cond_intro<;>intro h
  ·have h:=jab h;obtain⟨a1,a2,a3⟩:=hv.at hp.1 (by omega)
   have hcb:jau s i.toNat=65∨jau s i.toNat=88∨jau s i.toNat=57:=by
    have hm:jau s i.toNat∈bz s:=List.drop_subset i.toNat (bz s) (by rw[jen hp.1 (by omega)];exact List.mem_cons_self);have:=List.all_eq_true.1 hA _ hm;have:=jba.1 this;simp only[List.mem_cons,List.not_mem_nil,or_false]at this;omega
   rw[jen hp.1 (by omega),a3,onGo]at hf;rw[a1,w64 (n:=i+1) (by omega),jaa (show 0≤i∧i<(m:Int)by omega),jaa (show 0≤i∧i<(s.size:Int)by omega)];generalize jan d i.toNat=b at*;generalize jau s i.toNat=c at*
   have el:(bif decide (b≥65)then decide (b≤90) || decide (b≥97) &&decide (b≤122)else decide (b≥97) &&decide (b≤122))=letZ b:=by
    unfold letZ;rw[Bool.eq_iff_iff];by_cases h1:b≥65<;>simp[h1] <;>omega
   have ed:(decide (b≥48) &&decide (b≤57))=jfr b:=by
    rw[Bool.eq_iff_iff];simp[jfr]
   rw[el,ed]
   have key:(bif c==65 then bif !letZ b then b !=32 || c==57&& (!jfr b&&b !=32)else c==57&& (!jfr b&&b !=32)else c==57&& (!jfr b&&b !=32))= !oneZ c b:=by
    unfold oneZ;rcases hcb with rfl | rfl | rfl<;>by_cases h2:b=32<;>simp[h2] <;>cases letZ b<;>cases jfr b<;>simp
   rw[key];refine c_t rfl (c_t rfl (c_t (by simp) (c_t (by cases decide (b≥65) <;>simp) (c_t (by cases c==65<;>cases !letZ b<;>cases c==57<;>simp) (cond_intro (fun q=>c_t (hg _) ?_) (fun q=>c_t (hg _) ?_))))))
   ·have q:oneZ c b=false:=by simpa using q
    rw[q,Bool.false_and,cond_false]at hf;exact hf i
   ·have q:oneZ c b=true:=by simpa using q
    rw[q,Bool.true_and]at hf;exact⟨(s,r,d,m,cap,L,i+1),rfl,rfl,by simp only[S71_0,jaf,jae];exact⟨hV,hA,by omega⟩,by simp only;omega,hf⟩
  ·have h:=jac h;have hz:(bz s).drop i.toNat=[]:=List.drop_eq_nil_of_le (by rw[jav];omega);rw[hv.end (by omega),hz]at hf;exact c_t (hg _) (hf i)
def s71(s:Y)(t:Y):Bool×Value:=((bz s).all (hasZ [65,88,57]) &&decide (s.size≤1000∧t.size≤9223372036854775807),.bool (decide ((t.size:Int)=s.size) &&onGo (bz s) (bz t)))
theorem fn71:Fn1 Tryz.prog 70 Tryz.f70:= .m Tryz.func70
theorem v71(s:Y)(t:Y)(R:Value→Prop):jbu Tryz.prog G37 (oneL 0 S71_0.hA) Tryz.f70 [Enc.enc s,Enc.enc t] (fun _=>none) 0 (fun v _ _=>R v)=(bif al t !=al s then R (B false)else∀a:Nat,ja (ay [(7,300)] (Lib.strCells t)) (b4 (b9 t 7 300) 310) (S71_0.toLSpec.pre (s,(false,(b9 t 7 300,(t.size,(a,(natO t.size,(0:Int)))))))) t a (bif onGo (d8 s) (c9 (b9 t 7 300) t.size)then Int→ek (b9 t 7 300) 310 (R (B true))else Int→ek (b9 t 7 300) 310 (R (B false)))):=by kernel_rfl
theorem ok71:jam Tryz.prog 70 (sp2 s71):=by
 refine jfq ok_G37 hmix fn71 l71_0 jag fun s t hc=> ?_
 rw[jbv,v71];delta cu ja b4 ek b9 c9 d8 ay al
 try dsimp only[s71]
 obtain⟨hA,hc⟩:=Bool.and_eq_true_iff.1 hc;have hc:=jab hc;obtain⟨hv,hz⟩:=jif t;have hV:=jb1.2 hv;refine cond_intro (fun h=> ?_) (fun h=>fun cap _=> ?_)
 ·have h:¬(t.size:Int)=s.size:=by simpa using h
  rw[jad h];rfl
 ·have h:(t.size:Int)=s.size:=by simpa using h
  have hg:(jat [(7,300)] (Lib.strCells t) &&true&&true&& (jax 310 (Lib.strCells t) &&true))=true:=by rw[goodL_plain hv.plain];simp[jax,idsL,jal hv.plain]
  have hi:(jax 310 (Lib.strCells t) &&true)=true:=by simp[jax,idsL,jal hv.plain]
  have z0:Int.toNat 0=0:=rfl;simp only[hv.rlb,z0,List.drop_zero,hz];refine c_t hg (c_t ?_ ?_)
  ·show(vwOK (Lib.strCells t) t.size&& ((bz s).all (hasZ [65,88,57]) &&decide ((0:Int)≤0∧(0:Int)≤t.size∧natO t.size=t.size∧s.size=t.size∧t.size≤1000)))=true;rw[hV,hA,jbx];simp only[Bool.true_and,jae];exact⟨by omega,by omega,trivial,by omega,by omega⟩
  ·rw[jaa h,Bool.true_and];refine cond_intro (fun q _=>c_t hi fun _=>by rw[q]) (fun q _=>c_t hi fun _=>by rw[q])
end Go.Px
end
noncomputable section
namespace Go.Px
open Go Go.Ab Go.Proofs Go.Shelf
theorem dec_from:∀(l:Ya)(a:Nat),dgL (zl l)=true→Lib.decFrom a l=some (numZ (zl l) a).toNat∧0≤numZ (zl l) a
 | [],a,_=>⟨rfl,Int.natCast_nonneg a⟩
 | b::r,a,h=>by
  have h:dgL ((b.toNat:Int)::zl r)=true:=h
  have h1:48≤b.toNat∧b.toNat≤57:=by
   simp only[dgL,List.all_cons,jaf,jae]at h;omega
  have h2:dgL (zl r)=true:=by
   simp only[dgL,List.all_cons,jaf]at h;exact h.2
  obtain⟨e1,e2⟩:=dec_from r (a*10+(b.toNat-48)) h2;have e:((a*10+(b.toNat-48):Nat):Int)=(a:Int)*10+((b.toNat:Int)-48):=by omega
  rw[e]at e1 e2;have hd:Lib.digitVal b=some (b.toNat-48):=by rw[Lib.digitVal,if_pos h1]
  refine⟨?_,e2⟩;rw[Lib.decFrom,hd];exact e1
theorem atoi_dig{s:Y}(h0:1≤s.size)(h:dgL (bz s)=true):Lib.atoi s.data.toList=some (dval (bz s)):=by
 have hb:bz s=zl s.data.toList:=rfl;have hl:s.data.toList.length=s.size:=rfl;rw[hb]at h ⊢;generalize s.data.toList=l at*;cases l with
 | nil=>simp at hl;omega
 | cons b r=>
  have h1:48≤b.toNat∧b.toNat≤57:=by
   have h:dgL ((b.toNat:Int)::zl r)=true:=h;simp only[dgL,List.all_cons,jaf,jae]at h;omega
  have n45:(b==45)=false:=by
   cases q:b==45 with
   | false=>rfl
   | true=>have:=eq_of_beq q;rw[this]at h1;revert h1;decide
  have n43:(b==43)=false:=by
   cases q:b==43 with
   | false=>rfl
   | true=>have:=eq_of_beq q;rw[this]at h1;revert h1;decide
  obtain⟨e1,e2⟩:=dec_from (b::r) 0 h;rw[Lib.atoi,n45,n43];show(Lib.decNat (b::r)).map (fun m:Nat=>(m:Int))=_;have:Lib.decNat (b::r)=Lib.decFrom 0 (b::r):=rfl;rw[this,e1,Option.map_some,dval];congr 1;exact Int.toNat_of_nonneg e2
def s68(s:Y):Bool×Value:=(decide (1≤s.size∧s.size≤18) &&dgL (bz s),.tuple ⟨[.int .i64 (dval (bz s)),.nilIface]⟩)
theorem ok68:jam Tryz.prog 118 (sp1 s68):=shelf1 c68 fun s hc w _=>by
 simp only[s68,jaf,jae]at hc;refine(Any.strconv_Atoi (ρ:=Tryz.lays172_ren) Tryz.lays172 s (dval (bz s)) hc.1.2 (atoi_dig hc.1.1 hc.2) w).mono fun e w' ⟨h1,t,h2⟩=>⟨h1,?_⟩
 subst h2;exact Lib.bytesWorld_below _ _ _
theorem jgo:∀(ro cs:F)(a:Int),okR ro→((gsGo ro cs).length:Int)=cdg ro∧dgL (gsGo ro cs)=true∧numZ (gsGo ro cs) a=rdGo (ro.map rmk) cs a
 | [],_,_,_=>⟨rfl,rfl,rfl⟩
 | r::rs,cs,a,hok=>by
  have hok':okR rs:=fun x hx=>hok x (List.mem_cons_of_mem _ hx)
  rw[gsGo,cdg,List.map_cons,rdGo];have hr:=rd_rng (cs.headD 0)
  have dig:∀l,dgL l=true→dgL ((48+rdD (cs.headD 0))::l)=true:=fun l h=>by
   simp only[dgL,List.all_cons,jaf,jae]at h ⊢;exact⟨by omega,h⟩
  have e:a*10+(48+rdD (cs.headD 0)-48)=a*10+rdD (cs.headD 0):=by omega
  rcases jcf (hok r List.mem_cons_self)with rfl | rfl | rfl | rfl | rfl | rfl
  ·obtain⟨h1,h2,h3⟩:=jgo rs cs.tail (a*10+rdD (cs.headD 0)) hok';refine⟨?_,dig _ h2,?_⟩
   ·show(((_::gsGo rs cs.tail).length:Nat):Int)=1+cdg rs;rw[List.length_cons];omega
   ·show numZ (_::gsGo rs cs.tail) a=rdGo (rs.map rmk) cs.tail (a*10+rdD (cs.headD 0));rw[numZ,e];exact h3
  ·obtain⟨h1,h2,h3⟩:=jgo rs cs.tail (a*10+rdD (cs.headD 0)) hok';refine⟨?_,dig _ h2,?_⟩
   ·show(((_::gsGo rs cs.tail).length:Nat):Int)=1+cdg rs;rw[List.length_cons];omega
   ·show numZ (_::gsGo rs cs.tail) a=rdGo (rs.map rmk) cs.tail (a*10+rdD (cs.headD 0));rw[numZ,e];exact h3
  ·obtain⟨h1,h2,h3⟩:=jgo rs cs a hok';exact⟨by simpa using h1,h2,h3⟩
  ·obtain⟨h1,h2,h3⟩:=jgo rs cs.tail a hok';exact⟨by simpa using h1,h2,h3⟩
  ·obtain⟨h1,h2,h3⟩:=jgo rs cs.tail a hok';exact⟨by simpa using h1,h2,h3⟩
  ·obtain⟨h1,h2,h3⟩:=jgo rs cs.tail a hok';exact⟨by simpa using h1,h2,h3⟩
end Go.Px
end
noncomputable section
set_option maxHeartbeats 3200000
namespace Go.Px
open Go Go.Ab Go.Proofs Go.Shelf
def G38:Env:=(((Env.nil.addG 116 h62).addG 119 h64).addG 117 h67).add 118 (sp1 s68)
theorem ok_G38:jap Tryz.prog G38:=jak (jao (jao (jao ja5 h62_ok) h64_ok) h67_ok) ok68
theorem cN_nv:∀(rs:F),okR rs→cN rs=nv (rs.map rmk)
 | [],_=>rfl
 | r::rs,hok=>by
  have hok':okR rs:=fun x hx=>hok x (List.mem_cons_of_mem _ hx)
  have ih:=cN_nv rs hok';rw[cN,List.map_cons,je9];rcases jcf (hok r List.mem_cons_self)with rfl | rfl | rfl | rfl | rfl | rfl<;>simp[rmk] <;>omega
theorem gs_use{s t:Y}(h:pN (bz s)=true):digZ (rdA (bz s) (bz t)) (pD (bz s)).toNat=gsGo (rolF (pS (bz s))) (bz t)∧0≤rdA (bz s) (bz t)∧rdA (bz s) (bz t)<tenZ (pD (bz s)).toNat∧dval (gsGo (rolF (pS (bz s))) (bz t))=rdA (bz s) (bz t)∧cN (rolF (pS (bz s)))=pW (bz s):=by
 have hl:=jjj s;obtain⟨f1,f2,f3,_⟩:=jge hl h;obtain⟨g1,g2,g3⟩:=jgo (rolF (pS (bz s))) (bz t) 0 f1;have hp:=jjk h;have hv:dval (gsGo (rolF (pS (bz s))) (bz t))=rdA (bz s) (bz t):=by rw[dval,g3,f2,rdA]
 have hlen:(gsGo (rolF (pS (bz s))) (bz t)).length=(pD (bz s)).toNat:=by omega
 have hr:=jeh _ g2;rw[hv,hlen]at hr;refine⟨by rw[←hv];exact digZ_val' _ _ hlen g2,hr.1,hr.2,hv,by rw[cN_nv _ f1,f2,pN_nv h]⟩
def s22(s:Y)(t:Y):Bool×Value:=(decide (s.size≤9223372036854775807∧t.size≤9223372036854775807),.tuple ⟨[.int .i64 (rdV (bz s) (bz t)).1,.int .i64 (rdV (bz s) (bz t)).2]⟩)
theorem fn22:Fn1 Tryz.prog 69 Tryz.f69:= .m Tryz.func69
def jz(e:Bool)(a d:Y)(b:E)(c:Nat):Prod F Int:=wrV (bz (sz (pS (bz a)))) (pW (bz a)) (nD (jaj (pS (bz a)))).snd.snd (crZ (pS (bz a))) (drZ (jaj (pS (bz a)))) (fdFl (pS (bz a))) (cntZ (mkGo (drZ (jaj (pS (bz a)))) false (jaj (pS (bz a)))) 100:Int) (zc b c) (bz d) e
def ls(d e:Y)(a:E)(b c:Nat):Bool:=jbm a b c&& (roOK (zc a b) && (dgL (bz d) &&decide ((b≤1000∧d.size≤1000∧b≤(sz (pS (bz e))).size∧(sz (pS (bz e))).size≤1000∧0≤pW (bz e)∧pW (bz e)≤1000)∧cdg (zc a b)≤al d∧(fdFl (pS (bz e))=32∨fdFl (pS (bz e))=42))))
def gl(c:Y)(a b d:Nat):Bool:=decide (a≤b∧c.size≤d)
theorem v22(s:Y)(t:Y)(R:Value→Prop):jbu Tryz.prog G38 noL Tryz.f69 [Enc.enc s,Enc.enc t] (fun _=>none) 0 (fun v _ _=>R v)=(bif cl s then bif pN (bz s)then∀a:Nat,∀b:Nat,∀c:E,jbm c a b=true→zc c a=rolF (pS (bz s))→(bif al t !=pW (bz s)then bw [ak 0,ak 31] R else bif jbm c a b&&decide (a≤1000∧cN (zc c a)≤al t)then∀d:Y,sz (gsGo (zc c a) (bz t))=d→cu (gl d 1 d.size 18) (dgL (bz d)) (ls d s c a b) (∀e:Y,∀f:Int,sz (jz false s d c a).fst=e→(jz false s d c a).snd=f→(bif cv e t then bw [I (dval (bz d)),ak 0] R else bif ls d s c a b then∀g:Y,∀h:Int,sz (jz true s d c a).fst=g→(jz true s d c a).snd=h→gn (bif cv g t then pG (bz s) || true else true) (cv g t&& (pG (bz s) &&aq (dval (bz d)) 0)) (.tuple ⟨[I (a8 0 (dval (bz d))),ak 0]⟩) (.tuple ⟨[ak 0,ak 31]⟩) R else False)) False else False)else bw [ak 0,ak 30] R else False):=by kernel_rfl
theorem ok22:jam Tryz.prog 69 (sp2 s22):=by
 refine jfq ok_G38 hmix fn22 jai jag fun s t hc=> ?_
 rw[jbv,v22];delta bw ak cu gn a8 aq cv jz al ls gl cl;have hc:(s.size≤9223372036854775807∧t.size≤9223372036854775807):=jab hc
 try dsimp only[s22]
 refine c_t (jaa hc.1) (cond_intro (fun h=> ?_) (fun h=> ?_))
 ·intro k cap d hR hz;obtain⟨u1,u2,u3,u4,u5⟩:=gs_use (t:=t) h;have hl:=jjj s;have hr:=jar.1 hR;have hk:k=(pS (bz s)).length:=by rw[←rol_len h,←hz,ja7 hr]
  have hp:=jjk h;have bl:((bz t).length:Int)=t.size:=by rw[jav]
  apply cond_intro<;>intro hw
  ·have hw:¬(t.size:Int)=pW (bz s):=by simpa using hw
   rw[rdV,if_pos h,bl,if_neg hw]
  ·have hw:(t.size:Int)=pW (bz s):=by simpa using hw
   refine c_t (by rw[hR,hz,u5];simp only[Bool.true_and,jae];omega) fun e he=> ?_
   rw[hz,←u1]at he;have hdd:=jfh (pD (bz s)).toNat (rdA (bz s) (bz t));have be:bz e=digZ (rdA (bz s) (bz t)) (pD (bz s)).toNat:=by rw[←he,jg5 (jkh hdd)]
   have ze:e.size=(pD (bz s)).toNat:=by rw[←jav,be,jf3]
   have hv:dval (bz e)=rdA (bz s) (bz t):=by rw[be,u1,u4]
   rw[hv,rdV,if_pos h,bl,if_pos hw];generalize rdA (bz s) (bz t)=m at*;have hm:((m.natAbs:Nat):Int)=m:=by omega
   have hm':(((0-m).natAbs:Nat):Int)=m:=by omega
   obtain⟨g1,g2⟩:=wr_use h hR hz (m:=m) (by omega);obtain⟨k1,k2⟩:=wr_use h hR hz (m:=0-m) (by omega);rw[hm,he]at g1 g2;rw[hm',he]at k2;have d0:decide (m<0)=false:=jad (by omega);rw[d0]at g2;have ht:tenZ (pD (bz s)).toNat≤1000000000:=tenZ_le9 (by omega)
   have hF:∀(a:Y)(n:Int),sz (jgq (pS (bz s)) (pW (bz s)) (pD (bz s)).toNat n)=a→(a.toList==t.toList)=decide (fdN (bz s) n=bz t):=fun a n e=>by
    rw[jd9,←e,jg5 (field_isB hl.1 _ _ _)];rfl
   refine c_t (by rw[be,hdd,ze,Bool.and_true,jae];omega) (c_t g1 fun a1 l1 q1 q2=>cond_intro (fun p=> ?_) (fun p=>c_t g1 fun a2 l2 q3 q4=> ?_))
   ·rw[hF _ _ (by rw[←q1,g2])]at p;rw[if_pos (jab p)]
   ·rw[hF _ _ (by rw[←q1,g2])]at p;have p:=jac p;rw[if_neg p];refine c_t (by cases ByteArray.toList a2==ByteArray.toList t<;>simp) ?_;by_cases m0:m>0
    ·have d1:decide (0-m<0)=true:=jaa (by omega);rw[d1]at k2;rw[hF _ _ (by rw[←q3,k2]),w64 (n:=0-m) (by omega)];by_cases r1:fdN (bz s) (0-m)=bz t
     ·cases hG:pG (bz s)with
      | true=>
       have:(decide (fdN (bz s) (0-m)=bz t) && (true&&decide (m>0)))=true:=by rw[jaa r1,jaa m0];rfl
       rw[this,if_pos ⟨rfl,m0,r1⟩];rfl
      | false=>
       rw[Bool.false_and,Bool.and_false,if_neg (fun q=>by cases q.1)];rfl
     ·rw[jad r1,Bool.false_and,if_neg (fun q=>r1 q.2.2)];rfl
    ·rw[jad m0,Bool.and_false,Bool.and_false,if_neg (fun q=>m0 q.2.1)];rfl
 ·have h1:¬pN (bz s)=true:=by rw[h];simp
  rw[rdV,if_neg h1]
def G39:Env:=((Env.nil.addG 68 h70).add 70 (sp2 s71)).add 69 (sp2 s22)
theorem ok_G39:jap Tryz.prog G39:=jak (jak (jao ja5 jke) ok71) ok22
theorem ch_all{l:F}(h:vOK l=true)(hn:pN l=false):(pS l).all (hasZ [65,88,57])=true:=by
 have hc:jfj (exZ l)=true:=by
  simp only[vOK,jaf,Bool.or_eq_true]at h;simp only[pN]at hn;rcases h.2 with q | q
  ·exact q
  ·rw[h.1,q]at hn;cases hn
 rw[pS,if_pos h];simp only[jfj,jaf]at hc;exact hc.1
def s24(s:Y)(t:Y):Bool×Value:=(decide (s.size≤9223372036854775807∧t.size≤9223372036854775807),.bool (hoZ (bz s) (bz t)))
theorem fn24:Fn1 Tryz.prog 36 Tryz.f36:= .m Tryz.func36
theorem v24(s:Y)(t:Y)(R:Value→Prop):jbu Tryz.prog G39 noL Tryz.f36 [Enc.enc s,Enc.enc t] (fun _=>none) 0 (fun v _ _=>R v)=(kh s (b5 (gl t s.size 9223372036854775807 9223372036854775807) (B ((rdV (bz s) (bz t)).snd==0)) R) (b5 ((bz (sz (pS (bz s)))).all (hasZ [65,88,57]) &&gl t (sz (pS (bz s))).size 1000 9223372036854775807) (B (decide (al t=al (sz (pS (bz s)))) &&onGo (bz (sz (pS (bz s)))) (bz t))) R) (B false) R):=by kernel_rfl
theorem ok24:jam Tryz.prog 36 (sp2 s24):=by
 refine jfq ok_G39 hmix fn24 jai jag fun s t hc=> ?_
 rw[jbv,v24];delta cl kh b5 al gl;have hc:(s.size≤9223372036854775807∧t.size≤9223372036854775807):=jab hc
 try dsimp only[s24]
 refine c_t (jaa hc.1) (cond_intro (fun h=>cond_intro (fun hn=> ?_) (fun hn=> ?_)) (fun h=> ?_))
 ·intro k cap d _ _;refine c_t (jaa hc) ?_;rw[hoZ,if_pos h,if_pos hn];rfl
 ·have hl:=jjj s;have b1:bz (sz (pS (bz s)))=pS (bz s):=jg5 hl.1;have z1:(sz (pS (bz s))).size=(pS (bz s)).length:=by rw[←jav,b1]
  have hn':¬pN (bz s)=true:=by rw[hn];simp
  rw[b1,z1,ch_all h hn];refine c_t (by simp only[Bool.true_and,jae];omega) ?_;rw[hoZ,if_pos h,if_neg hn',pCh h hn,jav]
 ·have h1:¬vOK (bz s)=true:=by rw[h];simp
  rw[hoZ,if_neg h1]
end Go.Px
end
section
namespace Go.Fx
open Go Go.Ab
structure Ty where
 k:Int
 p:Int
 q:Int
 v:Bool
 s:Y
structure Vl where
 n:Int
 s:Y
instance:Enc Ty where
 enc t:= .agg ⟨[.int .i64 t.k,.int .i64 t.p,.int .i64 t.q,.bool t.v,.string t.s]⟩
 dec | .agg ⟨[.int .i64 k,.int .i64 p,.int .i64 q,.bool v,.string s]⟩=>some ⟨k,p,q,v,s⟩ | _=>none
 dec_some:=by
  intro v a h;split at h
  ·cases h;rfl
  ·cases h
 plain_enc _:=rfl
instance:Enc Vl where
 enc t:= .agg ⟨[.int .i64 t.n,.string t.s]⟩
 dec | .agg ⟨[.int .i64 n,.string s]⟩=>some ⟨n,s⟩ | _=>none
 dec_some:=by
  intro v a h;split at h
  ·cases h;rfl
  ·cases h
 plain_enc _:=rfl
abbrev I(n:Int):Value:= .int .i64 n
abbrev B(b:Bool):Value:= .bool b
def e0:Y:=⟨#[]⟩
def T0:Ty:=⟨0,0,0,false,⟨#[]⟩⟩
def V0:Vl:=⟨0,⟨#[]⟩⟩
abbrev tv(t:Ty):Value:= .agg ⟨[.int .i64 t.k,.int .i64 t.p,.int .i64 t.q,.bool t.v,.string t.s]⟩
abbrev vv(v:Vl):Value:= .agg ⟨[.int .i64 v.n,.string v.s]⟩
abbrev tup(l:E):Value:= .tuple ⟨l⟩
def most(k:Int):Int:=if k=1 then 9 else 31
def Valid(t:Ty):Prop:=(t.k=1∨t.k=2)∧1≤t.p∧t.p≤most t.k∧0≤t.q∧t.q≤t.p∧(t.k=2→t.q=0)∧t.v=false∧t.s.toList=[]
instance (t:Ty):Decidable (Valid t):=by unfold Valid;infer_instance
def base(k:Int):Int:=if k=1 then 10 else 2
def pw(b n:Int):Int:=b^n.toNat
def bnd(t:Ty):Int:=pw (base t.k) t.p
def check(t:Ty):Int:=if Valid t then 0 else 5
def Fit(v:Vl)(t:Ty):Prop:=v.s.toList=[]∧ -bnd t<v.n∧v.n<bnd t
instance (v:Vl)(t:Ty):Decidable (Fit v t):=by unfold Fit;infer_instance
def fits(v:Vl)(t:Ty):Int:=if Valid t then(if Fit v t then 0 else 6)else 5
def scl(n d:Int):Int:=if 0≤d then n*pw 10 d else n.tdiv (pw 10 (-d))
def InB(n:Int)(t:Ty):Prop:= -bnd t<n∧n<bnd t
instance (n:Int)(t:Ty):Decidable (InB n t):=by unfold InB;infer_instance
def cutN(n:Int)(t:Ty):Int:=if InB n t then n else n.tmod (bnd t)
def cutC(n:Int)(t:Ty)(c:Int):Int:=if InB n t then 0 else c
def tensL:E:=[.int .i64 1,.int .i64 10,.int .i64 100,.int .i64 1000,.int .i64 10000,.int .i64 100000,.int .i64 1000000,.int .i64 10000000,.int .i64 100000000,.int .i64 1000000000,
 .int .i64 10000000000,.int .i64 100000000000,.int .i64 1000000000000,.int .i64 10000000000000,.int .i64 100000000000000,.int .i64 1000000000000000,.int .i64 10000000000000000,.int .i64 100000000000000000,.int .i64 1000000000000000000]
def R64(n:Int):Prop:= -9223372036854775808≤n∧n≤9223372036854775807
instance (n:Int):Decidable (R64 n):=by unfold R64;infer_instance
def zer(op b:Int):Prop:=(op=9∨op=10)∧b=0
instance (op b:Int):Decidable (zer op b):=by unfold zer;infer_instance
def Q18(n:Int):Prop:= -4000000000000000000≤n∧n≤4000000000000000000
instance (n:Int):Decidable (Q18 n):=by unfold Q18;infer_instance
def quoOK(a b up:Int):Prop:=b≠0∧ -18≤up∧up≤18∧Q18 a∧Q18 b∧(0≤up→Q18 (a*pw 10 up))∧(up<0→Q18 (b*pw 10 (-up)))
instance (a b up:Int):Decidable (quoOK a b up):=by unfold quoOK;infer_instance
def dvOK(op y:Int):Prop:=op=10→y≠0
instance (op y:Int):Decidable (dvOK op y):=by unfold dvOK;infer_instance
def rOK(n u:Int):Prop:=1≤u∧u≤1000000000∧ -4000000000000000000≤n∧n≤4000000000000000000
instance (n u:Int):Decidable (rOK n u):=by unfold rOK;infer_instance
theorem w64{n:Int}(h: -9223372036854775808≤n∧n≤9223372036854775807):IntKind.i64.wrap n=n:=by rw[IntKind.wrap_i64];omega
theorem str0(s:Y):(!s.toList==(ByteArray.mk #[]).toList)= !decide (s.toList=[]):=by
 have:(ByteArray.mk #[]).toList=[]:=by kernel_rfl
 rw[this];cases s.toList<;>rfl
end Go.Fx
namespace Go.Fx
open Go Go.Ab
theorem jcb(a b:Int):IntKind.i64.wrap (IntKind.i64.wrap a*b)=IntKind.i64.wrap (a*b):=by
 simp only[IntKind.wrap_i64]
 have h:((a+9223372036854775808)%18446744073709551616-9223372036854775808)*b=a*b+18446744073709551616*(-((a+9223372036854775808)/18446744073709551616)*b):=by
  have:=Int.emod_def (a+9223372036854775808) 18446744073709551616;rw[this];grind
 rw[h];omega
theorem jck(b:Int){n:Int}(h:n≤0):pw b n=1:=by
 rw[pw,show n.toNat=0 by omega,Int.pow_zero]
theorem jcn(b:Int){n:Int}(h:0≤n):pw b (n+1)=pw b n*b:=by
 rw[pw,pw,show(n+1).toNat=n.toNat+1 by omega,Int.pow_succ]
theorem pw_add(b:Int){n m:Int}(h:0≤n)(h':0≤m):pw b (n+m)=pw b n*pw b m:=by
 rw[pw,pw,pw,show(n+m).toNat=n.toNat+m.toNat by omega,Int.pow_add]
theorem jg7{b:Int}(hb:1≤b)(n:Int):1≤pw b n:=by
 have:0<b^n.toNat:=Int.pow_pos (by omega);unfold pw;omega
theorem ji1{b:Int}(hb:1≤b){n m:Int}(h:n≤m):pw b n≤pw b m:=by
 rcases Int.le_total n 0 with hn | hn
 ·rw[jck b hn];exact jg7 hb m
 ·have e:m=n+(m-n):=by omega
  rw[e,pw_add b hn (by omega)];have h1:=jg7 hb n;have h2:=jg7 hb (m-n);have:=Int.mul_le_mul_of_nonneg_left h2 (show 0≤pw b n by omega);omega
theorem pw10_18:pw 10 18=1000000000000000000:=by decide
theorem pw10_9:pw 10 9=1000000000:=by decide
theorem pw2_31:pw 2 31=2147483648:=by decide
end Go.Fx
namespace Go.Fx
open Go Go.Ab
theorem tens_nat:∀n:Nat,n<19→jbd .i64 tensL n=true∧jan tensL n=10^n:=by decide
theorem tens_at{p:Int}(h:0≤p)(h':p<19):jbd .i64 tensL p.toNat=true∧jan tensL p.toNat=pw 10 p:=tens_nat _ (by omega)
theorem shl_pw{p:Int}(h:0≤p)(h':p≤62):IntKind.i64.wrap (1*2^min p.toNat 64)=pw 2 p:=by
 have h1:=ji1 (b:=2) (by omega) h';have h2:=jg7 (b:=2) (by omega) p;have h3:pw 2 62=4611686018427387904:=by decide
 rw[show min p.toNat 64=p.toNat by omega,Int.one_mul];exact w64 (by show _≤pw 2 p∧pw 2 p≤_;omega)
theorem jdg{b p:Int}(h:b=10∧p≤18∨b=2∧p≤62):IntKind.i64.wrap (pw b p)=pw b p:=by
 have h3:pw 2 62=4611686018427387904:=by decide
 have h4:=pw10_18;rcases h with⟨rfl,h⟩ | ⟨rfl,h⟩
 ·have h1:=ji1 (b:=10) (by omega) h;have h2:=jg7 (b:=10) (by omega) p;exact w64 (by omega)
 ·have h1:=ji1 (b:=2) (by omega) h;have h2:=jg7 (b:=2) (by omega) p;exact w64 (by omega)
end Go.Fx
namespace Go.Fx
open Go Go.Ab
theorem bnd_range{t:Ty}(h:Valid t):2≤bnd t∧bnd t≤2147483648:=by
 obtain⟨hk,h1,h2,_⟩:=h;unfold bnd;rcases hk with hk | hk
 ·simp only[hk,most,base]at*;have a:=ji1 (b:=10) (by omega) h1;have b:=ji1 (b:=10) (by omega) (show t.p≤9 by simpa using h2);have c:=pw10_9;have d:pw 10 1=10:=by decide
  simp only[if_true];omega
 ·simp only[hk,most,base]at*;have a:=ji1 (b:=2) (by omega) h1;have b:=ji1 (b:=2) (by omega) (show t.p≤31 by simpa using h2);have c:=pw2_31;have d:pw 2 1=2:=by decide
  simp only[show¬((2:Int)=1)by decide,if_false];omega
end Go.Fx
namespace Go.Fx
end Go.Fx
namespace Go.Fx
open Go Go.Ab
theorem valid_r{t:Ty}(h:Valid t):1≤t.p∧t.p≤31∧0≤t.q∧t.q≤t.p∧t.q≤9:=by grind [Valid,most]
end Go.Fx
namespace Go.Fx
open Go Go.Ab
end Go.Fx
end
section
namespace Go.Cv
def dig(c:Int):Bool:=decide (48≤c∧c≤57)
def jjf(l:List Int):Bool:=l.all fun c=>decide (c=48∨c=49)
def jbw(l:List Int):Bool:=l.all dig
def trL(l:List Int):List Int:=l.dropWhile (· ==32)
def trR(l:List Int):List Int:=(l.reverse.dropWhile (· ==32)).reverse
def ahead(c:Int)(l:List Int):List Int:=l.takeWhile (· !=c)
def past(c:Int)(l:List Int):Option (List Int):=match l.dropWhile (· !=c)with
 | []=>none
 | _::r=>some r
def expD(l:List Int):Option Int:=if 1≤l.length∧l.length≤2∧jbw l=true then some (l.foldl (fun a c=>10*a+(c-48)) 0)else none
def expZ:List Int→Option Int
 | 43::l=>expD l
 | 45::l=>(expD l).map fun n=> -n
 | l=>expD l
abbrev Num:=Bool×List Int×Int
section
variable (ji2 : Bool → List Int → Int → Num) (binD : List Int → List Int)
def decR(neg:Bool)(l:List Int):Option Num:=
 match (match past 69 l with | none=>some 0 | some x=>expZ x)with
 | none=>none
 | some e=>
  let s:=ahead 69 l
  let whole:=ahead 46 s
  let part:=(past 46 s).getD []
  if whole++part≠ []∧jbw whole=true∧jbw part=true then some (ji2 neg (whole++part) (part.length-e))else none
structure Rd where
 neg:Bool:=false
 bin:Bool:=false
 down:Bool:=false
 ds:List Int:=[]
 sc:Int:=0
 pw:Int:=0
end
theorem jc9{a b:List Int}:jbw (a++b)=(jbw a&&jbw b):=List.all_append
section
variable {ji2 : Bool → List Int → Int → Num} {binD : List Int → List Int}
end
def jdf(n:Nat):List Int:=List.replicate n 48
end Go.Cv
end
noncomputable section
namespace Go.Cx
open Go Go.Ab Go.Proofs Go.Shelf Go.Px
open Go.Fx (Ty Vl)
structure Nu where
 g:Bool
 d:Y
 c:Int
instance:Enc Nu where
 enc t:= .agg ⟨[.bool t.g,.string t.d,.int .i64 t.c]⟩
 dec | .agg ⟨[.bool g,.string d,.int .i64 c]⟩=>some ⟨g,d,c⟩ | _=>none
 dec_some:=by
  intro v a h;split at h
  ·cases h;rfl
  ·cases h
 plain_enc _:=rfl
theorem c154:jbe Tryz.prog 80:=cal Tryz.func80 (by kernel_rfl) (by kernel_rfl)
theorem c131:jbe Tryz.prog 218:=cal Tryz.func218 (by kernel_rfl) (by kernel_rfl)
theorem c55:jbe Tryz.prog 67:=cal Tryz.func67 (by kernel_rfl) (by kernel_rfl)
theorem c30:jbe Tryz.prog 72:=cal Tryz.func72 (by kernel_rfl) (by kernel_rfl)
theorem c29:jbe Tryz.prog 175:=cal Tryz.func175 (by kernel_rfl) (by kernel_rfl)
def tlZ(l:F)(c:Int):F:=l.dropWhile (· ==c)
def trZ(l:F)(c:Int):F:=(l.reverse.dropWhile (· ==c)).reverse
noncomputable def s154 (s t : Y) : Bool × Value := (oneB t && asc (bz t), .string (szO (tlZ (bz s) ((bz t).getD 0 0))))
theorem ok154:jam Tryz.prog 80 (sp2 s154):=jcs c154 fun s t hc w _=>by
 simp only[s154,jaf]at hc;obtain⟨c,h1,h2⟩:=jey hc.1;have hlt:c.toNat<128:=jcz hc.2 0 c (by rw[h1];rfl);have e:Enc.enc t=Value.string ⟨#[c]⟩:=congrArg Value.string h1;rw[e];refine(Any.strings_TrimLeft_one Tryz.lays161 s c hlt w).mono fun e w' ⟨h3,h4⟩=>⟨?_,jb0 h4⟩
 rw[h3,jf9];simp only[s154,Lib.trimLeftB,jcq,tlZ];rw[jei (q:=(· ==(bz t).getD 0 0)) (fun b=>by rw[←h2,Bool.eq_iff_iff,beq_iff_eq,beq_iff_eq,jj2]),jiu]
noncomputable def s131 (s t : Y) : Bool × Value := (decide (s.size ≤ 9223372036854775807) && (oneB t && asc (bz t)), .string (szO (trZ (bz s) ((bz t).getD 0 0))))
theorem ok131:jam Tryz.prog 218 (sp2 s131):=jcs c131 fun s t hc w _=>by
 simp only[s131,jaf,jae]at hc;obtain⟨c,h1,h2⟩:=jey hc.2.1;have hlt:c.toNat<128:=jcz hc.2.2 0 c (by rw[h1];rfl);have e:Enc.enc t=Value.string ⟨#[c]⟩:=congrArg Value.string h1;rw[e];refine(Any.strings_TrimRight_one Tryz.lays162 s c hlt w hc.1).mono fun e w' ⟨h3,h4⟩=>⟨?_,jb0 h4⟩
 rw[h3,jf9];simp only[s131,Lib.trimRightB,jcq,trZ];rw[zl,List.map_reverse];have hq:∀b:UInt8,(b==c)=((b.toNat:Int)==(bz t).getD 0 0):=fun b=>by rw[←h2,Bool.eq_iff_iff,beq_iff_eq,beq_iff_eq,jj2]
 have:=jei (p:=(· ==c)) (q:=(· ==(bz t).getD 0 0)) hq s.data.toList.reverse;rw[zl,zl,List.map_reverse]at this;rw[this];rfl
noncomputable def s55 (s t : Y) : Bool × Value := (decide (s.size ≤ 9223372036854775807) && (decide (t.size ≤ 1000) && asc (bz t)), .string (szO (jcj (bz s) (bz t))))
theorem ok55:jam Tryz.prog 67 (sp2 s55):=jcs c55 fun s t hc w _=>by
 simp only[s55,jaf,jae]at hc;obtain⟨h1,h2,h3⟩:=hc;refine(Any.strings_Trim_laid Tryz.lays160 jhx s t w (by omega) (by omega) (jcz h3)).mono fun e w' ⟨h5,h6⟩=>⟨?_,h6⟩
 rw[h5,jf9,trim_zl];simp only[s55,jcq];rfl
def s30(s:Y)(n:Int):Bool×Value:=(decide (0≤n∧n≤1000∧s.size≤1000),.string (szO (repZ (bz s) n.toNat)))
theorem ok30:jam Tryz.prog 72 (sp2 s30):=jcs c30 fun s n hc w _=>by
 obtain⟨h1,h2,h3⟩:=jab hc
 have e:Enc.enc n=Value.int .i64 (n.toNat:Int):=by
  show Value.int .i64 n=_;rw[Int.toNat_of_nonneg h1]
 rw[e];have hm:s.size*n.toNat≤1000*1000:=Nat.mul_le_mul h3 (by omega);refine(Any.strings_Repeat Tryz.lays105 Tryz.Builder_Extra_105 s n.toNat w (by omega) (by omega)).mono fun e w' ⟨h4,h5⟩=>⟨?_,h5⟩
 rw[h4,jf9,jj6];simp only[s30,jcq];rfl
def itoZ(n:Int):F:=zl (Lib.itoa n)
def s29(n:Int):Bool×Value:=(decide (-9223372036854775808≤n∧n≤9223372036854775807),.string (szO (itoZ n)))
theorem ok29:jam Tryz.prog 175 (sp1 s29):=shelf1 c29 fun n hc w ht=>by
 obtain⟨h0,h1⟩:=jab hc;refine(Any.strconv_Itoa (ρ:=Tryz.laysM171_ren) Tryz.laysM171 n h0 h1 w (tab_pow ht)).mono fun e w' ⟨h2,k,os,h3⟩=>⟨?_,by rw[h3];exact Lib.below_grow _ _ (Nat.le_refl _) _ _⟩
 rw[h2,jf9];simp only[s29,jcq];rfl
end Go.Cx
end
noncomputable section
set_option maxHeartbeats 3200000
namespace Go.Cx
open Go Go.Ab Go.Proofs Go.Shelf Go.Px Go.Cv
open Go.Fx (Ty Vl check Valid most base pw bnd Fit fits tv vv tup V0 T0 jck jcn jcb jdg str0)
def G0:Env:=Env.nil
theorem ok_G0:jap Tryz.prog G0:=ja5
def binG:F→Int→Int
 | [],a=>a
 | c::r,a=>binG r (2*a+(c-48))
theorem bz_slice1{s:Y}:bz (s.extract 1 s.size)=(bz s).drop 1:=by
 rw[jci,List.take_of_length_le (by rw[jav];omega)]
theorem jje{s:Y}(n:Nat):bz (s.extract 0 n)=(bz s).take n:=by rw[jci];rfl
theorem jdb(s:Y)(i j:Nat):(s.extract i j).size=min j s.size-i:=ByteArray.size_extract
theorem jcl(s:Y):(s.toList==(ByteArray.mk #[]).toList)=decide (bz s=[]):=by
 rw[jd9];rfl
def s152(c:U8):Bool×Value:=(true,B (c.n==32))
theorem fn152:Fn1 Tryz.prog 216 Tryz.f216:= .m Tryz.func216
theorem v152(c:U8)(R:Value→Prop):jbu Tryz.prog G0 noL Tryz.f216 [Enc.enc c] (fun _=>none) 0 (fun v _ _=>R v)=(R (B (U8.n c==32))):=by kernel_rfl
theorem ok152:jam Tryz.prog 216 (sp1 s152):=by
 refine jda ok_G0 hmix fn152 jai jag fun c hc=> ?_
 rw[jbv,v152]
 try dsimp only[s152]
def s213(c:U8):Bool×Value:=(true,B (dig c.n))
theorem fn213:Fn1 Tryz.prog 236 Tryz.f236:= .m Tryz.func236
theorem v213(c:U8)(R:Value→Prop):jbu Tryz.prog G0 noL Tryz.f236 [Enc.enc c] (fun _=>none) 0 (fun v _ _=>R v)=(bif decide (U8.n c≥48) || true then R (B (decide (U8.n c≥48) &&decide (U8.n c≤57)))else False):=by kernel_rfl
theorem ok213:jam Tryz.prog 236 (sp1 s213):=by
 refine jda ok_G0 hmix fn213 jai jag fun c hc=> ?_
 rw[jbv,v213]
 try dsimp only[s213]
 refine c_t (by simp) ?_;show Value.bool _=Value.bool _;congr 1;rw[Bool.eq_iff_iff];simp[dig]
def s141(k:Int):Bool×Value:=(true,I (most k))
theorem fn141:Fn1 Tryz.prog 104 Tryz.f104:= .m Tryz.func104
theorem v141(k:Int)(R:Value→Prop):jbu Tryz.prog G0 noL Tryz.f104 [Enc.enc k] (fun _=>none) 0 (fun v _ _=>R v)=(bif k==1 then R (I 9)else R (I 31)):=by kernel_rfl
theorem ok141:jam Tryz.prog 104 (sp1 s141):=by
 refine jda ok_G0 hmix fn141 jai jag fun k hc=> ?_
 rw[jbv,v141]
 try dsimp only[s141]
 repeat' apply cond_intro<;>intro h
 all_goals grind [s141,most]
def G1:Env:=Env.nil.add 104 (sp1 s141)
theorem ok_G1:jap Tryz.prog G1:=jak ja5 ok141
def s66(t:Ty):Bool×Value:=(true,I (check t))
theorem fn66:Fn1 Tryz.prog 64 Tryz.f64:= .m Tryz.func64
def dl(a:Fx.Ty)(b:Int):Bool:=Fx.Ty.k a==b
def lx(b:Bool)(a:Fx.Ty):Bool:=au (Fx.Ty.p a) 1 || (aq (Fx.Ty.p a) (Fx.most (Fx.Ty.k a)) || ij (bif dl a 2 then Fx.Ty.q a !=0 || (Fx.Ty.v a || b)else Fx.Ty.v a || b) (Fx.Ty.q a) 0 (Fx.Ty.p a))
def lu(b:Bool)(a:Fx.Ty):Bool:=bif !dl a 1 then !dl a 2 || lx b a else lx b a
theorem v66(t:Ty)(R:Value→Prop):jbu Tryz.prog G1 noL Tryz.f64 [Enc.enc t] (fun _=>none) 0 (fun v _ _=>R v)=(gn (lu true t) (lu (!cv (Fx.Ty.s t) az) t) (ak 5) (ak 0) R):=by kernel_rfl
theorem ok66:jam Tryz.prog 64 (sp1 s66):=by
 refine jda ok_G1 hmix fn66 jai jag fun t hc=> ?_
 rw[jbv,v66];delta gn ak aq au ij dl lx lu cv az
 try dsimp only[s66]
 repeat' apply cond_intro<;>intro h
 all_goals grind [s66,check,Valid,str0]
def G2:Env:=Env.nil.add 64 (sp1 s66)
theorem ok_G2:jap Tryz.prog G2:=jak ja5 ok66
def s85(t:Ty):Bool×Value:=(true,B (decide (Valid t)))
theorem fn85:Fn1 Tryz.prog 227 Tryz.f227:= .m Tryz.func227
theorem v85(t:Ty)(R:Value→Prop):jbu Tryz.prog G2 noL Tryz.f227 [Enc.enc t] (fun _=>none) 0 (fun v _ _=>R v)=(R (B (check t==0))):=by kernel_rfl
theorem ok85:jam Tryz.prog 227 (sp1 s85):=by
 refine jda ok_G2 hmix fn85 jai jag fun t hc=> ?_
 rw[jbv,v85]
 try dsimp only[s85]
 show Value.bool _=Value.bool _;congr 1;rw[check];split<;>simp_all
def G4:Env:=Env.nil
theorem ok_G4:jap Tryz.prog G4:=ja5
def nz(l:F):F:=trZ (tlZ l 48) 48
def ji2(g:Bool)(l:F)(q:Int):Num:=if nz l=[]then(false,[],0)else(g,nz l,q-((tlZ l 48).length-(nz l).length))
def decG:F→Int→Int
 | [],a=>a
 | c::r,a=>decG r (10*a+(c-48))
abbrev numV(x:Num):Value:= .agg ⟨[.bool x.1,.string (szO x.2.1),.int .i64 x.2.2]⟩
def num0:Num:=(false,[],0)
theorem tl_cons(c:Int)(l:F):tlZ (c::l) c=tlZ l c:=by simp[tlZ]
theorem tl_ne{c d:Int}(h:d≠c)(l:F):tlZ (d::l) c=d::l:=by simp[tlZ,h]
theorem tr_snoc(c:Int)(l:F):trZ (l++ [c]) c=trZ l c:=by simp[trZ]
theorem tr_ne{c d:Int}(h:d≠c)(l:F):trZ (l++ [d]) c=l++ [d]:=by simp[trZ,h]
theorem tr_len(l:F)(c:Int):(trZ l c).length≤l.length:=by
 rw[trZ,List.length_reverse];exact Nat.le_trans (List.dropWhile_sublist _).length_le (by rw[List.length_reverse];omega)
theorem jig(l:F)(c:Int):(tlZ l c).length≤l.length:=(List.dropWhile_sublist _).length_le
theorem trL_eq(l:F):trL l=tlZ l 32:=rfl
theorem trR_eq(l:F):trR l=trZ l 32:=rfl
theorem jib{s:Y}{n:Int}(h:(s.size:Int)=n+1)(h0:0≤n):bz s=bz (s.extract 0 n.toNat)++ [jau s n.toNat]:=by
 have e:=List.take_append_drop n.toNat (bz s);have d:=jen (s:=s) (i:=n) h0 (by omega);rw[jkn (s:=s) (i:=n+1) (by omega)]at d;rw[jje,←d,e]
theorem bz_head{s:Y}(h:0<s.size):bz s=jau s 0::bz (s.extract 1 s.size):=by
 rw[bz_slice1];exact jen (s:=s) (i:=0) (by omega) (by omega)
theorem jkm{s:Y}(h:s.size=0):bz s=[]:=List.length_eq_zero_iff.1 (by rw[jav];exact h)
theorem jj3{s:Y}{l:F}(h:bz s=l):s=szO l:=by rw[jcq,←h,jj4]
theorem jcx(l:F):(szO l).size=l.length:=by rw[jcq,jiy]
def V79_0:Y×Y→E:=fun(s,r)=> [S s,S r]
def B79_0:Y×Y→J:=fun _=> []
def S79_0:LSpec (Y×Y) where
 live:=[0,2]
 mid:=[]
 n:=60
 dec vs bs:=match vs,bs with | [.string s,.string r],[]=>some (s,r) | _,_=>none
 pre:=fun(s,r)=>decide (s.size≤9223372036854775807)
 fin:=fun(s,r) Z=>∀s':Y,bz s'=tlZ (bz s) 32→Z (.exit 0) [S s',S r] []
def ko(a f g:Y)(e:Exit→E→J→Prop)(b c d:Int)(h:Nat):Prop:=bif bif aq (al a) 0 then bn b (al a) &&true else true then bif aq (al a) 0&&dw a b 32 then a0 (co a c d) e [] [.string f,.string g]else e (.exit h) [.string a,.string g] []else False
theorem r79_0(s:Y)(r:Y)(jk:Tmps)(R:Exit→E→J→Prop):(jb3 Tryz.prog G4 noL Tryz.f40.ntmps (jbk Tryz.f40 0) (tl S79_0.live (V79_0 (s,r)) jk) (ml S79_0.mid (B79_0 (s,r))) S79_0.n fun e t' m' _=>R e (List.map t' S79_0.live) (List.map m' S79_0.mid))=(ko s (s.extract (Int.toNat 1) s.size) r R 0 1 (al s) 0):=by kernel_rfl
theorem l79_0:∀t m n K,S79_0.h t m n K→Ab.Sem Tryz.prog Tryz.f40.ntmps (.loop (jbk Tryz.f40 0)) t m n K:=by
 refine jdi ok_G4 hmix (by kernel_rfl) (jbi _) S79_0 V79_0 B79_0 (fun(s,r)=>s.size) ?_ ?_ ?_
 ·intro vs bs s h;simp only[S79_0]at h;split at h
  all_goals first | (cases h;exact⟨rfl,rfl⟩) | cases h | (split at h<;>first | (rename_i hq;cases h;have hq:=jah hq;subst hq;exact⟨rfl,rfl⟩) | cases h)
 ·exact fun _ _ _ h=>h
 ·intro⟨s,r⟩ jk Z hp hf;rw[r79_0];delta a0 al co dw aq bn ko;simp only[S79_0]at hp hf;have hp:s.size≤9223372036854775807:=jab hp;have hx:(decide ((s.size:Int)>0))=true→0<s.size:=fun h=>by have:=jab h;omega
  refine c_t (by rcases Nat.eq_zero_or_pos s.size with q | q<;>simp[q]) (cond_intro (fun h=> ?_) (fun h=> ?_))
  ·simp only[jaf]at h;have h0:=hx h.1;have hc:jau s 0=32:=by simpa using h.2
   rw[bz_head h0,hc,tl_cons]at hf;refine c_t (by simp;try omega) ?_;exact⟨(s.extract 1 s.size,r),rfl,rfl,by simp only[S79_0,jae,jdb];omega,by simp only[jdb];omega,hf⟩
  ·refine hf s ?_;rcases Nat.eq_zero_or_pos s.size with h0 | h0
   ·rw[jkm h0];rfl
   ·rw[bz_head h0];refine(tl_ne (fun q=> ?_) _).symm;simp[q,h0]at h
def V79_2:Y×Y→E:=fun(s,r)=> [S s,S r]
def B79_2:Y×Y→J:=fun _=> []
def S79_2:LSpec (Y×Y) where
 live:=[0,2]
 mid:=[]
 n:=60
 dec vs bs:=match vs,bs with | [.string s,.string r],[]=>some (s,r) | _,_=>none
 pre:=fun(s,r)=>decide (s.size≤9223372036854775807)
 fin:=fun(s,r) Z=>∀s':Y,bz s'=trZ (bz s) 32→Z (.exit 2) [S s',S r] []
theorem r79_2(s:Y)(r:Y)(jk:Tmps)(R:Exit→E→J→Prop):(jb3 Tryz.prog G4 noL Tryz.f40.ntmps (jbk Tryz.f40 2) (tl S79_2.live (V79_2 (s,r)) jk) (ml S79_2.mid (B79_2 (s,r))) S79_2.n fun e t' m' _=>R e (List.map t' S79_2.live) (List.map m' S79_2.mid))=(ko s (dt s 1) r R (b7 s 1) 0 (b7 s 1) 2):=by kernel_rfl
theorem l79_2:∀t m n K,S79_2.h t m n K→Ab.Sem Tryz.prog Tryz.f40.ntmps (.loop (jbk Tryz.f40 2)) t m n K:=by
 refine jdi ok_G4 hmix (by kernel_rfl) (jbi _) S79_2 V79_2 B79_2 (fun(s,r)=>s.size) ?_ ?_ ?_
 ·intro vs bs s h;simp only[S79_2]at h;split at h
  all_goals first | (cases h;exact⟨rfl,rfl⟩) | cases h | (split at h<;>first | (rename_i hq;cases h;have hq:=jah hq;subst hq;exact⟨rfl,rfl⟩) | cases h)
 ·exact fun _ _ _ h=>h
 ·intro⟨s,r⟩ jk Z hp hf;rw[r79_2];delta a0 al co dw aq bn ko b7 dt;simp only[S79_2]at hp hf;have hp:s.size≤9223372036854775807:=jab hp;have hl:∀h:0<s.size,IntKind.i64.wrap ((s.size:Int)-1)=((s.size-1:Nat):Int):=fun h=>by rw[w64 (by omega)];omega
  refine c_t (by
    rcases Nat.eq_zero_or_pos s.size with q | q
    ·simp[q]
    ·rw[hl q];simp
     try omega) (cond_intro (fun h=> ?_) (fun h=> ?_))
  ·simp only[jaf]at h;have h0:0<s.size:=by have:=jab h.1;omega
   rw[hl h0]at h ⊢;have hb:=jib (s:=s) (n:=((s.size-1:Nat):Int)) (by omega) (by omega);rw[Int.toNat_natCast]at hb;have hc:jau s (s.size-1)=32:=by simpa using h.2
   rw[hc]at hb;have hb':=hb;rw[hb,tr_snoc]at hf;refine c_t (by simp;try omega) ?_;exact⟨(s.extract 0 (s.size-1),r),rfl,rfl,by simp only[S79_2,jae,jdb];omega,by simp only[jdb];omega,hf⟩
  ·have hz:bz s=trZ (bz s) 32:=by
    rcases Nat.eq_zero_or_pos s.size with h0 | h0
    ·rw[jkm h0];rfl
    ·have hb:=jib (s:=s) (n:=((s.size-1:Nat):Int)) (by omega) (by omega);rw[Int.toNat_natCast]at hb;rw[hb];refine(tr_ne (fun q=> ?_) _).symm;rw[hl h0]at h;simp[q,h0]at h
   exact hf s hz
theorem lok79:LOKf Tryz.prog (twoL 0 S79_0.h 2 S79_2.h) Tryz.f40:=jht (by kernel_rfl) (by kernel_rfl) l79_0 l79_2
def s79(s:Y):Bool×Value:=(decide (s.size≤9223372036854775807),S (szO (trZ (tlZ (bz s) 32) 32)))
theorem fn79:Fn1 Tryz.prog 40 Tryz.f40:= .m Tryz.func40
theorem v79(s:Y)(R:Value→Prop):jbu Tryz.prog G4 (twoL 0 S79_0.h 2 S79_2.h) Tryz.f40 [Enc.enc s] (fun _=>none) 0 (fun v _ _=>R v)=(bif S79_0.pre (s,az)then∀a:Y,bz a=tlZ (bz s) 32→Tmps→(bif S79_2.pre (a,az)then∀b:Y,bz b=trZ (bz a) 32→Tmps→R (S b)else False)else False):=by kernel_rfl
theorem ok79:jam Tryz.prog 40 (sp1 s79):=by
 refine jda ok_G4 hmix fn79 lok79 jag fun s hc=> ?_
 rw[jbv,v79];delta az;have hc:(s.size≤9223372036854775807):=jab hc
 try dsimp only[s79]
 refine c_t (jaa hc) fun s1 h1 _=> ?_
 have hs:s1.size≤s.size:=by rw[←jav,←jav,h1];exact jig _ _
 refine c_t (jaa (by omega)) fun s2 h2 _=> ?_
 rw[h1]at h2;rw[jj3 h2]
theorem jh9:∀(l:F)(a:Int),decG l a=l.foldl (fun a c=>10*a+(c-48)) a
 | [],_=>rfl
 | c::l,a=>jh9 l _
def chk4(t:Ty):Int:=if Valid t then 0
 else if t.k=3∧t.q=0∧bz t.s=[]∧0≤t.p∧t.p≤255 then 0
 else if t.k=4∧t.q=0∧bz t.s=[]∧t.v=false∧0≤t.p∧t.p≤64 then 0
 else if t.k=5∧t.p=0∧t.q=0∧t.v=false∧pE (bz t.s)=0 then 0
 else if t.k=6∧t.q=0∧bz t.s=[]∧t.p=0∧t.v=false then 0 else 5
def is4(v:Vl)(t:Ty):Bool:=
 if t.k=1∨t.k=2 then Fx.fits v t==0
 else if t.k=3 then decide (v.n=0∧((v.s.size:Int)=t.p∨t.v=true∧(v.s.size:Int)<t.p))
 else if t.k=4 then decide (v.n=0∧(v.s.size:Int)=t.p) &&jjf (bz v.s)
 else if t.k=5 then decide (v.n=0) &&hoZ (bz t.s) (bz v.s)
 else decide (bz v.s=[]∧0≤v.n∧v.n≤524288)
def fit4(v:Vl)(t:Ty):Int:=if chk4 t≠0 then chk4 t else if is4 v t=true then 0 else 6
theorem jkd{l:F}(h:IsB l)(c:Int):IsB (tlZ l c):=fun x hx=>h x ((List.dropWhile_sublist _).subset hx)
theorem isB_tr{l:F}(h:IsB l)(c:Int):IsB (trZ l c):=fun x hx=>by
 rw[trZ,List.mem_reverse]at hx;exact h x (List.mem_reverse.1 ((List.dropWhile_sublist _).subset hx))
theorem jd6{l:F}(h:IsB l):bz (szO l)=l:=by rw[jcq,jg5 h]
theorem jhk:szO []=⟨#[]⟩:=jcq []
end Go.Cx
end
section
namespace Go.Cv
section
variable {l : List Int} {r : Rd} {c : Int}
variable {s p : Bool}
variable {g : Bool} {m : Nat}
end
end Go.Cv
end
noncomputable section
set_option maxHeartbeats 3200000
namespace Go.Cx
open Go Go.Ab Go.Proofs Go.Shelf Go.Px Go.Cv
open Go.Fx (Ty Vl check Valid most base pw bnd Fit fits tv vv tup V0 T0 jck jcn jcb jdg str0)
inductive Ms where
 | beg | bod (s p:Bool) | exq (g:Bool) (m:Int) | beh
def Ms.v:Ms→Value
 | .beg=> .func (.func 215) ⟨[]⟩ ⟨[]⟩
 | .bod _ _=> .func (.func 235) ⟨[]⟩ ⟨[.pointer (some ⟨200,0,some 0⟩),.pointer (some ⟨201,0,some 0⟩)]⟩
 | .exq _ _=> .func (.func 244) ⟨[]⟩ ⟨[.pointer (some ⟨200,0,some 0⟩),.pointer (some ⟨201,0,some 0⟩)]⟩
 | .beh=> .func (.func 245) ⟨[]⟩ ⟨[]⟩
theorem zl_isB(l:Ya):IsB (zl l):=fun c hc=>by
 obtain⟨b,_,rfl⟩:=List.mem_map.1 hc;have:=b.toNat_lt;omega
theorem trim_isB{l c:F}(h:IsB l):IsB (jcj l c):=fun x hx=>by
 refine h x ?_;have:=(List.dropWhile_sublist _).subset hx;exact List.mem_reverse.1 ((List.dropWhile_sublist _).subset (List.mem_reverse.1 this))
theorem dropW_all{p:Int→Bool}:∀{l:F},(∀c∈l,p c=true)→l.dropWhile p=[]
 | [],_=>rfl
 | c::l,h=>by rw[List.dropWhile_cons_of_pos (h c (List.mem_cons_self ..))];exact dropW_all fun d hd=>h d (List.mem_cons_of_mem _ hd)
theorem dropW_head{p:Int→Bool}{l:F}{c:Int}(hc:c∈l)(hp:p c=false):∃d r,l.dropWhile p=d::r∧p d=false:=by
 induction l with
 | nil=>cases hc
 | cons a l ih=>
  cases ha:p a with
  | false=>exact⟨a,l,by rw[List.dropWhile_cons_of_neg (by simp[ha])],ha⟩
  | true=>
   rw[List.dropWhile_cons_of_pos ha];rcases List.mem_cons.1 hc with rfl | hc
   ·rw[ha]at hp;cases hp
   ·exact ih hc
theorem trim_bits(l:F):decide (jcj l (bz ⟨#[48,49]⟩)=[])=jjf l:=by
 have e:bz ⟨#[48,49]⟩=[48,49]:=rfl
 have hh:∀c:Int,hasZ [48,49] c=decide (c=48∨c=49):=fun c=>by
  rw[Bool.eq_iff_iff,jba,jae];simp
 rw[e,Bool.eq_iff_iff,jae];constructor
 ·intro h;unfold jjf;refine List.all_eq_true.2 fun c hc=> ?_
  cases q:decide (c=48∨c=49)with
  | true=>rfl
  | false=>
   exfalso;rw[←hh]at q;obtain⟨d,r,h1,h2⟩:=dropW_head (List.mem_reverse.2 hc) q;have hm:d∈(l.reverse.dropWhile (hasZ [48,49])).reverse:=by rw[h1];simp
   obtain⟨d',r',h3,_⟩:=dropW_head hm h2;unfold jcj at h;rw[h3]at h;cases h
 ·intro h;have ha:∀c∈l,hasZ [48,49] c=true:=fun c hc=>by rw[hh];exact List.all_eq_true.1 h c hc
  unfold jcj;rw[dropW_all (l:=l.reverse) fun c hc=>ha c (List.mem_reverse.1 hc)];rfl
def K0:Env:=Env.nil
theorem ok_K0:jap Tryz.prog K0:=ja5
def s191:Bool×Value:=(true,.agg ⟨Fx.tensL⟩)
theorem fn191:Fn1 Tryz.prog 105 Tryz.f105:= .m Tryz.func105
theorem v191(R:Value→Prop):jbu Tryz.prog K0 noL Tryz.f105 [] (fun _=>none) 0 (fun v _ _=>R v)=(R (.agg ⟨Fx.tensL⟩)):=by kernel_rfl
theorem ok191:jam Tryz.prog 105 (sp0 s191):=by
 refine qure0 ok_K0 hmix fn191 jai fun hc=> ?_
 rw[jbv,v191]
 try dsimp only[s191]
def K1:Env:=Env.nil.add 105 (sp0 s191)
theorem ok_K1:jap Tryz.prog K1:=jak ja5 ok191
def s144(t:Ty):Bool×Value:=(decide (Valid t),I (bnd t))
theorem fn144:Fn1 Tryz.prog 66 Tryz.f66:= .m Tryz.func66
theorem v144(t:Ty)(R:Value→Prop):jbu Tryz.prog K1 noL Tryz.f66 [Enc.enc t] (fun _=>none) 0 (fun v _ _=>R v)=(bif dl t 1 then b5 (bn (Fx.Ty.p t) 19&&jbd .i64 Fx.tensL (Fx.Ty.p t).toNat) (I (jan Fx.tensL (Fx.Ty.p t).toNat)) R else b5 (decide (0≤Fx.Ty.p t)) (I (gm 1 (2^Min.min (Fx.Ty.p t).toNat 64))) R):=by kernel_rfl
theorem ok144:jam Tryz.prog 66 (sp1 s144):=by
 refine jda ok_K1 hmix fn144 jai jag fun t hc=> ?_
 rw[jbv,v144];delta b5 gm bn dl;have hc:(Valid t):=jab hc
 try dsimp only[s144]
 obtain⟨h1,h2,h3,h4,h5⟩:=Fx.valid_r hc;have hm:t.k=1→t.p≤9:=fun h=>by have:=hc.2.2.1;rw[h]at this;exact this
 apply cond_intro<;>intro h
 ·have h:t.k=1:=eq_of_beq h;have ht:=Fx.tens_at (p:=t.p) (by omega) (by have:=hm h;omega);refine c_t (by rw[ht.1,jaa (show 0≤t.p∧t.p<19 by have:=hm h;omega)];rfl) ?_;rw[ht.2,bnd,h];rfl
 ·have h:t.k=2:=hc.1.resolve_left (by simpa using h);refine c_t (jaa (by omega)) ?_;rw[Fx.shl_pw (by omega) (by omega),bnd,h];rfl
def K2:Env:=((Env.nil.add 67 (sp2 s55)).add 64 (sp1 s66)).add 66 (sp1 s144)
theorem ok_K2:jap Tryz.prog K2:=jak (jak (jak ja5 ok55) ok66) ok144
def s70(v:Vl)(t:Ty):Bool×Value:=(true,I (Fx.fits v t))
theorem fn70:Fn1 Tryz.prog 34 Tryz.f34:= .m Tryz.func34
theorem v70(v:Vl)(t:Ty)(R:Value→Prop):jbu Tryz.prog K2 noL Tryz.f34 [Enc.enc v,Enc.enc t] (fun _=>none) 0 (fun v _ _=>R v)=(bif check t !=0 then R (I (check t))else bif decide (Valid t)then bif !v.s.toList==(ByteArray.mk #[]).toList || (decide (v.n≤IntKind.wrap .i64 (0-bnd t)) || true)then bif !v.s.toList==(ByteArray.mk #[]).toList || (decide (v.n≤IntKind.wrap .i64 (0-bnd t)) || decide (v.n≥bnd t))then R (I 6)else R (I 0)else False else False):=by kernel_rfl
theorem ok70:jam Tryz.prog 34 (sp2 s70):=by
 refine jfq ok_K2 hmix fn70 jai jag fun v t hc=> ?_
 rw[jbv,v70]
 try dsimp only[s70]
 rw[str0];by_cases hv:Valid t
 ·obtain⟨h1,h2,h3,h4⟩:=Fx.valid_r hv;have hb:=Fx.bnd_range hv;have hc:check t=0:=if_pos hv;rw[hc,w64 (n:=0-bnd t) (by omega)];refine c_f rfl (c_t (jaa hv) (c_t (by simp) ?_));unfold Fx.fits;rw[if_pos hv];apply cond_intro<;>intro h
  ·rw[if_neg];intro hf;unfold Fit at hf;simp[hf.1]at h;omega
  ·rw[if_pos];unfold Fit;simp at h;grind
 ·have hc:check t=5:=if_neg hv;rw[hc];refine c_t rfl ?_;unfold Fx.fits;rw[if_neg hv]
def s71(s:Y):Bool×Value:=(decide (s.size≤9223372036854775807),B (jjf (bz s)))
theorem fn71:Fn1 Tryz.prog 35 Tryz.f35:= .m Tryz.func35
theorem v71(s:Y)(R:Value→Prop):jbu Tryz.prog K2 noL Tryz.f35 [Enc.enc s] (fun _=>none) 0 (fun v _ _=>R v)=(b5 (cl s&& (ez ⟨#[48,49]⟩ &&asc (bz ⟨#[48,49]⟩))) (B (gv s [49] 48)) R):=by kernel_rfl
theorem ok71:jam Tryz.prog 35 (sp1 s71):=by
 refine jda ok_K2 hmix fn71 jai jag fun s hc=> ?_
 rw[jbv,v71];delta b5 cv az gv ez cl;have hc:(s.size≤9223372036854775807):=jab hc
 try dsimp only[s71]
 refine c_t (by rw[jaa hc,Bool.true_and];kernel_rfl) ?_;rw[jcl,jd6 (trim_isB (jfo s)),trim_bits]
theorem fn20:Fn1 Tryz.prog 33 Tryz.f33:= .m Tryz.func33
theorem fn22:Fn1 Tryz.prog 7 Tryz.f7:= .m Tryz.func7
end Go.Cx
end
noncomputable section
namespace Go.Ff
open Go Go.Ab Go.Proofs Go.Px
theorem jhw{l:E}:jbg l=true↔ ∀v∈l,∃n,v= .int .u8 n:=by
 induction l with
 | nil=>simp[jbg]
 | cons v r ih=>
  constructor
  ·intro h;unfold jbg at h;split at h
   ·rename_i heq;cases heq
   ·rename_i n r' heq;cases heq;intro u hu;rcases List.mem_cons.1 hu with rfl | hu
    ·exact⟨_,rfl⟩
    ·exact ih.1 h u hu
   ·cases h
  ·intro h;obtain⟨n,rfl⟩:=h v (List.mem_cons_self ..);exact ih.2 fun u hu=>h u (List.mem_cons_of_mem _ hu)
theorem isB_plain{d:E}(h:jbg d=true):jay d=true:=by
 rw[←jjy h];exact jf5 _
theorem atB:∀{d:E}{j:Nat},jbg d=true→j<d.length→jbd .u8 d j=true∧jan d j=(d.map iv).getD j 0
 | .int .u8 n::r,0,_,_=>⟨rfl,rfl⟩
 | .int .u8 n::r,j+1,h,hj=>by
  have:=atB (d:=r) (j:=j) (by simpa[jbg]using h) (by simpa using hj);simpa[jbd,jan]using this
end Go.Ff
end
noncomputable section
namespace Go.Ab
open Go Go.RowKit
def eqI(a b:Int):Bool:=match a,b with
 | .ofNat m,.ofNat n=>Nat.beq m n
 | .negSucc m,.negSucc n=>Nat.beq m n
 | _,_=>false
def eqU:Ya→Ya→Bool
 | [],[]=>true
 | a::l,b::r=>match Nat.beq a.toNat b.toNat with | true=>eqU l r | false=>false
 | _,_=>false
def eqK(a b:IntKind):Bool:=match decEq a b with | .isTrue _=>true | .isFalse _=>false
mutual
def eqV:Value→Value→Bool
 | .int k a,.int k' b=>match eqK k k' with | true=>eqI a b | false=>false
 | .bool a,.bool b=>match a,b with | true,true=>true | false,false=>true | _,_=>false
 | .string ⟨⟨a⟩⟩,.string ⟨⟨b⟩⟩=>eqU a b
 | .agg ⟨l⟩,.agg ⟨r⟩=>eqVL l r
 | .iface t a,.iface t' b=>match Nat.beq t t' with | true=>eqV a b | false=>false
 | .nilIface,.nilIface=>true
 | _,_=>false
def eqVL:E→E→Bool
 | [],[]=>true
 | a::l,b::r=>match eqV a b with | true=>eqVL l r | false=>false
 | _,_=>false
end
theorem eqI_spec{a b:Int}(h:eqI a b=true):a=b:=by
 unfold eqI at h;split at h
 ·rw[jah h]
 ·rw[jah h]
 ·cases h
theorem eqU_spec:∀{a b:Ya},eqU a b=true→a=b
 | [],[],_=>rfl
 | a::l,b::r,h=>by
  simp only[eqU]at h;split at h
  ·rename_i hb;rw[UInt8.toNat_inj.1 (jah hb),eqU_spec h]
  ·cases h
 | [],_::_,h=>by cases h
 | _::_,[],h=>by cases h
theorem eqK_spec{a b:IntKind}(h:eqK a b=true):a=b:=by
 unfold eqK at h;split at h
 ·assumption
 ·cases h
mutual
theorem eqV_spec:∀{a b:Value},eqV a b=true→a=b
 | .int k a,.int k' b,h=>by
  simp only[eqV]at h;split at h
  ·rename_i hk;rw[eqK_spec hk,eqI_spec h]
  ·cases h
 | .bool a,.bool b,h=>by cases a<;>cases b<;>first | rfl | cases h
 | .string ⟨⟨a⟩⟩,.string ⟨⟨b⟩⟩,h=>by
  simp only[eqV]at h;rw[eqU_spec h]
 | .agg ⟨l⟩,.agg ⟨r⟩,h=>by
  simp only[eqV]at h;rw[jgr h]
 | .iface t a,.iface t' b,h=>by
  simp only[eqV]at h;split at h
  ·rename_i ht;rw[jah ht,eqV_spec h]
  ·cases h
 | .nilIface,.nilIface,_=>rfl
theorem jgr:∀{a b:E},eqVL a b=true→a=b
 | [],[],_=>rfl
 | a::l,b::r,h=>by
  simp only[eqVL]at h;split at h
  ·rename_i hb;rw[eqV_spec hb,jgr h]
  ·cases h
 | [],_::_,h=>by cases h
 | _::_,[],h=>by cases h
end
def memo:List (E×Value)→Spec
 | []=>fun _ _=>none
 | (a,v)::r=>fun args bs=>match eqVL args a with | true=>some (true,v) | false=>memo r args bs
theorem jez{args:E}{bs:J}{b:Bool}{v:Value}:∀{l:List (E×Value)},memo l args bs=some (b,v)→b=true∧(args,v)∈l
 | [],h=>by cases h
 | (a,u)::r,h=>by
  simp only[memo]at h;split at h
  ·rename_i ha;simp only[Option.some.injEq,Prod.mk.injEq]at h;exact⟨h.1.symm,by rw[jgr ha,h.2];exact List.mem_cons_self ..⟩
  ·obtain⟨h1,h2⟩:=jez h;exact⟨h1,List.mem_cons_of_mem _ h2⟩
variable [Tabs]
def AllD(P:Program)(G:Env)(L:Nat→Option jbr)(fn:Func):List (E×Value)→Prop
 | []=>True
 | (a,v)::r=>jbv P G L fn a v∧AllD P G L fn r
theorem AllD_mem{P:Program}{G:Env}{L:Nat→Option jbr}{fn:Func}{a:E}{v:Value}:∀{l:List (E×Value)},AllD P G L fn l→(a,v)∈l→jbv P G L fn a v
 | (a',v')::r,h,hm=>by
  rcases List.mem_cons.1 hm with e | hm
  ·cases e;exact h.1
  ·exact AllD_mem h.2 hm
theorem pure_memo{P:Program}{G:Env}{L:Nat→Option jbr}{f:FuncId}{fn:Func}(hG:jap P G)(hm:P.follows .mixedOrders=true)(hf:Fn1 P f fn)(hL:LOKf P L fn){l:List (E×Value)}
  (hp:(l.all fun x=>jay x.1&&Nat.ble x.1.length fn.ntmps)=true) (h:AllD P G L fn l):jam P f (memo l):=by
 refine jed hG hm hf hL fun args bs v hs=> ?_
 obtain⟨_,hmem⟩:=jez hs;have:=List.all_eq_true.1 hp _ hmem;simp only[jaf]at this;exact⟨this.1,jag this.2,AllD_mem h hmem⟩
omit [Tabs] in
omit [Tabs] in
def RunL(P:Program)(G:Env)(L:Nat→Option jbr)(fn:Func):List (E×Value)→Prop
 | []=>True
 | (a,v)::r=>jbu P G L fn a (fun _=>none) 0 (fun v' _ _=>v'=v)∧RunL P G L fn r
theorem allD_of{P:Program}{G:Env}{L:Nat→Option jbr}{fn:Func}:∀{l:List (E×Value)},RunL P G L fn l→AllD P G L fn l
 | [],_=>trivial
 | (_,_)::_,h=>⟨by rw[jbv];exact h.1,allD_of h.2⟩
inductive Nst where
 | leaf
 | app (src:Option Nat) (n s:Nat) (r:Nst)
 | bts (n:Nat) (r:Nst)
 | both (a b:Nst)
 | le (i:Nat) (r:Nst)
def lenB(t:E)(c n s:Nat):Bool:=Nat.beq (t.length+n*s) (c*s) &&Nat.ble n c&&Nat.ble c 9223372036854775807&&true&&true
def jg4(p:Prop):Nst→List (E×Nat×Nat×Nat)→Prop
 | .leaf,_=>p
 | .bts n r,e=>∀c:Nat,Nat.ble n c=true→jg4 p r e
 | .both a b,e=>jg4 p a e∧jg4 p b e
 | .le i r,e=>match e[i]? with
  | some (_,c0,n0,_)=>bif Nat.ble n0 c0 then jg4 p r e else False
  | none=>True
 | .app none n s r,e=>∀(c:Nat)(t:E),jbf t c n s=true→jg4 p r ((t,c,n,s)::e)
 | .app (some i) n s r,e=>match e[i]? with
  | some (t0,c0,n0,s0)=>bif lenB t0 c0 n0 s0 then∀(c:Nat)(t:E),jbf t c n s=true→jg4 p r ((t,c,n,s)::e)else False
  | none=>True
theorem lenB_ok{t:E}{c n s:Nat}(h:jbf t c n s=true):lenB t c n s=true:=by
 simp only[jbf,jaf]at h;simp only[lenB,h.1.1.2,h.1.2,h.2,Bool.and_true]
theorem lenB_le{t:E}{c n s:Nat}(h:jbf t c n s=true):Nat.ble n c=true:=by
 simp only[jbf,jaf]at h;exact h.1.2
theorem jeq{p:Prop}(hp:p):∀(t:Nst)(e:List (E×Nat×Nat×Nat)),(∀x∈e,jbf x.1 x.2.1 x.2.2.1 x.2.2.2=true)→jg4 p t e
 | .leaf,_,_=>hp
 | .bts n r,e,h=>fun c _=>jeq hp r e h
 | .both a b,e,h=>⟨jeq hp a e h,jeq hp b e h⟩
 | .le i r,e,h=>by
  simp only[jg4];split
  ·rename_i t0 c0 n0 s0 hi;rw[lenB_le (h _ (List.mem_of_getElem? hi))];exact jeq hp r e h
  ·trivial
 | .app none n s r,e,h=>fun c t ht=>jeq hp r _ fun x hx=>by
  rcases List.mem_cons.1 hx with rfl | hx
  ·exact ht
  ·exact h x hx
 | .app (some i) n s r,e,h=>by
  simp only[jg4];split
  ·rename_i t0 c0 n0 s0 hi;rw[lenB_ok (h _ (List.mem_of_getElem? hi))]
   exact fun c t ht=>jeq hp r _ fun x hx=>by
    rcases List.mem_cons.1 hx with rfl | hx
    ·exact ht
    ·exact h x hx
  ·trivial
def jkx:List (E×Value)→List Nst→Prop
 | [],_=>True
 | (_,v)::r,[]=>v=v∧jkx r []
 | (_,v)::r,k::ks=>jg4 (v=v) k []∧jkx r ks
omit [Tabs] in
theorem jhs:∀l ks,jkx l ks
 | [],_=>trivial
 | (_,_)::r,[]=>⟨rfl,jhs r []⟩
 | (_,_)::r,k::ks=>⟨jeq rfl k [] (by simp),jhs r ks⟩
theorem jaq(ks:List Nst){P:Program}{G:Env}{L:Nat→Option jbr}{f:FuncId}{fn:Func}(hG:jap P G)(hm:P.follows .mixedOrders=true)(hf:Fn1 P f fn)(hL:LOKf P L fn){l:List (E×Value)}
  (hp:(l.all fun x=>jay x.1&&Nat.ble x.1.length fn.ntmps)=true) (h:RunL P G L fn l=jkx l ks):jam P f (memo l):=
 pure_memo hG hm hf hL hp (allD_of (cast h.symm (jhs l ks)))
end Go.Ab
end
noncomputable section
set_option maxHeartbeats 3200000
namespace Go.Cx
open Go Go.Ab Go.Proofs Go.Shelf Go.Px Go.Cv
open Go.Fx (Ty Vl check Valid most base pw bnd Fit fits tv vv tup V0 T0 jck jcn jcb jdg str0)
structure DecIs (g:Bool)(s:Y)(x:Option Num):Prop where
 h:decR ji2 g (bz s)=x
def kp(a:Bool)(b:Prod F Int):E:=[.bool a,.string (szO b.fst),.int .i64 b.snd]
def k25(g:Bool)(t:Y)(R:Value→Prop):Prop:=ig (decide (b7 t 1≥1)) (bn (b7 t 1) (al t) &&true) true (decide (b7 t 1≥1) &&jau t (b7 t 1).toNat==66) (bm (aq (b7 t 1) 31) (co t 0 (b7 t 1) && (cl (dt t 1) &&true)) (aq (b7 t 1) 31 || !jjf (bz (dt t 1))) (bw [.agg ⟨[B false,dy,ak 0]⟩,B false] R) (bif co t 0 (b7 t 1)then cu (jjf (bz (dt t 1))) (decide ((dt t 1).size≤64)) (bn (binG (bz (dt t 1)) 0) 18446744073709551616&&true) (∀a:Y,sz (decZ (binG (bz (dt t 1)) 0))=a→e9 (decide (a.size≤1000∧ -(100000:Int)≤0∧(0:Int)≤100000)) [.agg ⟨kp (ji2 g (bz a) 0).1 (ji2 g (bz a) 0).2⟩,B true] R) False else False)) (bif ez t then∀a:Option Cv.Num,DecIs g t a→bw [.agg ⟨kp (a.getD num0).fst (a.getD num0).snd⟩,B a.isSome] R else False)
theorem decD_len:∀(k n:Nat),n<10^ (k+1)→(Lib.decDigits n).length≤k+1
 | 0,n,h=>by rw[Lib.decDigits,dif_pos (by omega)];simp
 | k+1,n,h=>by
  rw[Lib.decDigits];split
  ·simp
  ·rw[List.length_append];have:=decD_len k (n/10) (by rw[Nat.pow_succ]at h;omega);simp;omega
theorem digs_isB{l:F}(h:jbw l=true):IsB l:=fun c hc=>by
 have:=List.all_eq_true.1 h c hc;unfold dig at this;have:=jab this;omega
structure Wh where
 n:Int
 t:Ty
instance:Enc Wh where
 enc x:= .agg ⟨[.int .i64 x.n,.int .i64 x.t.k,.int .i64 x.t.p,.int .i64 x.t.q,.bool x.t.v,.string x.t.s]⟩
 dec | .agg ⟨[.int .i64 n,.int .i64 k,.int .i64 p,.int .i64 q,.bool v,.string s]⟩=>some ⟨n,⟨k,p,q,v,s⟩⟩ | _=>none
 dec_some:=by
  intro v a h;split at h
  ·cases h;rfl
  ·cases h
 plain_enc _:=rfl
theorem ji5{m:Int}(h:0≤m∧m≤2147483648):(itoZ m).length≤10:=by
 obtain⟨k,rfl⟩:∃k:Nat,m=(k:Int):=⟨m.toNat,by omega⟩
 rw[itoZ,Lib.itoa_nonneg,zl,List.length_map];exact decD_len 9 k (by omega)
theorem ito_isB(n:Int):IsB (itoZ n):=zl_isB _
theorem rep32_isB(k:Nat):IsB (List.replicate k 32):=fun c hc=>by rw[List.eq_of_mem_replicate hc];omega
theorem rep48_isB(k:Nat):IsB (jdf k):=fun c hc=>by rw[List.eq_of_mem_replicate hc];omega
theorem jdz(c:Int):∀n,repZ [c] n=List.replicate n c
 | 0=>rfl
 | n+1=>by rw[repZ,jdz c n];rfl
theorem jhy(a b:Int):imax a b=max a b:=by unfold imax;split<;>omega
end Go.Cx
end
section
namespace Go.Cx
open Go Go.Proofs Go.RowKit Go.Extern.Stop Go.Stop Go.Extern
theorem as_nil(t:Value)(w:World):
  Calls Tryz.prog 126 #[.nilIface,t] w fun e w'=>e= .returned (.bool false)∧w'=w:=by
 go_enter Tryz.func126,Tryz.ntmps126
 go_wp2
 go_ret
 exact⟨rfl,rfl⟩
theorem a_valueOf121(t:Addr)(w:World):(ReflectliteValue.unpack (.iface 178 (.pointer (some t)))).run Tryz.prog w
  = .ok (.agg #[.pointer (some ⟨10,178,none⟩),.pointer (some ⟨w.heap.size,0,none⟩),.int .u64 150]) (w.alloc (.cells #[.pointer (some t)] 178)):=by kernel_rfl
theorem a_type121 (a : Addr) (w : World) : (ReflectliteValue.methodAny (ReflectliteValue.valueError "reflectlite.Value.Type" 0) (fun t _ _ _ => ReflectliteType.toType t) #[.agg #[.pointer (some ⟨10, 178, none⟩), .pointer (some a), .int .u64 150]]).run Tryz.prog w
  = .ok (.iface 266 (.agg #[.pointer (some ⟨10,178,none⟩)])) w:=by kernel_rfl
theorem a_kind121(w:World):((ReflectliteType.abiMethod fun t=>(fun a:Nat=>Value.int IntKind.u8 (a:Int)) <$> Rtype.kind t) #[.pointer (some ⟨10,178,none⟩)]).run Tryz.prog w= .ok (.int .u8 22) w:=by kernel_rfl
theorem a_kind119(w:World):((ReflectliteType.abiMethod fun t=>(fun a:Nat=>Value.int IntKind.u8 (a:Int)) <$> Rtype.kind t) #[.pointer (some ⟨10,176,none⟩)]).run Tryz.prog w= .ok (.int .u8 25) w:=by kernel_rfl
theorem a_rlm(z:Sem Value)(f:TypeId→Addr→Nat→Nat→Sem Value)(v:Value):
  ReflectliteValue.method z f #[v]=(do match←ReflectliteValue.parts v with | none=>z | some (t,a,fl)=>f t a fl (fl%32)):=rfl
theorem a_parts121(a:Addr)(w:World):(ReflectliteValue.parts (.agg #[.pointer (some ⟨10,178,none⟩),.pointer (some a),.int .u64 150])).run Tryz.prog w= .ok (some (178,a,150)) w:=by kernel_rfl
theorem a_isNil121(a p:Addr)(W:World)(ha:W.cell? a=some (.pointer (some p))):
  (ReflectliteValue.method (ReflectliteValue.valueError "reflectlite.Value.IsNil" 0) ReflectliteValue.isNil #[.agg #[.pointer (some ⟨10, 178, none⟩), .pointer (some a), .int .u64 150]]).run Tryz.prog W = .ok (.bool false) W := by
 rw[a_rlm];simp only[Sem.run_bind,a_parts121,Result.andThen];simp[ReflectliteValue.isNil,loadVar,isAgg,underlying,Tryz.underlying178,ha,Result.andThen]
theorem a_methodKind (h : Value) (w : World) : (Go.method 435 266 (.agg #[h]) "Kind").run Tryz.prog w = .ok (260, h) w := by kernel_rfl
theorem a_methodElem (h : Value) (w : World) : (Go.method 435 266 (.agg #[h]) "Elem").run Tryz.prog w = .ok (279, .agg #[h]) w := by kernel_rfl
theorem a_methodImplements (h : Value) (w : World) : (Go.method 435 266 (.agg #[h]) "Implements").run Tryz.prog w = .ok (280, .agg #[h]) w := by kernel_rfl
theorem a_methodAssignableTo (h : Value) (w : World) : (Go.method 435 266 (.agg #[h]) "AssignableTo").run Tryz.prog w = .ok (277, .agg #[h]) w := by kernel_rfl
theorem a_elem121(w:World):(ReflectliteType.method ReflectliteType.elem #[.agg #[.pointer (some ⟨10,178,none⟩)]]).run Tryz.prog w= .ok (.iface 266 (.agg #[.pointer (some ⟨10,176,none⟩)])) w:=by kernel_rfl
theorem a_implements119 (w : World) : (ReflectliteType.relation "Implements" ReflectliteType.implements_ #[.agg #[.pointer (some ⟨10, 176, none⟩)], .iface 266 (.agg #[.pointer (some ⟨10, 132, none⟩)])]).run Tryz.prog w = .ok (.bool true) w := by kernel_rfl
theorem a_typeOf119(v:Value)(w:World):(ReflectliteType.typeOf #[.iface 176 v]).run Tryz.prog w= .ok (.iface 266 (.agg #[.pointer (some ⟨10,176,none⟩)])) w:=by kernel_rfl
theorem a_assignable119 (w : World) : (ReflectliteType.relation "AssignableTo" ReflectliteType.assignableTo #[.agg #[.pointer (some ⟨10, 176, none⟩)], .iface 266 (.agg #[.pointer (some ⟨10, 176, none⟩)])]).run Tryz.prog w = .ok (.bool true) w := by kernel_rfl
theorem a_valueOf119(s:ByteArray)(w:World):(ReflectliteValue.unpack (.iface 176 (.agg #[.string s]))).run Tryz.prog w
  = .ok (.agg #[.pointer (some ⟨10,176,none⟩),.pointer (some ⟨w.heap.size,0,none⟩),.int .u64 153]) (w.alloc (.cells #[.string s] 176)):=by kernel_rfl
theorem a_elemOf121(w:World):(Rtype.elem? 178).run Tryz.prog w= .ok (some 176) w:=by kernel_rfl
theorem a_mk119(p:Addr)(w:World):(ReflectliteValue.mk 176 p ReflectliteValue.flagAddr).run Tryz.prog w= .ok (.agg #[.pointer (some ⟨10,176,none⟩),.pointer (some p),.int .u64 409]) w:=by kernel_rfl
theorem a_elemV121(a p:Addr)(W:World)(ha:W.cell? a=some (.pointer (some p))):
  (ReflectliteValue.method (ReflectliteValue.valueError "reflectlite.Value.Elem" 0) ReflectliteValue.elem #[.agg #[.pointer (some ⟨10, 178, none⟩), .pointer (some a), .int .u64 150]]).run Tryz.prog W
   = .ok (.agg #[.pointer (some ⟨10,176,none⟩),.pointer (some p),.int .u64 409]) W:=by
 rw[a_rlm];simp only[Sem.run_bind,a_parts121,Result.andThen];simp[ReflectliteValue.elem,loadVar,isAgg,underlying,Tryz.underlying178,ha,Result.andThen,a_elemOf121,a_mk119]
theorem a_rls(v x:Value):ReflectliteValue.set #[v,x]=(do
  let (some (dst,a,fl),some (src,b,_)):=(←ReflectliteValue.parts v,←ReflectliteValue.parts x)
   | unsupported (.noEntry "extern/(internal/reflectlite.Value).Set.zeroValue")
  if fl / ReflectliteValue.flagAddr % 2 == 0 then unsupported (.noEntry "extern/(internal/reflectlite.Value).Set.unaddressable")
  let val←loadVar src b
  if←Rtype.directlyAssignable dst src then storeVar dst a val
  else if←Rtype.implements dst src then
   if(←Rtype.kind src)==20 then
    match val with
    | .nilIface => unsupported (.noEntry "extern/reflectlite: a nil value of one interface type handed on as a value of another")
    | _=>storeVar dst a val
   else storeVar dst a (.iface src val)
  else panicString ("reflectlite.Set: value of type " ++ (← Rtype.spelt src) ++ " is not assignable to type " ++ (← Rtype.spelt dst))
  pure (.tuple #[])):=rfl
theorem a_parts119a(a:Addr)(w:World):(ReflectliteValue.parts (.agg #[.pointer (some ⟨10,176,none⟩),.pointer (some a),.int .u64 409])).run Tryz.prog w= .ok (some (176,a,409)) w:=by kernel_rfl
theorem a_parts119(a:Addr)(w:World):(ReflectliteValue.parts (.agg #[.pointer (some ⟨10,176,none⟩),.pointer (some a),.int .u64 153])).run Tryz.prog w= .ok (some (176,a,153)) w:=by kernel_rfl
theorem a_direct119(w:World):(Rtype.directlyAssignable 176 176).run Tryz.prog w= .ok true w:=by kernel_rfl
theorem a_size119(w:World):(sizeOf 176).run Tryz.prog w= .ok 1 w:=by kernel_rfl
theorem a_load119(b:Addr)(s:ByteArray)(W:World)(hb:W.cell? b=some (.string s))(hs:b.spot=none):(loadVar 176 b).run Tryz.prog W= .ok (.agg #[.string s]) W:=by
 obtain⟨bb,bo,bs⟩:=b;subst hs;simp[loadVar,isAgg,underlying,Tryz.underlying176,a_size119,loadCells,loadCellsFrom,Addr.add,hb,Result.andThen]
theorem a_set119(ta b:Addr)(s:ByteArray)(old:Value)(W:World)(hb:W.cell? b=some (.string s))(hs:b.spot=none)(ht:W.cell? ta=some old)(hts:ta.spot=none)(hf:W.frozen? ta=false):
  (ReflectliteValue.set #[.agg #[.pointer (some ⟨10, 176, none⟩), .pointer (some ta), .int .u64 409], .agg #[.pointer (some ⟨10, 176, none⟩), .pointer (some b), .int .u64 153]]).run Tryz.prog W
   = .ok (.tuple #[]) (W.setCell ta (.string s)):=by
 obtain⟨tb,tq,ts⟩:=ta;subst hts;rw[a_rls];simp only[Sem.run_bind,a_parts119a,a_parts119,Result.andThen];have hl:=a_load119 b s W hb hs;have hd:=a_direct119 W;simp[ReflectliteValue.flagAddr,hl,hd,storeVar,Value.cells,storeCells,Addr.add,a_size119,Result.andThen];rw[run_store Tryz.prog W ⟨tb,tq,none⟩ _ _ (by rfl)];simp[ht,hf]
end Go.Cx
end
section
namespace Go.Cx
open Go Go.Proofs Go.RowKit Go.Extern.Stop Go.Stop Go.Extern Go.Shelf
set_option maxRecDepth 100000 in
set_option maxHeartbeats 4000000 in
theorem as_hit(s:ByteArray)(t:Addr)(old:Value)(w:World)(hg:w.cell? ⟨0,0,none⟩=some (.iface 266 (.agg #[.pointer (some ⟨10,132,none⟩)])))(hts:t.spot=none)(ht0:w.cell? t=some old)(hf0:w.frozen? t=false):
  Calls Tryz.prog 126 #[.iface 176 (.agg #[.string s]),.iface 178 (.pointer (some t))] w fun ev w'=>ev= .returned (.bool true)∧w'=((((w.alloc (.cells #[.pointer (some t)] 178)).alloc (.cells #[.pointer (some ⟨10,178,none⟩),.pointer (some ⟨w.heap.size,0,none⟩),.int .u64 150] 226)).alloc (.cells #[.pointer (some ⟨10,178,none⟩),.pointer (some ⟨w.heap.size,0,none⟩),.int .u64 150] 226)).alloc (.cells #[.string s] 176)).setCell t (.string s):=by
 have h6:= @run_callFunc_extern Tryz.prog 171 _ (fun args=>ReflectliteValue.unpack (args.getD 0 (.tuple #[]))) Tryz.func171 (by kernel_rfl) (by kernel_rfl) (by kernel_rfl) (by kernel_rfl)
 have h7 := @run_callFunc_extern Tryz.prog 172 _ (ReflectliteValue.methodAny (ReflectliteValue.valueError "reflectlite.Value.Type" 0) (fun t _ _ _ => ReflectliteType.toType t)) Tryz.func172 (by kernel_rfl) (by kernel_rfl) (by kernel_rfl) (by kernel_rfl)
 have h8 := @run_callFunc_extern Tryz.prog 173 _ (ReflectliteValue.method (ReflectliteValue.valueError "reflectlite.Value.IsNil" 0) ReflectliteValue.isNil) Tryz.func173 (by kernel_rfl) (by kernel_rfl) (by kernel_rfl) (by kernel_rfl)
 have h27:= @run_callFunc_extern Tryz.prog 260 _ (ReflectliteType.abiMethod fun t=>do pure (.int .u8 (←Rtype.kind t))) Tryz.func260 (by kernel_rfl) (by kernel_rfl) (by kernel_rfl) (by kernel_rfl);have h37:= @run_callFunc_extern Tryz.prog 279 _ (ReflectliteType.method ReflectliteType.elem) Tryz.func279 (by kernel_rfl) (by kernel_rfl) (by kernel_rfl) (by kernel_rfl)
 have h38 := @run_callFunc_extern Tryz.prog 280 _ (ReflectliteType.relation "Implements" ReflectliteType.implements_) Tryz.func280 (by kernel_rfl) (by kernel_rfl) (by kernel_rfl) (by kernel_rfl)
 have h10:= @run_callFunc_extern Tryz.prog 207 _ ReflectliteType.typeOf Tryz.func207 (by kernel_rfl) (by kernel_rfl) (by kernel_rfl) (by kernel_rfl)
 have h35 := @run_callFunc_extern Tryz.prog 277 _ (ReflectliteType.relation "AssignableTo" ReflectliteType.assignableTo) Tryz.func277 (by kernel_rfl) (by kernel_rfl) (by kernel_rfl) (by kernel_rfl)
 have h11 := @run_callFunc_extern Tryz.prog 208 _ (ReflectliteValue.method (ReflectliteValue.valueError "reflectlite.Value.Elem" 0) ReflectliteValue.elem) Tryz.func208 (by kernel_rfl) (by kernel_rfl) (by kernel_rfl) (by kernel_rfl)
 have h12:= @run_callFunc_extern Tryz.prog 209 _ ReflectliteValue.set Tryz.func209 (by kernel_rfl) (by kernel_rfl) (by kernel_rfl) (by kernel_rfl);have tO:=a_typeOf119;have mA:=a_methodAssignableTo;have a25:=a_assignable119;have v25:=a_valueOf119;have f6:=a_valueOf121;have f7:=a_type121;have mK:=a_methodKind;have mE:=a_methodElem;have mI:=a_methodImplements;have k27:=a_kind121;have k25:=a_kind119;have e27:=a_elem121;have i25:=a_implements119;have n8:=a_isNil121 ⟨w.heap.size,0,none⟩ t ((w.alloc (.cells #[.pointer (some t)] 178)).alloc (.cells #[.pointer (some ⟨10,178,none⟩),.pointer (some ⟨w.heap.size,0,none⟩),.int .u64 150] 226)) (by simp)
 have hlt:0<w.heap.size:=by
  rcases Nat.eq_zero_or_pos w.heap.size with h0 | h
  ·simp[World.cell?,h0]at hg
  ·exact h
 have hg2:((w.alloc (.cells #[.pointer (some t)] 178)).alloc (.cells #[.pointer (some ⟨10,178,none⟩),.pointer (some ⟨w.heap.size,0,none⟩),.int .u64 150] 226)).cell? ⟨0,0,none⟩=some (.iface 266 (.agg #[.pointer (some ⟨10,132,none⟩)])):=by
  rw[World.cell?_alloc_lt _ _ ⟨0,0,none⟩ (by simp),World.cell?_alloc_lt _ _ ⟨0,0,none⟩ hlt];exact hg
 have htl:t.block<w.heap.size:=by
  rcases Nat.lt_or_ge t.block w.heap.size with h | h
  ·exact h
  ·simp[World.cell?,Array.getElem?_eq_none h]at ht0
 have el:=a_elemV121 ⟨w.heap.size,0,none⟩ t (((w.alloc (.cells #[.pointer (some t)] 178)).alloc (.cells #[.pointer (some ⟨10,178,none⟩),.pointer (some ⟨w.heap.size,0,none⟩),.int .u64 150] 226)).alloc (.cells #[.pointer (some ⟨10,178,none⟩),.pointer (some ⟨w.heap.size,0,none⟩),.int .u64 150] 226)) (by rw[World.cell?_alloc_lt _ _ ⟨w.heap.size,0,none⟩ (by simp;omega)];simp)
 have st:=a_set119 t ⟨w.heap.size+1+1+1,0,none⟩ s old ((((w.alloc (.cells #[.pointer (some t)] 178)).alloc (.cells #[.pointer (some ⟨10,178,none⟩),.pointer (some ⟨w.heap.size,0,none⟩),.int .u64 150] 226)).alloc (.cells #[.pointer (some ⟨10,178,none⟩),.pointer (some ⟨w.heap.size,0,none⟩),.int .u64 150] 226)).alloc (.cells #[.string s] 176))
  (by rw[World.cell?_alloc_at _ _ _ _ (by simp)];rfl) rfl
  (by rw[World.cell?_alloc_lt _ _ t (by simp;omega),World.cell?_alloc_lt _ _ t (by simp;omega),World.cell?_alloc_lt _ _ t (by simp;omega),World.cell?_alloc_lt _ _ t htl];exact ht0) hts
  (by rw[World.frozen?_alloc_old _ _ t (by simp;omega),World.frozen?_alloc_old _ _ t (by simp;omega),World.frozen?_alloc_old _ _ t (by simp;omega),World.frozen?_alloc_old _ _ t (Nat.ne_of_lt htl)];exact hf0)
 have e175:∀args w,(callFunc 174 args).run Tryz.prog w= .ok (.enter 174 args) w:=enters_of Tryz.func174 (by kernel_rfl) rfl
 go_enter Tryz.func126,Tryz.ntmps126
 go_wp2
 refine wp_loop_rounds 1 ?_;rw[rounds_succ]
 go_wp2
 go_ret
 exact⟨rfl,rfl⟩
end Go.Cx
end
noncomputable section
namespace Go.Cx
open Go Go.Ab Go.Proofs Go.RowKit
def h100:E→Lk→Nat→(Value→Lk→Nat→Prop)→Prop:=fun args m n K=>match args with
 | [.nilIface,_]=>K (.bool false) m n
 | [.iface t (.agg ⟨[.string s]⟩),.iface t' (.pointer (some ⟨k,0,some _⟩))]=>match Nat.beq t 176,Nat.beq t' 178,m k with
  | true,true,some ⟨[.string _],ty,true⟩=>match Nat.ble itTy ty with
   | false=>K (.bool true) (m.upd k ⟨[.string s],ty,true⟩) n
   | true=>False
  | _,_,_=>False
 | _=>False
theorem c100:jbe Tryz.prog 126:=⟨_,Tryz.func126,by kernel_rfl,rfl⟩
theorem tab_as{w:World}(h:TabsIn w.heap.size w):w.cell? ⟨0,0,none⟩=some (.iface 266 (.agg #[.pointer (some ⟨10,132,none⟩)])):=
 h.cell (b:=0) rfl (i:=0) rfl
theorem gen100:jdt Tryz.prog 126 h100:=by
 refine⟨c100,fun args m n K hh N w0 ι w hrel hwf hargs=> ?_⟩;unfold h100 at hh;split at hh
 ·rename_i t;refine(as_nil (ren ι t) w).mono fun e w' ⟨h1,h2⟩=> ?_
  subst h2;exact⟨.bool false,m,n,ι,by rw[h1];rfl,hh,Nat.le_refl _,fun _ _=>rfl,hrel,hwf,by simp[ids]⟩
 ·rename_i t s t' k sp;split at hh
  case h_2=>exact hh.elim
  rename_i old ty ht ht' hk;split at hh
  case h_2=>exact hh.elim
  rename_i hty;have ht:=jah ht;have ht':=jah ht';subst ht ht';obtain⟨h1,h2,h3⟩:=hrel.blk k _ hk rfl;rw[objOf_cells hty]at h3
  have e1:([.iface 176 (.agg ⟨[.string s]⟩),.iface 178 (.pointer (some ⟨k,0,some sp⟩))]:E).map (ren ι)=[.iface 176 (.agg ⟨[.string s]⟩),.iface 178 (.pointer (some ⟨(ι k).1,0,none⟩))]:=by
   simp[ren,renL,ren1,h1]
  rw[e1]
  have hc:w.cell? ⟨(ι k).1,0,none⟩=some (.string old):=by
   simp only[World.cell?,h3];rfl
  have hf:w.frozen? ⟨(ι k).1,0,none⟩=false:=by
   simp[World.frozen?,h3]
  refine(as_hit s ⟨(ι k).1,0,none⟩ (.string old) w (tab_as hrel.tabs) rfl hc hf).mono fun e w' ⟨g1,g2⟩=> ?_
  have hb:Below w.heap.size w ((((w.alloc (.cells #[.pointer (some ⟨(ι k).1,0,none⟩)] 178)).alloc (.cells #[.pointer (some ⟨10,178,none⟩),.pointer (some ⟨w.heap.size,0,none⟩),.int .u64 150] 226)).alloc (.cells #[.pointer (some ⟨10,178,none⟩),.pointer (some ⟨w.heap.size,0,none⟩),.int .u64 150] 226)).alloc (.cells #[.string s] 176)):=
   ((((Below.refl _ _).alloc (Nat.le_refl _) _).alloc (by simp) _).alloc (by simp;omega) _).alloc (by simp;omega) _
  have hr:=hrel.grow hb;obtain⟨_,_,h4⟩:=hr.blk k _ hk rfl;rw[objOf_cells hty]at h4;have hw:=hr.write hk rfl (b':=⟨[.string s],ty,true⟩) rfl rfl rfl (it_ble hty);refine⟨.bool true,_,n,ι,by rw[g1];rfl,hh,Nat.le_refl _,fun _ _=>rfl,?_,fun j b hj=> ?_,by simp[ids]⟩
  ·rw[g2,setCell_eq_setRow _ _ _ _ _ _ _ h4];exact hw
  ·by_cases e:j=k
   ·subst e;rw[Lk.upd_same]at hj;cases hj;exact⟨(hwf j _ hk).1,by simp[idsL,ids]⟩
   ·rw[Lk.upd_other _ _ e]at hj;exact hwf j b hj
 ·exact hh.elim
end Go.Cx
end
noncomputable section
namespace Go.Cx
open Go Go.Ab Go.Proofs Go.Shelf Go.Px Go.Cv
end Go.Cx
end
noncomputable section
set_option maxHeartbeats 3200000
namespace Go.Cx
open Go Go.Ab Go.Proofs Go.Shelf Go.Px Go.Cv
open Go.Fx (Ty Vl check Valid most base pw bnd Fit fits tv vv tup V0 T0 jck jcn jcb jdg str0)
instance tabsT:Tabs:=tabs
def sz63(t:Ty):Prop:=t.s.size≤9223372036854775807
instance (t:Ty):Decidable (sz63 t):=by unfold sz63;infer_instance
def M0:Env:=(Env.nil.add 64 (sp1 s66)).add 65 (sp1 Px.s33)
theorem ok_M0:jap Tryz.prog M0:=jak (jak ja5 ok66) Px.ok33
def s20f(t:Ty):Bool×Value:=(decide (sz63 t),I (chk4 t))
def kv(a:Fx.Ty)(c:Int)(d e f g h:Prop)(b:Value→Prop):Prop:=bif dl a 1 then b (.int .i64 c)else bif dl a 2 then b (.int .i64 c)else bif dl a 3 then d else bif dl a 4 then e else bif dl a 5 then f else bif dl a 6 then g else h
def kw(a d:Bool)(e:Y)(b:Fx.Ty)(c:Int):Bool:= !a || !(Fx.Ty.k b==Fx.Ty.k b&& (Fx.Ty.p b==c&& (Fx.Ty.q b==0&& (Fx.Ty.v b==d&& (cv (Fx.Ty.s b) e&&true)))))
def kx(c:Bool)(a:Fx.Ty)(b:Int)(d:Value→Prop):Prop:=bif fu (Fx.Ty.p a) 0 then gn (!e8 (Fx.Ty.p a) 0 b || true) (kw (e8 (Fx.Ty.p a) 0 b) c az a (Fx.Ty.p a)) (ak 5) (ak 0) d else False
theorem v20f(t:Ty)(R:Value→Prop):jbu Tryz.prog M0 noL Tryz.f33 [Enc.enc t] (fun _=>none) 0 (fun v _ _=>R v)=(kv t (Fx.check t) (kx (Fx.Ty.v t) t 255 R∧kx (Fx.Ty.v t) t 255 R) (kx false t 64 R) (bif cl (Fx.Ty.s t)then gn (!pE (bz (Fx.Ty.s t))==0 || true) (kw (pE (bz (Fx.Ty.s t))==0) false (Fx.Ty.s t) t 0) (ak 5) (ak 0) R else False) (bif kw true false az t 0 then R (ak 5)else R (ak 0)) (R (ak 5)) R):=by kernel_rfl
theorem ok20f:jam Tryz.prog 33 (sp1 s20f):=by
 refine jda ok_M0 hmix fn20 jai jag fun t hc=> ?_
 rw[jbv,v20f];delta dl kv ak cv kw az gn cl e8 fu kx;have hc:(sz63 t):=jab hc
 try dsimp only[s20f]
 have hs:t.s.size≤9223372036854775807:=hc;have nvk:∀k:Int,t.k=k→k≠1→k≠2→ ¬Valid t:=fun k hk h1 h2 hv=>by have:=hv.1;omega
 have ck:t.k=1∨t.k=2→check t=chk4 t:=fun hk=>by
  unfold Fx.check chk4;by_cases hv:Valid t
  ·rw[if_pos hv,if_pos hv]
  ·rw[if_neg hv,if_neg hv,if_neg (by omega),if_neg (by omega),if_neg (by omega),if_neg (by omega)]
 refine cond_intro (fun hk=> ?_) (fun h1=> ?_)
 ·rw[ck (.inl (by simpa using hk))]
 refine cond_intro (fun hk=> ?_) (fun h2=> ?_)
 ·rw[ck (.inr (by simpa using hk))]
 have h1:t.k≠1:=by simpa using h1
 have h2:t.k≠2:=by simpa using h2
 have nv:¬Valid t:=nvk _ rfl h1 h2;apply cond_intro<;>intro h3
 ·have h3:t.k=3:=by simpa using h3
  have key:∀X:Prop,(bif !(decide (t.p≥0) &&decide (t.p≤255)) || !(t.k==t.k&& (t.p==t.p&& (t.q==0&& (t.v==t.v&& (t.s.toList==(ByteArray.mk #[]).toList&&true)))))then Value.int IntKind.i64 5=I (chk4 t)else Value.int IntKind.i64 0=I (chk4 t)):=fun _=>by
   rw[jcl];unfold chk4;rw[if_neg nv];apply cond_intro<;>intro h
   ·rw[if_neg,if_neg (by omega),if_neg (by omega),if_neg (by omega)];rintro ⟨-,q1,q2,q3,q4⟩;simp[q1,q2,q3,q4]at h
   ·rw[if_pos];simp at h;exact⟨h3,h.2.1,h.2.2,h.1.1,h.1.2⟩
  exact⟨c_t (Bool.or_true _) (c_t (Bool.or_true _) (key True)),c_t (Bool.or_true _) (c_t (Bool.or_true _) (key True))⟩
 have h3:t.k≠3:=by simpa using h3
 apply cond_intro<;>intro h4
 ·have h4:t.k=4:=by simpa using h4
  refine c_t (Bool.or_true _) (c_t (Bool.or_true _) ?_);rw[jcl];unfold chk4;rw[if_neg nv,if_neg (by omega)];apply cond_intro<;>intro h
  ·rw[if_neg,if_neg (by omega),if_neg (by omega)];rintro ⟨-,q1,q2,q3,q4,q5⟩;simp[q1,q2,q3,q4,q5]at h
  ·rw[if_pos];simp at h;exact⟨h4,h.2.1,h.2.2.2,h.2.2.1,h.1.1,h.1.2⟩
 have h4:t.k≠4:=by simpa using h4
 apply cond_intro<;>intro h5
 ·have h5:t.k=5:=by simpa using h5
  refine c_t (jaa hs) (c_t (Bool.or_true _) ?_);unfold chk4;rw[if_neg nv,if_neg (by omega),if_neg (by omega)];apply cond_intro<;>intro h
  ·rw[if_neg,if_neg (by omega)];rintro ⟨-,q1,q2,q3,q4⟩;simp[q1,q2,q3,q4]at h
  ·rw[if_pos];simp at h;exact⟨h5,h.2.1,h.2.2.1,h.2.2.2,h.1⟩
 have h5:t.k≠5:=by simpa using h5
 apply cond_intro<;>intro h6
 ·have h6:t.k=6:=by simpa using h6
  rw[jcl];unfold chk4;rw[if_neg nv,if_neg (by omega),if_neg (by omega),if_neg (by omega)];apply cond_intro<;>intro h
  ·rw[if_neg];rintro ⟨-,q1,q2,q3,q4⟩;simp[q1,q2,q3,q4]at h
  ·rw[if_pos];simp at h;exact⟨h6,h.2.1,h.2.2.2,h.1,h.2.2.1⟩
 have h6:t.k≠6:=by simpa using h6
 unfold chk4;rw[if_neg nv,if_neg (by omega),if_neg (by omega),if_neg (by omega),if_neg (by omega)]
instance tabsT1:Tabs:=tabs
def Q0:Env:=(((Env.nil.add 33 (sp1 s20f)).add 34 (sp2 s70)).add 35 (sp1 s71)).add 36 (sp2 Px.s24)
theorem ok_Q0:jap Tryz.prog Q0:=jak (jak (jak (jak ja5 ok20f) ok70) ok71) Px.ok24
def s22f(v:Vl)(t:Ty):Bool×Value:=(decide (t.s.size≤9223372036854775807∧v.s.size≤9223372036854775807),I (fit4 v t))
def j2(a b c:Bool)(d:Value→Prop):Prop:=gn (bif a then b else true) (!(a&&c)) (ak 6) (ak 0) d
def jq(b:Fx.Ty)(a:Fx.Vl):Bool:=gl (Fx.Vl.s a) (Fx.Ty.s b).size 9223372036854775807 9223372036854775807
theorem v22f(v:Vl)(t:Ty)(R:Value→Prop):jbu Tryz.prog Q0 noL Tryz.f7 [Enc.enc v,Enc.enc t] (fun _=>none) 0 (fun v _ _=>R v)=(f0 (decide (sz63 t)) (chk4 t !=0) (R (I (chk4 t))) (kv t (Fx.fits v t) (j2 (Fx.Vl.n v==0) (al (Fx.Vl.s v)==Fx.Ty.p t || (Fx.Ty.v t || true)) (al (Fx.Vl.s v)==Fx.Ty.p t || Fx.Ty.v t&&au (al (Fx.Vl.s v)) (Fx.Ty.p t)) R) (j2 (Fx.Vl.n v==0) (bif al (Fx.Vl.s v)==Fx.Ty.p t then cl (Fx.Vl.s v) &&true else true) (al (Fx.Vl.s v)==Fx.Ty.p t&&jjf (bz (Fx.Vl.s v))) R) (j2 (Fx.Vl.n v==0) (jq t v&&true) (hoZ (bz (Fx.Ty.s t)) (bz (Fx.Vl.s v))) R) (j2 (cv (Fx.Vl.s v) az) (fu (Fx.Vl.n v) 0) (e8 (Fx.Vl.n v) 0 524288) R) (bif !Fx.Vl.n v==0 then R (ak 6)else R (ak 0)) R)):=by kernel_rfl
theorem ok22f:jam Tryz.prog 7 (sp2 s22f):=by
 refine jfq ok_Q0 hmix fn22 jai jag fun v t hc=> ?_
 rw[jbv,v22f];delta f0 dl kv ak gn j2 e8 fu cv az gl jq al cl au;have hc:(t.s.size≤9223372036854775807∧v.s.size≤9223372036854775807):=jab hc
 try dsimp only[s22f]
 rw[jcl];unfold fit4 is4;refine c_t (jaa hc.1) ?_
 have hk:chk4 t=0→(t.k=1∨t.k=2∨t.k=3∨t.k=4∨t.k=5∨t.k=6)∧((t.k=1∨t.k=2)→Valid t):=fun h=>by
  unfold chk4 at h;have hv:Valid t→t.k=1∨t.k=2:=fun h=>h.1
  grind
 apply cond_intro<;>intro h
 ·rw[if_pos (by simpa using h)]
 have h0:chk4 t=0:=by simpa using h
 rw[if_neg (fun z=>z h0)];obtain⟨hk,hval⟩:=hk h0;have hf:Valid t→Fx.fits v t=if Fit v t then 0 else 6:=fun h=>if_pos h
 simp only[Bool.or_true,Bool.and_true,Bool.cond_self,jaa hc,jaa hc.2]
 repeat' apply cond_intro<;>intro h
 all_goals first | (exfalso;simp at h;done) | (congr 1;grind) | (exfalso;grind)
end Go.Cx
end
noncomputable section
set_option maxHeartbeats 3200000
namespace Go.Ff
open Go Go.Ab Go.Proofs Go.Shelf Go.Px Go.Cv Go.Cx
def N0:Env:=(Env.nil.add 40 (sp1 Cx.s79))
theorem ok_N0:jap Tryz.prog N0:=jak ja5 Cx.ok79
def rdK(l:F):Bool:=l.all fun c=>decide (c=45∨48≤c∧c≤57∨c=46)
def rdG:F→Int→Bool→Int×Bool
 | [],n,g=>(n,g)
 | c::r,n,g=>if c=45 then rdG r n true else if 48≤c∧c≤57 then rdG r (IntKind.i64.wrap (IntKind.i64.wrap (10*n)+IntKind.i64.wrap (IntKind.u8.wrap (c-48)))) g else rdG r n g
def rdT(l:F):Int×Bool:=bif rdK l then(bif (rdG l 0 false).2 then IntKind.i64.wrap (0-(rdG l 0 false).1)else(rdG l 0 false).1,true)else(0,false)
def pw10(k:Int):Int:=10^k.toNat
theorem jfv(c:Int)(r:F):rdK (c::r)=(decide (c=45∨48≤c∧c≤57∨c=46) &&rdK r):=rfl
theorem p10_rng:∀n:Nat,n<19→(1:Int)≤10^n∧(10:Int) ^n≤10^18:=by decide
def V10_0:Int×Int×Int→E:=fun(x,k,i)=> [I x,I k,I i]
def B10_0:Int×Int×Int→J:=fun _=> []
def S10_0:LSpec (Int×Int×Int) where
 live:=[3,4,5]
 mid:=[]
 n:=60
 dec vs bs:=match vs,bs with | [.int .i64 x,.int .i64 k,.int .i64 i],[]=>some (x,k,i) | _,_=>none
 pre:=fun(x,k,i)=>decide (0≤i∧i≤k∧k≤18∧x=10^i.toNat)
 fin:=fun(x,k,i) Z=>Z (.exit 0) [I (10^k.toNat),I k,I k] []
theorem r10_0(x:Int)(k:Int)(i:Int)(jk:Tmps)(R:Exit→E→J→Prop):(jb3 Tryz.prog N0 noL Tryz.f10.ntmps (jbk Tryz.f10 0) (tl S10_0.live (V10_0 (x,k,i)) jk) (ml S10_0.mid (B10_0 (x,k,i))) S10_0.n fun e t' m' _=>R e (List.map t' S10_0.live) (List.map m' S10_0.mid))=(bif au i k then R .normal [I (gm x 10),ak k,bp i] []else R (.exit 0) [ak x,ak k,ak i] []):=by kernel_rfl
theorem l10_0:LOKf Tryz.prog (oneL 0 S10_0.h) Tryz.f10:=by
 refine jcc (h:=S10_0.h) (by kernel_rfl) (jdi ok_N0 hmix (by kernel_rfl) (jbi _) S10_0 V10_0 B10_0 (fun(x,k,i)=>(k-i).toNat) ?_ ?_ ?_)
 ·intro vs bs s h;simp only[S10_0]at h;split at h
  all_goals first | (cases h;exact⟨rfl,rfl⟩) | cases h | (split at h<;>first | (rename_i hq;cases h;have hq:=jah hq;subst hq;exact⟨rfl,rfl⟩) | cases h)
 ·exact fun _ _ _ h=>h
 ·intro⟨x,k,i⟩ jk Z hp hf;rw[r10_0];delta ak ar bp gm au;simp only[S10_0]at hp hf;have hp:=jab hp;obtain⟨h0,h1,h2,rfl⟩:=hp;apply cond_intro<;>intro h
  ·have h:=jab h;obtain⟨b1,b2⟩:=p10_rng (i+1).toNat (by omega)
   have e:(10:Int) ^i.toNat*10=10^ (i+1).toNat:=by
    rw[show(i+1).toNat=i.toNat+1 by omega,Int.pow_succ]
   rw[e,w64 (n:=i+1) (by omega),w64 (by omega)];exact⟨(_,k,i+1),rfl,rfl,by simp only[S10_0,jae];exact⟨by omega,by omega,h2,trivial⟩,by simp only;omega,hf⟩
  ·have h:=jac h;have e:i=k:=by omega
   subst e;exact hf
def s10(k:Int):Bool×Value:=(decide (0≤k∧k≤18),I (pw10 k))
theorem fn10:Fn1 Tryz.prog 10 Tryz.f10:= .m Tryz.func10
theorem v10(k:Int)(R:Value→Prop):jbu Tryz.prog N0 (oneL 0 S10_0.h) Tryz.f10 [Enc.enc k] (fun _=>none) 0 (fun v _ _=>R v)=(bif LSpec.pre S10_0 (1,k,0)then∀(x:Tmps),R (I (10^k.toNat))else False):=by kernel_rfl
theorem ok10:jam Tryz.prog 10 (sp1 s10):=by
 refine jda ok_N0 hmix fn10 l10_0 jag fun k hc=> ?_
 rw[jbv,v10];have hc:(0≤k∧k≤18):=jab hc
 try dsimp only[s10]
 exact c_t (jaa ⟨by omega,by omega,hc.2,rfl⟩) fun _=>rfl
def V9_0:Int×Bool×Int×Bool×Nat×Nat×Int×Int×E→E:=fun(r,rb,n,gg,m,cap,L,i,d)=> [I r,B rb,I n,B gg,.slice (some ⟨6,0,some 1⟩) m cap,I L,I i]
def B9_0:Int×Bool×Int×Bool×Nat×Nat×Int×Int×E→J:=fun(r,rb,n,gg,m,cap,L,i,d)=> [some ⟨d,5,false⟩]
def S9_0:LSpecA (Int×Bool×Int×Bool×Nat×Nat×Int×Int×E) where
 live:=[2,3,4,5,10,11,12]
 mid:=[6]
 n:=120
 ap:=[]
 dec vs bs:=match vs,bs with
  | [.int .i64 r,.bool rb,.int .i64 n,.bool gg,.slice (some ⟨6,0,some 1⟩) m cap,.int .i64 L,.int .i64 i],[some ⟨d,ty,false⟩]=>match Nat.beq ty 5 with | true=>some (r,rb,n,gg,m,cap,L,i,d) | false=>none
  | _,_=>none
 pre:=fun(r,rb,n,gg,m,cap,L,i,d)=>vwOK d m&&decide (L=m∧0≤i∧i≤m∧m≤1000000)
 fin:=fun(r,rb,n,gg,m,cap,L,i,d) Z=>bif rdK ((zc d m).drop i.toNat)then Z (.exit 0) [I r,B rb,I (rdG ((zc d m).drop i.toNat) n gg).1,B (rdG ((zc d m).drop i.toNat) n gg).2,.slice (some ⟨6,0,some 1⟩) m cap,I L,I L] [some ⟨d,5,false⟩]else∀n' g' i',Z .ret [I 0,B false,I n',B g',.slice (some ⟨6,0,some 1⟩) m cap,I L,I i'] [some ⟨d,5,false⟩]
theorem r9_0(r:Int)(rb:Bool)(n:Int)(gg:Bool)(m:Nat)(cap:Nat)(L:Int)(i:Int)(d:E)(jk:Tmps)(R:Exit→E→J→Prop):(jb3 Tryz.prog N0 noL Tryz.f9.ntmps (jbk Tryz.f9 0) (tl S9_0.live (V9_0 (r,rb,n,gg,m,cap,L,i,d)) jk) (ml S9_0.mid (B9_0 (r,rb,n,gg,m,cap,L,i,d))) S9_0.n fun e t' m' _=>S9_0.out R e t' m')=(du (a7 i 45 d) R i L .u8 [] [] d (ak r::B rb::ft gg n L i 6 m cap) m 0 (av false (rlbL [] d) 5) (a0 (ay [] d) R [av false (rlbL [] d) 5] (ak r::B rb::ak n::ct true L i 6 m cap)) (gz (ax i d) 48 57 (a0 (ay [] d) R [av false (rlbL [] d) 5] (ak r::B rb::I (ju n (ax i d) .u8)::ct gg L i 6 m cap)) (fv (ax i d !=46) R [] [] d (ft gg n L i 6 m cap) (ak n::ct gg L i 6 m cap) (av false (rlbL [] d) 5) (ak 0) (B false) (ak r) (B rb)))):=by kernel_rfl
theorem l9_0:LOKf Tryz.prog (oneL 0 S9_0.hA) Tryz.f9:=by
 refine jcc (h:=S9_0.hA) (by kernel_rfl) (jbo ok_N0 hmix (by kernel_rfl) (jbi _) S9_0 V9_0 B9_0 (fun(r,rb,n,gg,m,cap,L,i,d)=>(m-i).toNat) ?_ ?_ ?_)
 ·intro vs bs s h;simp only[S9_0]at h;split at h
  all_goals first | (cases h;exact⟨rfl,rfl⟩) | cases h | (split at h<;>first | (rename_i hq;cases h;have hq:=jah hq;subst hq;exact⟨rfl,rfl⟩) | cases h)
 ·exact fun⟨r,rb,n,gg,m,cap,L,i,d⟩ hp=>by
   simp only[S9_0,jaf]at hp;simp[V9_0,B9_0,S9_0,jax,jbs,idsL,ids,jal (jb1.1 hp.1).plain]
 ·intro⟨r,rb,n,gg,m,cap,L,i,d⟩ jk Z hp hf;rw[r9_0];delta ay bx dv dq au du e8 fu gz a0 fv ak av ar bp bv bk bt ct bq ft ax gm ju a7;simp only[S9_0]at hp hf;simp only[jaf,jae]at hp;obtain⟨hV,hL,h0,hi,hm⟩:=hp;have hv:=jb1.1 hV;have e0:0+i.toNat*1=i.toNat:=by omega
  rw[e0];simp only[hv.rlb];apply cond_intro<;>intro h
  ·have h:=jab h;obtain⟨a1,a2,a3⟩:=hv.at h0 (by omega);rw[a3]at hf;rw[a1,w64 (n:=i+1) (by omega),jaa (show 0≤i∧i<(m:Int)by omega)];generalize jan d i.toNat=c at*
   have hpre:(vwOK d m&&decide (L=(m:Int)∧0≤i+1∧i+1≤(m:Int)∧m≤1000000))=true:=by
    rw[hV,Bool.true_and];exact jaa ⟨hL,by omega,by omega,hm⟩
   refine c_t rfl (c_t rfl (cond_intro (fun q=>c_t (hv.good _) ?_) (fun q=>c_t (by cases decide (c≥48) <;>rfl) (cond_intro (fun q2=>c_t (hv.good _) ?_) (fun q2=>cond_intro (fun q3=>c_t (hv.good _) ?_) (fun q3=>c_t (hv.good _) ?_))))))
   ·have q:c=45:=by simpa using q
    refine⟨(r,rb,n,true,m,cap,L,i+1,d),rfl,rfl,hpre,by simp only;omega,?_⟩;rw[jfv,rdG,jaa (Or.inl q),Bool.true_and,if_pos q]at hf;exact hf
   ·have q:¬c=45:=by simpa using q
    have q2:48≤c∧c≤57:=by simpa using q2
    refine⟨(r,rb,_,gg,m,cap,L,i+1,d),rfl,rfl,hpre,by simp only;omega,?_⟩;rw[jfv,rdG,jaa (Or.inr (Or.inl q2)),Bool.true_and,if_neg q,if_pos q2]at hf;exact hf
   ·have q:¬c=45:=by simpa using q
    have q2:¬(48≤c∧c≤57):=by simpa using q2
    have q3:¬c=46:=by simpa using q3
    rw[jfv,jad (by rintro (h | h | h) <;>contradiction),Bool.false_and]at hf;exact hf n gg i
   ·have q:¬c=45:=by simpa using q
    have q2:¬(48≤c∧c≤57):=by simpa using q2
    have q3:c=46:=by simpa using q3
    refine⟨(r,rb,n,gg,m,cap,L,i+1,d),rfl,rfl,hpre,by simp only;omega,?_⟩;rw[jfv,rdG,jaa (Or.inr (Or.inr q3)),Bool.true_and,if_neg q,if_neg q2]at hf;exact hf
  ·have h:=jac h;rw[hv.end (by omega)]at hf;have e:i=L:=by omega
   subst e;exact c_t (hv.good _) hf
def s9(s:Y):Bool×Value:=(decide (s.size≤100000),.tuple ⟨[I (rdT (trZ (tlZ (bz s) 32) 32)).1,B (rdT (trZ (tlZ (bz s) 32) 32)).2]⟩)
theorem fn9:Fn1 Tryz.prog 9 Tryz.f9:= .m Tryz.func9
theorem v9(s:Y)(R:Value→Prop):jbu Tryz.prog N0 (oneL 0 S9_0.hA) Tryz.f9 [Enc.enc s] (fun _=>none) 0 (fun v _ _=>R v)=(bif decide (s.size≤9223372036854775807)then∀(cap:Nat),Nat.ble (szO (trZ (tlZ (bz s) 32) 32)).size cap=true→bif jat [] (Lib.strCells (szO (trZ (tlZ (bz s) 32) 32))) &&true&&true&& (jax 120 (rlbL [] (Lib.strCells (szO (trZ (tlZ (bz s) 32) 32)))) &&true)then bif LSpec.pre (LSpecA.toLSpec S9_0) (0,false,0,false,(szO (trZ (tlZ (bz s) 32) 32)).size,cap,natO (szO (trZ (tlZ (bz s) 32) 32)).size,0,rlbL [] (Lib.strCells (szO (trZ (tlZ (bz s) 32) 32))))then bif rdK (List.drop (Int.toNat 0) (zc (rlbL [] (Lib.strCells (szO (trZ (tlZ (bz s) 32) 32)))) (szO (trZ (tlZ (bz s) 32) 32)).size))then bif jax 120 (rlbL [] (Lib.strCells (szO (trZ (tlZ (bz s) 32) 32)))) &&true then∀(x:Tmps),bif (rdG (List.drop (Int.toNat 0) (zc (rlbL [] (Lib.strCells (szO (trZ (tlZ (bz s) 32) 32)))) (szO (trZ (tlZ (bz s) 32) 32)).size)) 0 false).2 then R (.tuple (.mk [I (IntKind.wrap .i64 (0-(rdG (List.drop (Int.toNat 0) (zc (rlbL [] (Lib.strCells (szO (trZ (tlZ (bz s) 32) 32)))) (szO (trZ (tlZ (bz s) 32) 32)).size)) 0 false).1)),B true]))else R (.tuple (.mk [I (rdG (List.drop (Int.toNat 0) (zc (rlbL [] (Lib.strCells (szO (trZ (tlZ (bz s) 32) 32)))) (szO (trZ (tlZ (bz s) 32) 32)).size)) 0 false).1,B true]))else False else∀(n':Int)(g':Bool)(i':Int),bif jax 120 (rlbL [] (Lib.strCells (szO (trZ (tlZ (bz s) 32) 32)))) &&true then∀(x:Tmps),R (.tuple (.mk [I 0,B false]))else False else False else False else False):=by kernel_rfl
theorem ok9:jam Tryz.prog 9 (sp1 s9):=by
 refine jda ok_N0 hmix fn9 l9_0 jag fun s hc=> ?_
 rw[jbv,v9];have hc:(s.size≤100000):=jab hc
 try dsimp only[s9]
 generalize hT:trZ (tlZ (bz s) 32) 32=T;have hTb:IsB T:=hT▸isB_tr (jkd (jfo s) 32) 32;have hTl:T.length≤s.size:=by rw[←hT,←jav];exact Nat.le_trans (tr_len _ _) (jig _ _)
 obtain⟨hv,hz⟩:=jif (szO T);rw[jd6 hTb]at hz;have hsz:(szO T).size=T.length:=by rw[←jav,jd6 hTb]
 have hV:=jb1.2 hv;have hi:(jax 120 (Lib.strCells (szO T)) &&true)=true:=by simp[jax,idsL,jal hv.plain]
 have z0:Int.toNat 0=0:=rfl;refine c_t (jaa (by omega)) fun cap _=> ?_
 simp only[hv.rlb,z0,List.drop_zero,hz];refine c_t (by rw[hv.good,hi];rfl) (c_t ?_ ?_)
 ·show(vwOK (Lib.strCells (szO T)) (szO T).size&&decide (natO (szO T).size=((szO T).size:Int)∧(0:Int)≤0∧(0:Int)≤((szO T).size:Int)∧(szO T).size≤1000000))=true;rw[hV,jbx,Bool.true_and];exact jaa ⟨rfl,by omega,by omega,by omega⟩
 ·rw[rdT];refine cond_intro (fun q=>c_t hi fun _=>cond_intro (fun q2=> ?_) (fun q2=> ?_)) (fun q=>fun n' g' i'=>c_t hi fun _=> ?_)
  ·rw[q,q2];rfl
  ·rw[q,q2];rfl
  ·rw[q];rfl
end Go.Ff
end
noncomputable section
namespace Go.Cx
open Go Go.Ab Go.Px Go.Cv
theorem jh5{p:Int→Bool}:∀{l r:F},l.all p=true→(l++r).dropWhile p=r.dropWhile p
 | [],_,_=>rfl
 | c::l,r,h=>by
  simp only[List.all_cons,jaf]at h;rw[List.cons_append,List.dropWhile_cons_of_pos h.1,jh5 h.2]
theorem drop_not{p:Int→Bool}{l:F}(h:∀c,l.head?=some c→p c=false):l.dropWhile p=l:=by
 cases l with
 | nil=>rfl
 | cons c r=>rw[List.dropWhile_cons_of_neg (by simp[h c rfl])]
theorem trim_core{bl m br:F}(hbl:bl.all (· ==32)=true)(hbr:br.all (· ==32)=true)(h:(32:Int) ∉m)(h0:m≠ []):trR (trL (bl++m++br))=m:=by
 have e1:trL (bl++m++br)=m++br:=by
  rw[trL,List.append_assoc,jh5 hbl];refine drop_not fun c hc=> ?_
  cases m with
  | nil=>exact absurd rfl h0
  | cons a r=>
   simp only[List.cons_append,List.head?_cons,Option.some.injEq]at hc;subst hc;simp only[List.mem_cons,not_or]at h;simpa using Ne.symm h.1
 rw[e1,trR,List.reverse_append,jh5 (by rw[List.all_reverse];exact hbr)];rw[drop_not,List.reverse_reverse];intro c hc;rw[List.head?_reverse]at hc;have:=List.mem_of_getLast? hc;simp only[beq_eq_false_iff_ne];exact fun q=>h (q▸this)
theorem u8n{n:Nat}(h:n<10):((UInt8.ofNat (48+n)).toNat:Int)=48+n:=by
 rw[UInt8.toNat_ofNat'];omega
end Go.Cx
end
noncomputable section
namespace Go.Cx
open Go Go.Ab Go.Px Go.Cv
open Go.Fx (Ty Vl check Valid most base pw bnd Fit fits)
theorem dec_digs:∀(k n:Nat),n<10^ (k+1)→jbw (zl (Lib.decDigits n))=true∧zl (Lib.decDigits n)≠ []
 | k,n,h=>by
  have one:∀j,j<10→dig ((UInt8.ofNat (48+j)).toNat:Int)=true:=fun j hj=>by
   rw[u8n hj];unfold dig;exact jaa (by omega)
  rw[Lib.decDigits];by_cases h10:n<10
  ·rw[dif_pos h10];exact⟨by simp only[zl,List.map_cons,List.map_nil,jbw,List.all_cons,List.all_nil,one n h10,Bool.and_self],by simp[zl]⟩
  ·rw[dif_neg h10];cases k with
   | zero=>omega
   | succ k=>
    have ih:=dec_digs k (n/10) (by rw[Nat.pow_succ]at h;omega);refine⟨?_,by simp[zl]⟩;rw[zl,List.map_append];rw[jc9];have e:jbw (List.map (fun b:UInt8=>(b.toNat:Int)) (Lib.decDigits (n/10)))=true:=ih.1;rw[e];simp only[List.map_cons,List.map_nil,jbw,List.all_cons,List.all_nil,one (n%10) (by omega),Bool.and_self]
theorem ito_digs{m:Int}(h:0≤m∧m≤2147483648):jbw (itoZ m)=true∧itoZ m≠ []:=by
 obtain⟨k,rfl⟩:∃k:Nat,m=(k:Int):=⟨m.toNat,by omega⟩
 rw[itoZ,Lib.itoa_nonneg];exact dec_digs 9 k (by omega)
theorem je6(n:Nat):jbw (jdf n)=true:=List.all_eq_true.2 fun c hc=>by rw[List.eq_of_mem_replicate hc];rfl
end Go.Cx
end
noncomputable section
namespace Go.Cx
open Go Go.Ab Go.Px Go.Cv
open Go.Fx (Ty Vl check Valid most base pw bnd Fit fits scl cutN cutC InB)
theorem je4:∀(l:F)(a:Int),decG l a=a*10^l.length+decG l 0
 | [],a=>by simp[decG]
 | c::r,a=>by
  rw[decG,decG,je4 r (10*a+(c-48)),je4 r (10*0+(c-48)),List.length_cons,Int.pow_succ];grind
theorem jcm(l r:F)(a:Int):decG (l++r) a=decG r (decG l a):=by
 rw[jh9,jh9,jh9,List.foldl_append]
theorem je3:∀(k:Nat)(a:Int),decG (jdf k) a=a*10^k
 | 0,a=>by simp[jdf,decG]
 | k+1,a=>by
  rw[jdf,List.replicate_succ,decG,←jdf,je3 k,Int.pow_succ];grind
theorem jh8:∀(l:F)(a:Int),jbw l=true→0≤a→a≤decG l a
 | [],a,_,_=>by simp[decG]
 | c::r,a,h,h0=>by
  simp only[jbw,List.all_cons,jaf]at h;have hc:48≤c∧c≤57:=by simpa[dig]using h.1
  rw[decG];have:=jh8 r (10*a+(c-48)) h.2 (by omega);omega
theorem jjb:∀(l:F),jbw l=true→decG l 0<10^l.length
 | [],_=>by simp[decG]
 | c::r,h=>by
  simp only[jbw,List.all_cons,jaf]at h;have hc:48≤c∧c≤57:=by simpa[dig]using h.1
  have ih:=jjb r h.2;have hp:(0:Int)<10^r.length:=Int.pow_pos (by decide);rw[decG,je4,List.length_cons,Int.pow_succ];have:(10*0+(c-48))*10^r.length≤9*(10:Int) ^r.length:=Int.mul_le_mul_of_nonneg_right (by omega) (by omega);omega
theorem jf4(l:F)(h:jbw l=true):0≤decG l 0:=jh8 l 0 h (Int.le_refl _)
theorem tl_app(l:F):∃k,l=jdf k++tlZ l 48:=by
 induction l with
 | nil=>exact⟨0,rfl⟩
 | cons c r ih=>
  by_cases h:c=48
  ·subst h;obtain⟨k,e⟩:=ih;refine⟨k+1,?_⟩;rw[tl_cons,jdf,List.replicate_succ,List.cons_append,←jdf,←e]
  ·exact⟨0,by rw[tl_ne h];rfl⟩
theorem tr_app(l:F):∃k,l=trZ l 48++jdf k∧l.length=(trZ l 48).length+k:=by
 obtain⟨k,e⟩:=tl_app l.reverse;refine⟨k,?_,?_⟩
 ·have:=congrArg List.reverse e;rw[List.reverse_reverse,List.reverse_append,jdf,List.reverse_replicate,←jdf]at this;exact this
 ·have:=congrArg List.length e;rw[List.length_reverse,List.length_append,jdf,List.length_replicate]at this;rw[trZ,List.length_reverse];unfold tlZ at this;omega
theorem dec_val:∀(k n:Nat),n<10^ (k+1)→decG (zl (Lib.decDigits n)) 0=n
 | k,n,h=>by
  rw[Lib.decDigits];by_cases h10:n<10
  ·rw[dif_pos h10];simp only[zl,List.map_cons,List.map_nil,decG,u8n h10];omega
  ·rw[dif_neg h10];cases k with
   | zero=>omega
   | succ k=>
    have ih:=dec_val k (n/10) (by rw[Nat.pow_succ]at h;omega);rw[zl,List.map_append,←zl,jcm,ih];simp only[List.map_cons,List.map_nil,decG,u8n (show n%10<10 by omega)];omega
theorem ito_val{m:Int}(h:0≤m∧m≤2147483648):decG (itoZ m) 0=m:=by
 obtain⟨k,rfl⟩:∃k:Nat,m=(k:Int):=⟨m.toNat,by omega⟩
 rw[itoZ,Lib.itoa_nonneg];exact dec_val 9 k (by omega)
end Go.Cx
end
noncomputable section
namespace Go.Ff
open Go Go.Ab Go.Proofs Go.Shelf Go.RowKit
section
variable {P : Program} {ρ : Ren}
set_option maxHeartbeats 1000000 in
set_option maxRecDepth 100000 in
theorem chk_fresh(L:Lays.n240 P ρ)(X:Builder.X72 P ρ){e:TypeId}{cells:Nat}(b:Nat)(w:World)(h0:w.cell? ⟨b,0,none⟩=some (.pointer none))(hsh:w.shape? b=some (e,cells))(hlt:0<cells)
  (hlies:liesAt P P.depth e (cells/P.cellsOf e) 0 (ρ.t 72) 1=true) (hfz:w.frozen? ⟨b,0,none⟩=false):
  Calls P (ρ.f 240) #[.pointer (some ⟨b,0,none⟩)] w fun e w'=>e= .returned (.tuple #[])∧w'=w.setCell ⟨b,0,none⟩ (.pointer (some ⟨b,0,none⟩)):=by
 obtain⟨j,hj,hjs⟩:=Option.map_eq_some_iff.1 X.sizeBuilder;have mixed:=L.mixed;have t72:=L.t72;have a72:=L.a72;have z72:=L.z72;have v72:=L.v72;have u72:=run_underlying L.t72;have t70:=L.t70;have a70:=L.a70;have z70:=L.z70;have v70:=L.v70;have u70:=run_underlying L.t70;have t9:=L.t9;have a9:=L.a9;have z9:=L.z9;have v9:=L.v9;have u9:=run_underlying L.t9;have t4:=L.t4;have a4:=L.a4;have z4:=L.z4;have v4:=L.v4;have u4:=run_underlying L.t4;have t164:=L.t164;have a164:=L.a164;have z164:=L.z164;have v164:=L.v164;have u164:=run_underlying L.t164
 go_enter L.f240,Body.n240_ntmps ρ
 go_wp2
 rw[Lib.run_to_unsafe w ⟨b,0,none⟩ L.t70 L.t164 hj (by rw[hjs];decide) hsh hlt];simp only[Result.andThen];rw[Oper.upon_value]
 go_wp2
 rw[run_callFunc_extern L.f276 (by kernel_rfl) (by kernel_rfl) (by kernel_rfl) (e:=Extern.AbiNoEscape.same) (by kernel_rfl)];rw[Lib.run_noEscape];simp only[Result.andThen];rw[Oper.upon_value]
 go_wp2
 rw[Lib.run_from_unsafe w ⟨b,0,none⟩ L.t164 L.t70 hj hsh hlies];simp only[Result.andThen];rw[Oper.upon_value]
 go_wp2
 go_end0
 exact⟨rfl,rfl⟩
set_option maxHeartbeats 1000000 in
set_option maxRecDepth 100000 in
theorem str_row(L:Lays.n169 P ρ)(X:Builder.Extra P ρ)(b g cap:Nat)(cur:Array Value)(l:Ya)(w:World)(h0:l≠ [])
  (hb:w.cell? ⟨b,1,none⟩=some (.slice (some ⟨g,0,none⟩) l.length cap)) (hg:w.shape? g=some (ρ.t 5,cur.size)) (hcap:cap≠0) (hl:l.length≤cur.size) (h63:l.length≤9223372036854775807)
  (hc:∀j x,l[j]?=some x→w.cell? ((⟨g,0,none⟩:Addr).add j)=some (.int .u8 x.toNat)):
  Calls P (ρ.f 169) #[.pointer (some ⟨b,0,none⟩)] w fun e w'=>e= .returned (.string ⟨l.toArray⟩)∧w'=w.drew.freeze ⟨g,0,none⟩ l.length:=by
 have c1:w.drew.cell? ⟨b,1,none⟩=some (.slice (some ⟨g,0,none⟩) l.length cap):=hb
 have hSD:(Builtin.unsafeSliceData_ #[(ρ.t 37)] (ρ.t 127) #[.slice (some ⟨g,0,none⟩) l.length cap]).run P w.drew= .ok (.pointer (some ⟨g,0,none⟩)) w.drew:=
  Lib.run_unsafeSliceData_row _ _ _ _ _ _ (by omega)
 have hUS:(Builtin.unsafeString_ #[(ρ.t 127),(ρ.t 3)] (ρ.t 9) #[.pointer (some ⟨g,0,none⟩),.int .i64 l.length]).run P w.drew= .ok (.string ⟨l.toArray⟩) (w.drew.freeze ⟨g,0,none⟩ l.length):=
  Lib.run_unsafeString_row w.drew (ρ.t 127) (ρ.t 3) (ρ.t 9) (ρ.t 5) L.t127 X.cellsByte g cur.size hg l h0 hl h63 hc
 have mixed:=L.mixed;have t72:=L.t72;have a72:=L.a72;have z72:=L.z72;have v72:=L.v72;have u72:=run_underlying L.t72;have t70:=L.t70;have a70:=L.a70;have z70:=L.z70;have v70:=L.v70;have u70:=run_underlying L.t70;have t37:=L.t37;have a37:=L.a37;have z37:=L.z37;have v37:=L.v37;have u37:=run_underlying L.t37;have t127:=L.t127;have a127:=L.a127;have z127:=L.z127;have v127:=L.v127;have u127:=run_underlying L.t127;have t3:=L.t3;have a3:=L.a3;have z3:=L.z3;have v3:=L.v3;have u3:=run_underlying L.t3;have t9:=L.t9;have a9:=L.a9;have z9:=L.z9;have v9:=L.v9;have u9:=run_underlying L.t9;have t5:=X.t5;have a5:=X.a5;have z5:=X.z5;have v5:=X.v5;have u5:=run_underlying X.t5
 go_enter L.f169,Body.n169_ntmps ρ
 go_wp2
 go_region_o
 all_goals (go_wp2;go_ret;exact⟨rfl,rfl⟩)
set_option maxHeartbeats 2000000 in
set_option maxRecDepth 100000 in
theorem str_nil(L:Lays.n169 P ρ)(X:Builder.Extra P ρ)(b:Nat)(w:World)(hb:w.cell? ⟨b,1,none⟩=some (.slice none 0 0)):
  Calls P (ρ.f 169) #[.pointer (some ⟨b,0,none⟩)] w fun e w'=>e= .returned (.string ⟨#[]⟩)∧w'=w.drew:=by
 have hUS:=Any.unsafeString_none L X;have c1:w.drew.cell? ⟨b,1,none⟩=some (.slice none 0 0):=hb;have hSD:(Builtin.unsafeSliceData_ #[(ρ.t 37)] (ρ.t 127) #[.slice none 0 0]).run P w.drew= .ok (.pointer none) w.drew:=rfl;have mixed:=L.mixed;have t72:=L.t72;have a72:=L.a72;have z72:=L.z72;have v72:=L.v72;have u72:=run_underlying L.t72;have t70:=L.t70;have a70:=L.a70;have z70:=L.z70;have v70:=L.v70;have u70:=run_underlying L.t70;have t37:=L.t37;have a37:=L.a37;have z37:=L.z37;have v37:=L.v37;have u37:=run_underlying L.t37;have t127:=L.t127;have a127:=L.a127;have z127:=L.z127;have v127:=L.v127;have u127:=run_underlying L.t127;have t3:=L.t3;have a3:=L.a3;have z3:=L.z3;have v3:=L.v3;have u3:=run_underlying L.t3;have t9:=L.t9;have a9:=L.a9;have z9:=L.z9;have v9:=L.v9;have u9:=run_underlying L.t9;have t5:=X.t5;have a5:=X.a5;have z5:=X.z5;have v5:=X.v5;have u5:=run_underlying X.t5
 go_enter L.f169,Body.n169_ntmps ρ
 go_wp2
 go_region_o
 all_goals (go_wp2;go_ret;exact⟨rfl,rfl⟩)
set_option maxHeartbeats 1000000 in
set_option maxRecDepth 100000 in
theorem len_at(L:Lays.n170 P ρ)(b:Nat){ao:Option Addr}{q cap:Nat}(w:World)(c1:w.cell? ⟨b,1,none⟩=some (.slice ao q cap)):
  Calls P (ρ.f 170) #[.pointer (some ⟨b,0,none⟩)] w fun e w'=>e= .returned (.int .i64 q)∧w'=w:=by
 have mixed:=L.mixed;have t72:=L.t72;have a72:=L.a72;have z72:=L.z72;have v72:=L.v72;have u72:=run_underlying L.t72;have t70:=L.t70;have a70:=L.a70;have z70:=L.z70;have v70:=L.v70;have u70:=run_underlying L.t70;have t37:=L.t37;have a37:=L.a37;have z37:=L.z37;have v37:=L.v37;have u37:=run_underlying L.t37;have t3:=L.t3;have a3:=L.a3;have z3:=L.z3;have v3:=L.v3;have u3:=run_underlying L.t3
 go_enter L.f170,Body.n170_ntmps ρ
 go_wp2
 go_ret
 exact⟨rfl,rfl⟩
end
section
variable [Tabs] {N : Nat} {w0 w : World} {m : Lk} {ι : Nm}
theorem RelM.drew(h:RelM N w0 m ι w):RelM N w0 m ι w.drew:=h.grow (Below.drew (Below.refl _ w))
theorem freezeN_heap(w:World)(a:Addr){n:Nat}(hn:n≠0)(j:Nat):(w.freeze a n).heap[j]?=if j=a.block then(w.heap[j]?).map (fun o=>match o with | .cells c el (lo,hi)=> .cells c el (if lo==hi then(a.off,a.off+n)else(min lo a.off,max hi (a.off+n))) | o=>o)else w.heap[j]?:=by
 unfold World.freeze;rw[if_neg hn];simp only[Array.getElem?_modify];by_cases h:a.block=j
 ·subst h;rw[if_pos rfl,if_pos rfl];cases w.heap[a.block]? with
  | none=>rfl
  | some o=>cases o<;>rfl
 ·rw[if_neg h,if_neg (fun q=>h q.symm)]
theorem freezeN_cell(w:World)(a p:Addr){n:Nat}(hn:n≠0):(w.freeze a n).cell? p=w.cell? p:=by
 unfold World.cell?;rw[freezeN_heap w a hn];by_cases h:p.block=a.block
 ·rw[if_pos h];cases hh:w.heap[p.block]? with
  | none=>rfl
  | some o=>
   cases o with
   | cells c el fr=>obtain⟨lo,hi⟩:=fr;rfl
   | _=>rfl
 ·rw[if_neg h]
theorem RelM.frozenN(h:RelM N w0 m ι w){k:Nat}{b:Blk}(hk:m k=some b)(ho:b.own=true)(hit:Nat.ble itTy b.ty=false)(q:Nat){n:Nat}(hn:n≠0):
  RelM N w0 (m.upd k ⟨b.c,b.ty,false⟩) ι (w.freeze ⟨(ι k).1,q,none⟩ n):=by
 obtain⟨g1,g2,g3⟩:=h.blk k b hk ho
 have hsz:(w.freeze ⟨(ι k).1,q,none⟩ n).heap.size=w.heap.size:=by
  unfold World.freeze;rw[if_neg hn];simp
 have hoth:∀j,j≠(ι k).1→(w.freeze ⟨(ι k).1,q,none⟩ n).heap[j]?=w.heap[j]?:=fun j hj=>by rw[freezeN_heap _ _ hn,if_neg hj]
 have hget:∀j c,m.upd k ⟨b.c,b.ty,false⟩ j=some c→(j=k∧c=⟨b.c,b.ty,false⟩)∨(j≠k∧m j=some c):=fun j c hj=>by
  by_cases e:j=k
  ·subst e;rw[Lk.upd_same]at hj;cases hj;exact .inl ⟨rfl,rfl⟩
  ·rw[Lk.upd_other _ _ e]at hj;exact .inr ⟨e,hj⟩
 refine⟨⟨?_,?_,?_,?_,?_⟩,h.base,?_,?_,?_⟩
 ·rw[←h.below.os];unfold World.freeze;rw[if_neg hn]
 ·rw[←h.below.tape];unfold World.freeze;rw[if_neg hn]
 ·rw[←h.below.output];unfold World.freeze;rw[if_neg hn]
 ·rw[hsz];exact h.below.size
 ·intro j hj;rw[hoth j (by omega)];exact h.below.block j hj
 ·intro j c hj hc;rcases hget j c hj with⟨_,rfl⟩ | ⟨e,hj⟩
  ·cases hc
  ·obtain⟨q1,q2,q3⟩:=h.blk j c hj hc;refine⟨q1,q2,?_⟩;rw[hoth _ (h.inj j k c b hj hk hc e)];exact q3
 ·intro j c hj hc;rcases hget j c hj with⟨rfl,rfl⟩ | ⟨e,hj⟩
  ·refine⟨by rw[hsz];exact h.lt hk ho,fun i v hv=> ?_⟩;rw[freezeN_cell _ _ _ hn,World.cell?,g3,objOf_cells hit,g1,Nat.zero_add];simp only[Option.isSome_none,Bool.false_eq_true,if_false];have hv:b.c[i]?=some v:=hv;simp[hv]
  ·obtain⟨q1,q2⟩:=h.view j c hj hc;refine⟨by rw[hsz];exact q1,fun i v hv=> ?_⟩;rw[freezeN_cell _ _ _ hn];exact q2 i v hv
 ·intro j j' c c' hj hj' hc hne;rcases hget j c hj with⟨_,rfl⟩ | ⟨e,hj1⟩
  ·cases hc
  ·rcases hget j' c' hj' with⟨e',_⟩ | ⟨e',hj2⟩
   ·exact h.inj j j' c b hj1 (by rw[e'];exact hk) hc hne
   ·exact h.inj j j' c c' hj1 hj2 hc hne
end
def jks(b:Blk):Bool:=b.own&& (Nat.beq b.ty 93&&Nat.beq b.c.length 2 || Nat.beq b.ty 95&&Nat.beq b.c.length 3)
def h134:E→Lk→Nat→(Value→Lk→Nat→Prop)→Prop:=fun args m n K=>match args with
 | [.pointer (some ⟨k,0,some sp⟩)]=>match m k with
  | some b=>match jks b,b.c with
   | true,.pointer none::r=>K (.tuple ⟨[]⟩) (m.upd k ⟨.pointer (some ⟨k,0,some sp⟩)::r,b.ty,true⟩) n
   | true,.pointer (some ⟨k',0,some _⟩)::_=>match Nat.beq k' k with
    | true=>K (.tuple ⟨[]⟩) m n
    | false=>False
   | _,_=>False
  | none=>False
 | _=>False
def isB8:E→Bool
 | []=>true
 | .int .u8 n::r=>decide (0≤n∧n<256) &&isB8 r
 | _=>false
def h54:E→Lk→Nat→(Value→Lk→Nat→Prop)→Prop:=fun args m n K=>match args with
 | [.pointer (some ⟨k,0,some _⟩)]=>match m k with
  | some b=>match jks b,b.c with
   | true,_:: .slice none 0 0::_=>K (.string ⟨#[]⟩) m n
   | true,_:: .slice (some ⟨g,0,some _⟩) q cap::_=>match m g with
    | some d=>match d.own&& (Nat.beq d.ty 5&& (!Nat.beq q 0&& (Nat.ble q d.c.length&& (Nat.ble q 9223372036854775807&& (isB8 (d.c.take q) &&Nat.ble q cap)))))with
     | true=>K (.string (ja3 d.c 0 q)) (m.upd g ⟨d.c,d.ty,false⟩) n
     | false=>False
    | none=>False
   | _,_=>False
  | none=>False
 | _=>False
theorem jfy{b:Blk}(h:jks b=true):b.own=true∧Nat.ble itTy b.ty=false∧0<b.c.length∧liesAt Tryz.prog Tryz.prog.depth b.ty (b.c.length/Tryz.prog.cellsOf b.ty) 0 93 1=true:=by
 unfold jks at h;simp only[jaf,Bool.or_eq_true,Nat.beq_eq]at h;obtain⟨h1,⟨h2,h3⟩ | ⟨h2,h3⟩⟩:=h
 ·rw[h2,h3];exact⟨h1,rfl,by decide,by kernel_rfl⟩
 ·rw[h2,h3];exact⟨h1,rfl,by decide,by kernel_rfl⟩
theorem isB8_spec:∀{l:E},isB8 l=true→(jcu l).length=l.length∧ ∀(j:Nat)(x:UInt8),(jcu l)[j]?=some x→l[j]?=some (.int .u8 x.toNat)
 | [],_=>⟨rfl,fun j x h=>by simp[jcu]at h⟩
 | v::r,h=>by
  unfold isB8 at h;split at h
  ·rename_i heq;cases heq
  ·rename_i n r' heq;cases heq;simp only[jaf,jae]at h;obtain⟨⟨h1,h2⟩,h3⟩:=h;obtain⟨q1,q2⟩:=isB8_spec h3;refine⟨by simp[jcu,q1],fun j x hx=> ?_⟩;cases j with
   | zero=>
    simp only[jcu,List.getElem?_cons_zero,Option.some.injEq]at hx;subst hx;have:((UInt8.ofNat n.toNat).toNat:Int)=n:=by rw[UInt8.toNat_ofNat'];omega
    rw[this];rfl
   | succ j=>exact q2 j x (by simpa[jcu]using hx)
  ·cases h
variable [Tabs]
theorem gen134:jdt Tryz.prog 134 h134:=by
 refine⟨⟨_,Tryz.func134,by kernel_rfl,rfl⟩,fun args m n K hh N w0 ι w hrel hwf hargs=> ?_⟩;unfold h134 at hh;split at hh
 case h_2=>exact hh.elim
 rename_i k sp;split at hh
 case h_2=>exact hh.elim
 rename_i b hk;have hargs':([.pointer (some ⟨k,0,some sp⟩)]:E).map (ren ι)=[.pointer (some ⟨(ι k).1,0,none⟩)]→True:=fun _=>trivial
 split at hh
 ·rename_i r hb hc;obtain⟨ho,hit,hpos,hlies⟩:=jfy hb;obtain⟨g1,g2,g3⟩:=hrel.blk k b hk ho;rw[objOf_cells hit]at g3;have e1:([.pointer (some ⟨k,0,some sp⟩)]:E).map (ren ι)=[.pointer (some ⟨(ι k).1,0,none⟩)]:=by simp[ren,ren1,g1]
  rw[e1]
  have hc0:w.cell? ⟨(ι k).1,0,none⟩=some (.pointer none):=by
   rw[World.cell?,g3,hc];rfl
  have hfz:w.frozen? ⟨(ι k).1,0,none⟩=false:=by simp[World.frozen?,g3]
  have hsh:w.shape? (ι k).1=some (b.ty,b.c.length):=by simp[World.shape?,g3]
  refine(chk_fresh (P:=Tryz.prog) (ρ:=Tryz.lays105_ren) {Tryz.lays105 with} Tryz.Builder_Extra_105.toX72 (ι k).1 w hc0 hsh hpos hlies hfz).mono fun e w' ⟨h1,h2⟩=> ?_
  subst h2;have hw:=hrel.write hk ho (b':=⟨.pointer (some ⟨k,0,some sp⟩)::r,b.ty,true⟩) rfl rfl (by rw[hc];rfl) (it_ble hit);refine⟨.tuple ⟨[]⟩,_,n,ι,by rw[h1];simp[ren,renL],hh,Nat.le_refl _,fun _ _=>rfl,?_,fun j c hj=> ?_,by simp[ids,idsL]⟩
  ·rw[setCell_eq_setRow _ _ _ _ _ _ _ g3]
   have:(⟨(⟨.pointer (some ⟨k,0,some sp⟩)::r,b.ty,true⟩:Blk).c.map (ren ι)⟩:Array Value)=(⟨b.c.map (ren ι)⟩:Array Value).setIfInBounds 0 (.pointer (some ⟨(ι k).1,0,none⟩)):=by
    rw[hc];simp[ren,ren1,g1]
   rw[this]at hw;exact hw
  ·by_cases e:j=k
   ·subst e;rw[Lk.upd_same]at hj;cases hj;obtain⟨q1,q2⟩:=hwf j b hk;refine⟨q1,fun i hi=> ?_⟩;simp only[idsL,ids,List.singleton_append,List.mem_cons]at hi;rcases hi with rfl | hi
    ·exact q1
    ·exact q2 i (by rw[hc];simp only[idsL,ids,List.nil_append];exact hi)
   ·rw[Lk.upd_other _ _ e]at hj;exact hwf j c hj
 ·rename_i k' sp' r hb hc;split at hh
  case h_2=>exact hh.elim
  rename_i hkk;have hkk:=jah hkk;subst hkk;obtain⟨ho,hit,hpos,hlies⟩:=jfy hb;obtain⟨g1,g2,g3⟩:=hrel.blk k' b hk ho;rw[objOf_cells hit]at g3;have e1:([.pointer (some ⟨k',0,some sp⟩)]:E).map (ren ι)=[.pointer (some ⟨(ι k').1,0,none⟩)]:=by simp[ren,ren1,g1]
  rw[e1]
  have hc0:w.cell? ⟨(ι k').1,0,none⟩=some (.pointer (some ⟨(ι k').1,0,none⟩)):=by
   rw[World.cell?,g3,hc];simp[ren,ren1,g1]
  refine(Any.Builder_copyCheck_used (P:=Tryz.prog) (ρ:=Tryz.lays105_ren) {Tryz.lays105 with} Tryz.Builder_Extra_105.toX72 (ι k').1 w hc0).mono fun e w' ⟨h1,h2⟩=> ?_
  subst h2;exact⟨.tuple ⟨[]⟩,m,n,ι,by rw[h1];simp[ren,renL],hh,Nat.le_refl _,fun _ _=>rfl,hrel,hwf,by simp[ids,idsL]⟩
 ·exact hh.elim
def s53:Ab.Spec:=fun args bs=>match args,bs with
 | [.pointer (some ⟨_,0,some _⟩)],[some b]=>match b.own&& !Nat.ble itTy b.ty,b.c with
  | true,_:: .slice _ q _::_=>some (true,.int .i64 (Int.ofNat q))
  | _,_=>none
 | _,_=>none
theorem ok53:jam Tryz.prog 53 s53:=by
 refine⟨⟨_,Tryz.func53,by kernel_rfl,rfl⟩,fun args v N w0 lk ι w hrel hs hp=> ?_⟩;unfold s53 at hs;split at hs
 case h_2=>cases hs
 rename_i k sp b hbs;have hb:blkOf lk (.pointer (some ⟨k,0,some sp⟩))=some b:=by simpa using hbs
 split at hs
 case h_2=>cases hs
 rename_i v0 ao q cap r ho hc;simp only[jaf,Bool.not_eq_true']at ho;simp only[Option.some.injEq,Prod.mk.injEq,true_and]at hs;subst hs;have hk:=(jgh hb).1;obtain⟨g1,g2,g3⟩:=hrel.blk k b hk ho.1;rw[objOf_cells ho.2]at g3;have e1:([.pointer (some ⟨k,0,some sp⟩)]:E).map (ren ι)=[.pointer (some ⟨(ι k).1,0,none⟩)]:=by simp[ren,ren1,g1]
 rw[e1]
 have hc1:∃ao',w.cell? ⟨(ι k).1,1,none⟩=some (.slice ao' q cap):=by
  rw[World.cell?,g3,hc];cases ao with
  | none=>exact⟨none,by simp[ren]⟩
  | some a=>exact⟨_,by simp[ren];rfl⟩
 obtain⟨ao',hc1⟩:=hc1;refine(len_at (P:=Tryz.prog) (ρ:=Tryz.lays105_ren) {Tryz.lays105 with} (ι k).1 w hc1).mono fun e w' ⟨h1,h2⟩=> ?_
 subst h2;exact⟨h1,Below.refl _ _⟩
theorem gen54:jdt Tryz.prog 54 h54:=by
 refine⟨⟨_,Tryz.func54,by kernel_rfl,rfl⟩,fun args m n K hh N w0 ι w hrel hwf hargs=> ?_⟩;unfold h54 at hh;split at hh
 case h_2=>exact hh.elim
 rename_i k sp;split at hh
 case h_2=>exact hh.elim
 rename_i b hk;split at hh
 ·rename_i v0 r hb hc;obtain⟨ho,hit,hpos,hlies⟩:=jfy hb;obtain⟨g1,g2,g3⟩:=hrel.blk k b hk ho;rw[objOf_cells hit]at g3;have e1:([.pointer (some ⟨k,0,some sp⟩)]:E).map (ren ι)=[.pointer (some ⟨(ι k).1,0,none⟩)]:=by simp[ren,ren1,g1]
  rw[e1]
  have hc1:w.cell? ⟨(ι k).1,1,none⟩=some (.slice none 0 0):=by
   rw[World.cell?,g3,hc];rfl
  refine(str_nil (P:=Tryz.prog) (ρ:=Tryz.lays105_ren) {Tryz.lays105 with} Tryz.Builder_Extra_105 (ι k).1 w hc1).mono fun e w' ⟨h1,h2⟩=> ?_
  subst h2;exact⟨.string ⟨#[]⟩,m,n,ι,by rw[h1];simp[ren],hh,Nat.le_refl _,fun _ _=>rfl,RelM.drew hrel,hwf,by simp[ids]⟩
 ·rename_i v0 g sp' q cap r hb hc;split at hh
  case h_2=>exact hh.elim
  rename_i d hd;split at hh
  case h_2=>exact hh.elim
  rename_i hq;simp only[jaf,Nat.beq_eq,Bool.not_eq_true',Nat.ble_eq]at hq;obtain⟨d1,d2,d3,d5,d6,d7,d4⟩:=hq;have d3:q≠0:=fun e=>by rw[e]at d3;cases d3
  obtain⟨ho,hit,hpos,hlies⟩:=jfy hb;obtain⟨g1,g2,g3⟩:=hrel.blk k b hk ho;rw[objOf_cells hit]at g3;have dit:Nat.ble itTy d.ty=false:=by rw[d2];rfl
  obtain⟨f1,f2,f3⟩:=hrel.blk g d hd d1;rw[objOf_cells dit]at f3;have e1:([.pointer (some ⟨k,0,some sp⟩)]:E).map (ren ι)=[.pointer (some ⟨(ι k).1,0,none⟩)]:=by simp[ren,ren1,g1]
  rw[e1];obtain⟨b1,b2⟩:=isB8_spec d7;have hl:(jcu (d.c.take q)).length=q:=by rw[b1,List.length_take];omega
  have hc1:w.cell? ⟨(ι k).1,1,none⟩=some (.slice (some ⟨(ι g).1,0,none⟩) (jcu (d.c.take q)).length cap):=by
   rw[World.cell?,g3,hc,hl];simp[ren,ren1,f1]
  have hsh:w.shape? (ι g).1=some (Tryz.lays105_ren.t 5,(⟨d.c.map (ren ι)⟩:Array Value).size):=by
   have:Tryz.lays105_ren.t 5=5:=rfl;rw[this,←d2];simp[World.shape?,f3]
  have hsz:(⟨d.c.map (ren ι)⟩:Array Value).size=d.c.length:=by simp
  refine(str_row (P:=Tryz.prog) (ρ:=Tryz.lays105_ren) {Tryz.lays105 with} Tryz.Builder_Extra_105 (ι k).1 (ι g).1 cap ⟨d.c.map (ren ι)⟩ (jcu (d.c.take q)) w (fun e=>by rw[e]at hl;exact d3 hl.symm) hc1 hsh (by omega) (by rw[hsz,hl];exact d5) (by rw[hl];exact d6) ?_).mono fun e w' ⟨h1,h2⟩=> ?_
  ·intro j x hx;have:=b2 j x hx;rw[List.getElem?_take]at this;split at this
   ·rw[World.cell?];have e2:((⟨(ι g).1,0,none⟩:Addr).add j)=⟨(ι g).1,j,none⟩:=by simp[Addr.add];omega
    rw[e2,f3];simp[this,ren]
   ·cases this
  ·subst h2;rw[hl];refine⟨.string (ja3 d.c 0 q),_,n,ι,by rw[h1];simp[ren,ja3],hh,Nat.le_refl _,fun _ _=>rfl,RelM.frozenN (RelM.drew hrel) hd d1 dit 0 d3,fun j c hj=> ?_,by simp[ids]⟩;by_cases e:j=g
   ·subst e;rw[Lk.upd_same]at hj;cases hj;exact hwf j d hd
   ·rw[Lk.upd_other _ _ e]at hj;exact hwf j c hj
 ·exact hh.elim
end Go.Ff
end
noncomputable section
namespace Go.Ff
open Go Go.Ab Go.Proofs Go.Shelf Go.Px
theorem c187:jbe Tryz.prog 187:=cal Tryz.func187 (by kernel_rfl) (by kernel_rfl)
theorem ok187:jam Tryz.prog 187 (sp2 s141):=jcs c187 fun s c hc w _=>by
 have hc:0≤c.n∧c.n<256:=jab hc;refine(Any.stringslite_IndexByte (ρ:=Tryz.lays137_ren) {Tryz.lays137 with} s c.n w).mono fun e w' ⟨h1,h2⟩=>⟨?_,jb0 h2⟩
 rw[h1,jjo];simp only[s141]
 have:((c.n.toNat.toUInt8.toNat:Nat):Int)=c.n:=by
  simp only[Nat.toUInt8,UInt8.toNat_ofNat'];omega
 rw[this,jiu]
def anyI:F→F→Int
 | [],_=> -1
 | b::l,cs=>if hasZ cs b=true then 0 else if anyI l cs= -1 then -1 else anyI l cs+1
theorem anyI_zl(cs:Ya):∀l:Ya,Lib.indexAny l cs=anyI (zl l) (zl cs)
 | []=>rfl
 | b::l=>by
  have ih:=anyI_zl cs l;have hb:hasZ (zl cs) b.toNat=cs.contains b:=(jir b cs).symm;simp only[zl,List.map_cons,anyI]at ih hb ⊢;rw[hb,Lib.indexAny,ih];simp only[beq_iff_eq]
theorem c87:jbe Tryz.prog 87:=cal Tryz.func87 (by kernel_rfl) (by kernel_rfl)
def s87(s t:Y):Bool×Value:=(decide (s.size≤1000000) && (decide (t.size≤1000) && (asc (bz s) &&asc (bz t))),.int .i64 (anyI (bz s) (bz t)))
theorem ok87:jam Tryz.prog 87 (sp2 s87):=jcs c87 fun s t hc w _=>by
 simp only[s87,jaf,jae]at hc;obtain⟨h1,h2,h3,h4⟩:=hc;refine(Any.strings_IndexAny_laid (ρ:=Tryz.lays150_ren) {Tryz.lays150 with} info128 s t w (by omega) (by omega) (jcz h3) (jcz h4)).mono fun e w' ⟨h5,h6⟩=>⟨?_,h6⟩
 rw[h5,anyI_zl,jiu,jiu];rfl
def tlsZ(l cs:F):F:=l.dropWhile (hasZ cs ·)
theorem tls_zl(cs:Ya)(l:Ya):zl (l.dropWhile (cs.contains ·))=tlsZ (zl l) (zl cs):=by
 rw[tlsZ,jei (q:=(hasZ (zl cs) ·)) (fun b=>jir b cs)]
theorem c80:jbe Tryz.prog 80:=cal Tryz.func80 (by kernel_rfl) (by kernel_rfl)
def s80(s t:Y):Bool×Value:=(decide (t.size≤1000) &&asc (bz t),.string (sz (tlsZ (bz s) (bz t))))
theorem ok80:jam Tryz.prog 80 (sp2 s80):=jcs c80 fun s t hc w _=>by
 simp only[s80,jaf,jae]at hc;refine(Any.strings_TrimLeft_laid (ρ:=Tryz.lays161_ren) {Tryz.lays161 with} jhx s t w (by omega) (jcz hc.2)).mono fun e w' ⟨h5,h6⟩=>⟨?_,h6⟩
 rw[h5,jf9,Lib.trimLeftS,tls_zl,jiu,jiu];rfl
def s103(s:Y)(c:U8):Bool×Value:=(decide (s.size≤4611686018427387903),.int .i64 (jbt (bz s) c.n))
theorem ok103:jam Tryz.prog 103 (sp2 s103):=jcs c280 fun s c hc w _=>by
 have hc:=jab hc;refine(Any.strings_LastIndexByte Tryz.lays149 s c.n (by omega) w).mono fun e w' ⟨h1,h2⟩=>⟨?_,jb0 h2⟩
 rw[h1,last_zl];rfl
end Go.Ff
end
noncomputable section
set_option maxHeartbeats 3200000
namespace Go.Ff
open Go Go.Ab Go.Proofs Go.Shelf Go.Px
def P0:Env:=(Env.nil.add 103 (sp2 s103))
theorem ok_P0:jap Tryz.prog P0:=jak ja5 ok103
theorem jhv:∀(l:F)(c:Int),-1≤jbt l c∧jbt l c<l.length
 | [],_=>⟨Int.le_refl _,by simp[jbt]⟩
 | b::l,c=>by
  have:=jhv l c;simp only[jbt,List.length_cons];split
  ·split<;>omega
  ·omega
def s85:Ab.Spec:=fun args bs=>match args,bs with
 | [.pointer (some ⟨_,0,some 0⟩)],[some ⟨[.string s,.int .i64 p],ty,o⟩]=>some (decide (0≤p∧p≤s.size),S (s.extract p.toNat s.size))
 | [.pointer (some ⟨_,0,some (sp+1)⟩)],[some ⟨[.string s,.int .i64 p],ty,o⟩]=>some (decide (0≤p∧p≤s.size),S (s.extract p.toNat s.size))
 | _,_=>none
theorem fn85:Fn1 Tryz.prog 85 Tryz.f85:= .m Tryz.func85
theorem v85_0(s:Y)(p:Int)(ty:TypeId)(o:Bool)(R:Value→Prop):jg6 Tryz.prog P0 noL Tryz.f85 [.pointer (some ⟨0,0,some 0⟩)] (jg3 [some ⟨[S s,I p],ty,o⟩]) 1 (fun v _ _=>R v)=(b5 (co s p (al s)) (S (s.extract p.toNat s.size)) R):=by kernel_rfl
theorem v85_1(sp:Nat)(s:Y)(p:Int)(ty:TypeId)(o:Bool)(R:Value→Prop):jg6 Tryz.prog P0 noL Tryz.f85 [.pointer (some ⟨0,0,some (sp+1)⟩)] (jg3 [some ⟨[S s,I p],ty,o⟩]) 1 (fun v _ _=>R v)=(b5 (co s p (al s)) (S (s.extract p.toNat s.size)) R):=by kernel_rfl
theorem k85_0(s:Y)(p:Int)(ty:TypeId)(o:Bool)(hc:(decide (0≤p∧p≤s.size))=true):je5 Tryz.prog P0 noL Tryz.f85 [.pointer (some ⟨0,0,some 0⟩)] [some ⟨[S s,I p],ty,o⟩] 1 (S (s.extract p.toNat s.size)):=by
 rw[je5,v85_0];delta b5 al co;have hc:=jab hc
 first
  | exact c_t (jaa ⟨hc.1,hc.2,Int.le_refl _⟩) rfl
  | trace_state
theorem k85_1(sp:Nat)(s:Y)(p:Int)(ty:TypeId)(o:Bool)(hc:(decide (0≤p∧p≤s.size))=true):je5 Tryz.prog P0 noL Tryz.f85 [.pointer (some ⟨0,0,some (sp+1)⟩)] [some ⟨[S s,I p],ty,o⟩] 1 (S (s.extract p.toNat s.size)):=by
 rw[je5,v85_1];delta b5 al co;have hc:=jab hc
 first
  | exact c_t (jaa ⟨hc.1,hc.2,Int.le_refl _⟩) rfl
  | trace_state
theorem ok85:jam Tryz.prog 85 s85:=by
 refine jgd ok_P0 hmix fn85 jai fun args bs v hs=> ?_
 simp only[s85]at hs;split at hs
 ·simp only[Option.some.injEq,Prod.mk.injEq]at hs;obtain⟨hc,rfl⟩:=hs;exact⟨_,1,rfl,rfl,jag,k85_0 _ _ _ _ (by first | rfl | exact hc)⟩
 ·simp only[Option.some.injEq,Prod.mk.injEq]at hs;obtain⟨hc,rfl⟩:=hs;exact⟨_,1,rfl,rfl,jag,k85_1 _ _ _ _ _ (by first | rfl | exact hc)⟩
 ·cases hs
def s63:Ab.Spec:=fun args bs=>match args,bs with
 | [.pointer (some ⟨_,0,some 0⟩)],[some ⟨[.string s,.int .i64 p],ty,o⟩]=>some (decide (0≤p∧p≤s.size∧s.size≤1000000),I (p-jbt ((bz s).take p.toNat) 10))
 | [.pointer (some ⟨_,0,some (sp+1)⟩)],[some ⟨[.string s,.int .i64 p],ty,o⟩]=>some (decide (0≤p∧p≤s.size∧s.size≤1000000),I (p-jbt ((bz s).take p.toNat) 10))
 | _,_=>none
theorem fn63:Fn1 Tryz.prog 63 Tryz.f63:= .m Tryz.func63
def ky(a:Y)(b:Int)(c:Value→Prop):Prop:=bif co a 0 b then b5 (decide ((a.extract 0 b.toNat).size≤4611686018427387903)) (.int .i64 (a8 b (jbt (bz (a.extract 0 b.toNat)) 10))) c else False
theorem v63_0(s:Y)(p:Int)(ty:TypeId)(o:Bool)(R:Value→Prop):jg6 Tryz.prog P0 noL Tryz.f63 [.pointer (some ⟨0,0,some 0⟩)] (jg3 [some ⟨[S s,I p],ty,o⟩]) 1 (fun v _ _=>R v)=(ky s p R):=by kernel_rfl
theorem v63_1(sp:Nat)(s:Y)(p:Int)(ty:TypeId)(o:Bool)(R:Value→Prop):jg6 Tryz.prog P0 noL Tryz.f63 [.pointer (some ⟨0,0,some (sp+1)⟩)] (jg3 [some ⟨[S s,I p],ty,o⟩]) 1 (fun v _ _=>R v)=(ky s p R):=by kernel_rfl
theorem k63_0(s:Y)(p:Int)(ty:TypeId)(o:Bool)(hc:(decide (0≤p∧p≤s.size∧s.size≤1000000))=true):je5 Tryz.prog P0 noL Tryz.f63 [.pointer (some ⟨0,0,some 0⟩)] [some ⟨[S s,I p],ty,o⟩] 1 (I (p-jbt ((bz s).take p.toNat) 10)):=by
 rw[je5,v63_0];delta b5 a8 al co ky;have hc:=jab hc;have hb:=jhv ((bz s).take p.toNat) 10;rw[List.length_take,jav]at hb;have e:bz (s.extract 0 p.toNat)=(bz s).take p.toNat:=by rw[jci];rfl
 rw[e,w64 (by omega)];refine c_t (jaa ⟨Int.le_refl _,hc.1,hc.2.1⟩) (c_t ?_ rfl);rw[ByteArray.size_extract];exact jaa (by omega)
theorem k63_1(sp:Nat)(s:Y)(p:Int)(ty:TypeId)(o:Bool)(hc:(decide (0≤p∧p≤s.size∧s.size≤1000000))=true):je5 Tryz.prog P0 noL Tryz.f63 [.pointer (some ⟨0,0,some (sp+1)⟩)] [some ⟨[S s,I p],ty,o⟩] 1 (I (p-jbt ((bz s).take p.toNat) 10)):=by
 rw[je5,v63_1];delta b5 a8 al co ky;have hc:=jab hc;have hb:=jhv ((bz s).take p.toNat) 10;rw[List.length_take,jav]at hb;have e:bz (s.extract 0 p.toNat)=(bz s).take p.toNat:=by rw[jci];rfl
 rw[e,w64 (by omega)];refine c_t (jaa ⟨Int.le_refl _,hc.1,hc.2.1⟩) (c_t ?_ rfl);rw[ByteArray.size_extract];exact jaa (by omega)
theorem ok63:jam Tryz.prog 63 s63:=by
 refine jgd ok_P0 hmix fn63 jai fun args bs v hs=> ?_
 simp only[s63]at hs;split at hs
 ·simp only[Option.some.injEq,Prod.mk.injEq]at hs;obtain⟨hc,rfl⟩:=hs;exact⟨_,1,rfl,rfl,jag,k63_0 _ _ _ _ (by first | rfl | exact hc)⟩
 ·simp only[Option.some.injEq,Prod.mk.injEq]at hs;obtain⟨hc,rfl⟩:=hs;exact⟨_,1,rfl,rfl,jag,k63_1 _ _ _ _ _ (by first | rfl | exact hc)⟩
 ·cases hs
def s61:Ab.Spec:=fun args bs=>match args,bs with
 | [.pointer (some ⟨_,0,some 0⟩)],[some ⟨[.string s,.int .i64 p],ty,o⟩]=>some (true,I p)
 | [.pointer (some ⟨_,0,some (sp+1)⟩)],[some ⟨[.string s,.int .i64 p],ty,o⟩]=>some (true,I p)
 | _,_=>none
theorem fn61:Fn1 Tryz.prog 61 Tryz.f61:= .m Tryz.func61
theorem v61_0(s:Y)(p:Int)(ty:TypeId)(o:Bool)(R:Value→Prop):jg6 Tryz.prog P0 noL Tryz.f61 [.pointer (some ⟨0,0,some 0⟩)] (jg3 [some ⟨[S s,I p],ty,o⟩]) 1 (fun v _ _=>R v)=(R (I p)):=by kernel_rfl
theorem v61_1(sp:Nat)(s:Y)(p:Int)(ty:TypeId)(o:Bool)(R:Value→Prop):jg6 Tryz.prog P0 noL Tryz.f61 [.pointer (some ⟨0,0,some (sp+1)⟩)] (jg3 [some ⟨[S s,I p],ty,o⟩]) 1 (fun v _ _=>R v)=(R (I p)):=by kernel_rfl
theorem k61_0(s:Y)(p:Int)(ty:TypeId)(o:Bool)(hc:(true)=true):je5 Tryz.prog P0 noL Tryz.f61 [.pointer (some ⟨0,0,some 0⟩)] [some ⟨[S s,I p],ty,o⟩] 1 (I p):=by
 rw[je5,v61_0]
theorem k61_1(sp:Nat)(s:Y)(p:Int)(ty:TypeId)(o:Bool)(hc:(true)=true):je5 Tryz.prog P0 noL Tryz.f61 [.pointer (some ⟨0,0,some (sp+1)⟩)] [some ⟨[S s,I p],ty,o⟩] 1 (I p):=by
 rw[je5,v61_1]
theorem ok61:jam Tryz.prog 61 s61:=by
 refine jgd ok_P0 hmix fn61 jai fun args bs v hs=> ?_
 simp only[s61]at hs;split at hs
 ·simp only[Option.some.injEq,Prod.mk.injEq]at hs;obtain⟨hc,rfl⟩:=hs;exact⟨_,1,rfl,rfl,jag,k61_0 _ _ _ _ (by first | rfl | exact hc)⟩
 ·simp only[Option.some.injEq,Prod.mk.injEq]at hs;obtain⟨hc,rfl⟩:=hs;exact⟨_,1,rfl,rfl,jag,k61_1 _ _ _ _ _ (by first | rfl | exact hc)⟩
 ·cases hs
end Go.Ff
end
noncomputable section
namespace Go.Px
open Go Go.Proofs
open Go.Proofs.YtoofiemfbldebaaGreatDoor
theorem q_laid:laidOutB Tryz.prog=true:=by kernel_rfl
theorem q_maps:mapsRowed Tryz.prog=true:=by kernel_rfl
theorem q_stop:(Tryz.prog.stops==[])=true:=by kernel_rfl
theorem q_knob:(Tryz.prog.stopKnobs==[])=true:=by kernel_rfl
theorem q_keys:(Rows.formatRoundsRow.plainKeys==Tryz.prog.plainKeys)=true:=by kernel_rfl
theorem q_heard:Tryz.prog.stopsHeard=true:=by kernel_rfl
theorem q_enter:Tryz.prog.mayEnter=true:=by kernel_rfl
theorem q_lifts:(Rows.formatRoundsRow.lifted==Tryz.prog.liftsFinal)=true:=by kernel_rfl
theorem q_make:(Tryz.prog.make==some Rows.formatRoundsRow.make)=true:=by kernel_rfl
theorem main_is : Tryz.pinned.checked.prog.mainIs = some (true, ("194b5b2e2e12b30d3d25bcbfad02f561222b8d466eeb4cea07aad47b7c5b09f6" : String).toList) := by kernel_rfl
theorem looks_is:true=Tryz.pinned.checked.prog.looks []:=by kernel_rfl
end Go.Px
end
