/-
  Part 5: the run and laws.
-/
import Derived.Test.YtiahilhlpmohoaaGreatDoorS14
set_option linter.unusedVariables false
set_option linter.unusedSimpArgs false
set_option linter.unusedSectionVars false
noncomputable section
set_option maxRecDepth 100000
set_option maxHeartbeats 3200000
namespace Go.Cs
open Go Go.Ab Go.Proofs Go.Px Go.Cx
variable [MaxL]
def nA(r:Nst):Nst:= .app none 1 1 r
def nB(n:Nat)(r:Nst):Nst:= .app (some 0) n 1 r
abbrev EP:={G:Env//ja3 Tryz.prog G}
theorem fnP {k : Nat} {f : Func} (h : Tryz.prog.funcs[k]? = some f) (h2 : (f.body.isSome, (f.name == "runtime.NumGoroutine"), (match f.body with | some c => jch c | none => false)) = (true, false, true)) : Fn1 Tryz.prog k f := ⟨h, congrArg (·.1) h2, congrArg (·.2.1) h2, congrArg (·.2.2) h2⟩
def ei (E : EP) (k : Nat) {f : Func} (h : Tryz.prog.funcs[k]? = some f) (h2 : (f.body.isSome, (f.name == "runtime.NumGoroutine"), (match f.body with | some c => jch c | none => false)) = (true, false, true) := by kernel_rfl) : EP := ⟨E.1.addG k (inlQ Tryz.prog E.1 noL f), jau E.2 (jbh E.2 hmix (fnP h h2) jal)⟩
def ea(E:EP)(k:Nat){s:Ab.Spec}(h:jan Tryz.prog k s):EP:=⟨E.1.add k s,jaj E.2 h⟩
def em (E : EP) (k : Nat) {f : Func} (h : Tryz.prog.funcs[k]? = some f) (l : List (J × Value)) (ks : List Nst := []) (h2 : (f.body.isSome, (f.name == "runtime.NumGoroutine"), (match f.body with | some c => jch c | none => false)) = (true, false, true) := by kernel_rfl) (h3 : (l.all fun x => ja1 x.1 && Nat.ble x.1.length f.ntmps) = true := by kernel_rfl) (h4 : RunL Tryz.prog E.1 noL f l = jni l ks := by kernel_rfl) : EP := ea E k (pure_memoN (l := l) ks E.2 hmix (fnP h h2) jal h3 h4)
def a0:EP:=⟨S0,ok_S0⟩
def a1:EP:=ei a0 185 Tryz.func185
def a2:EP:=ei a1 186 Tryz.func186
def m113:List (J×Value):=[([.string ⟨#[57,57,86,57]⟩],.tuple ⟨[.string ⟨#[57,57,86,57]⟩,.bool true]⟩)]
def a3:EP:=em a2 127 Tryz.func127 m113 [nA (nB 2 (nB 3 (nB 4 .leaf)))]
def a4:EP:=ei a3 255 Tryz.func255
def a5:EP:=ei a4 188 Tryz.func188
def a6:EP:=ei a5 190 Tryz.func190
def a7:EP:=ei a6 191 Tryz.func191
def a8:EP:=ei a7 192 Tryz.func192
def a9:EP:=ei a8 129 Tryz.func129
def a10:EP:=ei a9 79 Tryz.func79
def m102:List (J×Value):=[([.string ⟨#[57,57,86,57]⟩],.tuple ⟨[.agg ⟨[.string ⟨#[57,57,86,57]⟩,.bool true,.int .i64 3,.int .i64 3,.int .i64 1,.bool false]⟩,.int .i64 0]⟩)]
def a11:EP:=em a10 26 Tryz.func26 m102 [.bts 4 (nA (nB 2 (nB 3 (nB 4 (.bts 4 .leaf)))))]
def m65:List (J×Value):=[([.string ⟨#[57,57,86,57]⟩],.int .i64 0)]
def a12:EP:=em a11 122 Tryz.func122 m65
def m130:List (J×Value):=[([.string ⟨#[57,57,86,57]⟩],.tuple ⟨[.agg ⟨[.int .i64 1,.int .i64 3,.int .i64 1,.bool false,.string ⟨#[]⟩]⟩,.int .i64 0]⟩)]
def a13:EP:=em a12 172 Tryz.func172 m130
def a14:EP:=ei a13 181 Tryz.func181
def m128:List (J×Value):=[([.string ⟨#[57,57,86,57]⟩],.bool true)]
def a15:EP:=em a14 170 Tryz.func170 m128 [.bts 4 (nA (nB 2 (nB 3 (nB 4 (.bts 4 .leaf)))))]
def a16:EP:=ei a15 126 Tryz.func126
def a17:EP:=ei a16 282 Tryz.func282
def a18:EP:=ei a17 296 Tryz.func296
def a19:EP:=ei a18 297 Tryz.func297
def a20:EP:=ei a19 246 Tryz.func246
def a21:EP:=ei a20 247 Tryz.func247
def a22:EP:=ei a21 248 Tryz.func248
def a23:EP:=ei a22 249 Tryz.func249
def a24:EP:=ei a23 250 Tryz.func250
def a25:EP:=ei a24 251 Tryz.func251
def a26:EP:=ei a25 184 Tryz.func184
def m170:List (J×Value):=[([.int .i64 123,.int .i64 1,.string ⟨#[57,57,86,57]⟩],.tuple ⟨[.string ⟨#[49,50,51]⟩,.bool true,.int .i64 0]⟩)]
def a27:EP:=em a26 233 Tryz.func233 m170 [.bts 4 (nA (nB 2 (nB 3 (nB 4 (.bts 4 (nA (nB 2 (nB 3 .leaf))))))))]
def a28:EP:=ea a27 287 (pureC Cx.ok152)
def a29:EP:=ea a28 308 (pureC Cx.ok213)
def a30:EP:=ea a29 176 (pureC Cx.ok141)
def a31:EP:=ea a30 121 (pureC Cx.ok66)
def a32:EP:=ea a31 305 (pureC Cx.ok85)
def m33:List (J×Value):=[([.agg ⟨[.int .i64 1,.int .i64 5,.int .i64 2,.bool false,.string ⟨#[]⟩]⟩],.int .i64 0),([.agg ⟨[.int .i64 1,.int .i64 3,.int .i64 1,.bool false,.string ⟨#[]⟩]⟩],.int .i64 0),([.agg ⟨[.int .i64 1,.int .i64 4,.int .i64 2,.bool false,.string ⟨#[]⟩]⟩],.int .i64 0),([.agg ⟨[.int .i64 1,.int .i64 9,.int .i64 2,.bool false,.string ⟨#[]⟩]⟩],.int .i64 0),([.agg ⟨[.int .i64 1,.int .i64 3,.int .i64 1,.bool false,.string ⟨#[]⟩]⟩],.int .i64 0),([.agg ⟨[.int .i64 3,.int .i64 1,.int .i64 0,.bool false,.string ⟨#[]⟩]⟩],.int .i64 0),([.agg ⟨[.int .i64 3,.int .i64 2,.int .i64 0,.bool false,.string ⟨#[]⟩]⟩],.int .i64 0),([.agg ⟨[.int .i64 3,.int .i64 4,.int .i64 0,.bool false,.string ⟨#[]⟩]⟩],.int .i64 0),([.agg ⟨[.int .i64 3,.int .i64 6,.int .i64 0,.bool false,.string ⟨#[]⟩]⟩],.int .i64 0),([.agg ⟨[.int .i64 4,.int .i64 2,.int .i64 0,.bool false,.string ⟨#[]⟩]⟩],.int .i64 0),([.agg ⟨[.int .i64 4,.int .i64 3,.int .i64 0,.bool false,.string ⟨#[]⟩]⟩],.int .i64 0),([.agg ⟨[.int .i64 4,.int .i64 4,.int .i64 0,.bool false,.string ⟨#[]⟩]⟩],.int .i64 0),([.agg ⟨[.int .i64 5,.int .i64 0,.int .i64 0,.bool false,.string ⟨#[57,57,86,57]⟩]⟩],.int .i64 0)]
def a33:EP:=em a32 72 Tryz.func72 m33 [.leaf,.leaf,.leaf,.leaf,.leaf,.both .leaf .leaf,.both .leaf .leaf,.both .leaf .leaf,.both .leaf .leaf]
def m105:List (J×Value):=[([],.agg ⟨[.int .i64 1,.int .i64 10,.int .i64 100,.int .i64 1000,.int .i64 10000,.int .i64 100000,.int .i64 1000000,.int .i64 10000000,.int .i64 100000000,.int .i64 1000000000,.int .i64 10000000000,.int .i64 100000000000,.int .i64 1000000000000,.int .i64 10000000000000,.int .i64 100000000000000,.int .i64 1000000000000000,.int .i64 10000000000000000,.int .i64 100000000000000000,.int .i64 1000000000000000000]⟩)]
def a34:EP:=em a33 177 Tryz.func177 m105
def m66:List (J×Value):=[([.agg ⟨[.int .i64 1,.int .i64 5,.int .i64 2,.bool false,.string ⟨#[]⟩]⟩],.int .i64 100000),([.agg ⟨[.int .i64 1,.int .i64 3,.int .i64 1,.bool false,.string ⟨#[]⟩]⟩],.int .i64 1000),([.agg ⟨[.int .i64 1,.int .i64 4,.int .i64 2,.bool false,.string ⟨#[]⟩]⟩],.int .i64 10000),([.agg ⟨[.int .i64 1,.int .i64 9,.int .i64 2,.bool false,.string ⟨#[]⟩]⟩],.int .i64 1000000000)]
def a35:EP:=em a34 123 Tryz.func123 m66
def m34:List (J×Value):=[([.agg ⟨[.int .i64 (-125),.string ⟨#[]⟩]⟩,.agg ⟨[.int .i64 1,.int .i64 5,.int .i64 2,.bool false,.string ⟨#[]⟩]⟩],.int .i64 0),([.agg ⟨[.int .i64 5,.string ⟨#[]⟩]⟩,.agg ⟨[.int .i64 1,.int .i64 3,.int .i64 1,.bool false,.string ⟨#[]⟩]⟩],.int .i64 0),([.agg ⟨[.int .i64 1234,.string ⟨#[]⟩]⟩,.agg ⟨[.int .i64 1,.int .i64 4,.int .i64 2,.bool false,.string ⟨#[]⟩]⟩],.int .i64 0),([.agg ⟨[.int .i64 150,.string ⟨#[]⟩]⟩,.agg ⟨[.int .i64 1,.int .i64 5,.int .i64 2,.bool false,.string ⟨#[]⟩]⟩],.int .i64 0),([.agg ⟨[.int .i64 125,.string ⟨#[]⟩]⟩,.agg ⟨[.int .i64 1,.int .i64 9,.int .i64 2,.bool false,.string ⟨#[]⟩]⟩],.int .i64 0)]
def a36:EP:=em a35 73 Tryz.func73 m34
def m35:List (J×Value):=[([.string ⟨#[49,49]⟩],.bool true),([.string ⟨#[49,48,49]⟩],.bool true),([.string ⟨#[120]⟩],.bool false)]
def a37:EP:=em a36 74 Tryz.func74 m35
def m7:List (J×Value):=[([.agg ⟨[.int .i64 (-125),.string ⟨#[]⟩]⟩,.agg ⟨[.int .i64 1,.int .i64 5,.int .i64 2,.bool false,.string ⟨#[]⟩]⟩],.int .i64 0),([.agg ⟨[.int .i64 5,.string ⟨#[]⟩]⟩,.agg ⟨[.int .i64 1,.int .i64 3,.int .i64 1,.bool false,.string ⟨#[]⟩]⟩],.int .i64 0),([.agg ⟨[.int .i64 1234,.string ⟨#[]⟩]⟩,.agg ⟨[.int .i64 1,.int .i64 4,.int .i64 2,.bool false,.string ⟨#[]⟩]⟩],.int .i64 0),([.agg ⟨[.int .i64 150,.string ⟨#[]⟩]⟩,.agg ⟨[.int .i64 1,.int .i64 5,.int .i64 2,.bool false,.string ⟨#[]⟩]⟩],.int .i64 0),([.agg ⟨[.int .i64 125,.string ⟨#[]⟩]⟩,.agg ⟨[.int .i64 1,.int .i64 9,.int .i64 2,.bool false,.string ⟨#[]⟩]⟩],.int .i64 0),([.agg ⟨[.int .i64 0,.string ⟨#[97,98]⟩]⟩,.agg ⟨[.int .i64 3,.int .i64 2,.int .i64 0,.bool false,.string ⟨#[]⟩]⟩],.int .i64 0),([.agg ⟨[.int .i64 0,.string ⟨#[49,49]⟩]⟩,.agg ⟨[.int .i64 4,.int .i64 2,.int .i64 0,.bool false,.string ⟨#[]⟩]⟩],.int .i64 0),([.agg ⟨[.int .i64 0,.string ⟨#[120]⟩]⟩,.agg ⟨[.int .i64 3,.int .i64 1,.int .i64 0,.bool false,.string ⟨#[]⟩]⟩],.int .i64 0),([.agg ⟨[.int .i64 0,.string ⟨#[121]⟩]⟩,.agg ⟨[.int .i64 3,.int .i64 1,.int .i64 0,.bool false,.string ⟨#[]⟩]⟩],.int .i64 0),([.agg ⟨[.int .i64 0,.string ⟨#[49,48,49]⟩]⟩,.agg ⟨[.int .i64 4,.int .i64 3,.int .i64 0,.bool false,.string ⟨#[]⟩]⟩],.int .i64 0),([.agg ⟨[.int .i64 0,.string ⟨#[105,116,39,115]⟩]⟩,.agg ⟨[.int .i64 3,.int .i64 4,.int .i64 0,.bool false,.string ⟨#[]⟩]⟩],.int .i64 0),([.agg ⟨[.int .i64 0,.string ⟨#[49,50]⟩]⟩,.agg ⟨[.int .i64 3,.int .i64 2,.int .i64 0,.bool false,.string ⟨#[]⟩]⟩],.int .i64 0),([.agg ⟨[.int .i64 0,.string ⟨#[51,52]⟩]⟩,.agg ⟨[.int .i64 3,.int .i64 2,.int .i64 0,.bool false,.string ⟨#[]⟩]⟩],.int .i64 0),([.agg ⟨[.int .i64 0,.string ⟨#[53,54]⟩]⟩,.agg ⟨[.int .i64 3,.int .i64 2,.int .i64 0,.bool false,.string ⟨#[]⟩]⟩],.int .i64 0)]
def a38:EP:=em a37 23 Tryz.func23 m7
def m124:List (J×Value):=[([.agg ⟨[.int .i64 1234,.string ⟨#[]⟩]⟩,.agg ⟨[.int .i64 1,.int .i64 4,.int .i64 2,.bool false,.string ⟨#[]⟩]⟩],.iface 241 (.agg ⟨[.int .i64 1234,.int .i64 1,.int .i64 4,.int .i64 2,.bool false,.string ⟨#[]⟩]⟩)),([.agg ⟨[.int .i64 150,.string ⟨#[]⟩]⟩,.agg ⟨[.int .i64 1,.int .i64 5,.int .i64 2,.bool false,.string ⟨#[]⟩]⟩],.iface 241 (.agg ⟨[.int .i64 150,.int .i64 1,.int .i64 5,.int .i64 2,.bool false,.string ⟨#[]⟩]⟩)),([.agg ⟨[.int .i64 125,.string ⟨#[]⟩]⟩,.agg ⟨[.int .i64 1,.int .i64 9,.int .i64 2,.bool false,.string ⟨#[]⟩]⟩],.iface 241 (.agg ⟨[.int .i64 125,.int .i64 1,.int .i64 9,.int .i64 2,.bool false,.string ⟨#[]⟩]⟩)),([.agg ⟨[.int .i64 0,.string ⟨#[97,98]⟩]⟩,.agg ⟨[.int .i64 3,.int .i64 2,.int .i64 0,.bool false,.string ⟨#[]⟩]⟩],.iface 245 (.string ⟨#[97,98]⟩)),([.agg ⟨[.int .i64 0,.string ⟨#[49,49]⟩]⟩,.agg ⟨[.int .i64 4,.int .i64 2,.int .i64 0,.bool false,.string ⟨#[]⟩]⟩],.iface 242 (.string ⟨#[49,49]⟩)),([.agg ⟨[.int .i64 0,.string ⟨#[120]⟩]⟩,.agg ⟨[.int .i64 3,.int .i64 1,.int .i64 0,.bool false,.string ⟨#[]⟩]⟩],.iface 245 (.string ⟨#[120]⟩)),([.agg ⟨[.int .i64 0,.string ⟨#[121]⟩]⟩,.agg ⟨[.int .i64 3,.int .i64 1,.int .i64 0,.bool false,.string ⟨#[]⟩]⟩],.iface 245 (.string ⟨#[121]⟩)),([.agg ⟨[.int .i64 0,.string ⟨#[105,116,39,115]⟩]⟩,.agg ⟨[.int .i64 3,.int .i64 4,.int .i64 0,.bool false,.string ⟨#[]⟩]⟩],.iface 245 (.string ⟨#[105,116,39,115]⟩)),([.agg ⟨[.int .i64 0,.string ⟨#[49,50]⟩]⟩,.agg ⟨[.int .i64 3,.int .i64 2,.int .i64 0,.bool false,.string ⟨#[]⟩]⟩],.iface 245 (.string ⟨#[49,50]⟩)),([.agg ⟨[.int .i64 0,.string ⟨#[51,52]⟩]⟩,.agg ⟨[.int .i64 3,.int .i64 2,.int .i64 0,.bool false,.string ⟨#[]⟩]⟩],.iface 245 (.string ⟨#[51,52]⟩)),([.agg ⟨[.int .i64 0,.string ⟨#[53,54]⟩]⟩,.agg ⟨[.int .i64 3,.int .i64 2,.int .i64 0,.bool false,.string ⟨#[]⟩]⟩],.iface 245 (.string ⟨#[53,54]⟩))]
def a39:EP:=em a38 158 Tryz.func158 m124
def m266:List (J×Value):=[([.agg ⟨[.int .i64 1,.int .i64 5,.int .i64 2,.bool false,.string ⟨#[]⟩]⟩],.int .i64 8)]
def a40:EP:=em a39 339 Tryz.func339 m266
def m265:List (J×Value):=[([.agg ⟨[.int .i64 150,.int .i64 1,.int .i64 5,.int .i64 2,.bool false,.string ⟨#[]⟩]⟩],.string ⟨#[32,32,32,32,49,46,53,48]⟩)]
def a41:EP:=em a40 338 Tryz.func338 m265
def m269:List (J×Value):=[([.string ⟨#[97,98]⟩],.string ⟨#[97,98]⟩),([.string ⟨#[120]⟩],.string ⟨#[120]⟩),([.string ⟨#[121]⟩],.string ⟨#[121]⟩),([.string ⟨#[105,116,39,115]⟩],.string ⟨#[105,116,39,115]⟩),([.string ⟨#[49,50]⟩],.string ⟨#[49,50]⟩),([.string ⟨#[51,52]⟩],.string ⟨#[51,52]⟩),([.string ⟨#[53,54]⟩],.string ⟨#[53,54]⟩)]
def a42:EP:=em a41 342 Tryz.func342 m269
def m73:List (J×Value):=[([.agg ⟨[.int .i64 150,.string ⟨#[]⟩]⟩,.agg ⟨[.int .i64 1,.int .i64 5,.int .i64 2,.bool false,.string ⟨#[]⟩]⟩],.tuple ⟨[.string ⟨#[32,32,32,32,49,46,53,48]⟩,.int .i64 0]⟩),([.agg ⟨[.int .i64 0,.string ⟨#[97,98]⟩]⟩,.agg ⟨[.int .i64 3,.int .i64 2,.int .i64 0,.bool false,.string ⟨#[]⟩]⟩],.tuple ⟨[.string ⟨#[97,98]⟩,.int .i64 0]⟩),([.agg ⟨[.int .i64 0,.string ⟨#[120]⟩]⟩,.agg ⟨[.int .i64 3,.int .i64 1,.int .i64 0,.bool false,.string ⟨#[]⟩]⟩],.tuple ⟨[.string ⟨#[120]⟩,.int .i64 0]⟩),([.agg ⟨[.int .i64 0,.string ⟨#[121]⟩]⟩,.agg ⟨[.int .i64 3,.int .i64 1,.int .i64 0,.bool false,.string ⟨#[]⟩]⟩],.tuple ⟨[.string ⟨#[121]⟩,.int .i64 0]⟩)]
def a43:EP:=em a42 109 Tryz.func109 m73
def m178:List (J×Value):=[([.bool false,.string ⟨#[49,50,51,52]⟩,.int .i64 2],.agg ⟨[.bool false,.string ⟨#[49,50,51,52]⟩,.int .i64 2]⟩),([.bool false,.string ⟨#[49,50,53]⟩,.int .i64 2],.agg ⟨[.bool false,.string ⟨#[49,50,53]⟩,.int .i64 2]⟩)]
def a44:EP:=em a43 239 Tryz.func239 m178
def m226:List (J×Value):=[([.agg ⟨[.bool false,.string ⟨#[49,50,51,52]⟩,.int .i64 2]⟩],.bool true),([.agg ⟨[.bool false,.string ⟨#[49,50,53]⟩,.int .i64 2]⟩],.bool true)]
def a45:EP:=em a44 304 Tryz.func304 m226
def m228:List (J×Value):=[([.agg ⟨[.bool false,.string ⟨#[49,50,51,52]⟩,.int .i64 2]⟩,.int .i64 1],.string ⟨#[49,50,51]⟩),([.agg ⟨[.bool false,.string ⟨#[49,50,53]⟩,.int .i64 2]⟩,.int .i64 2],.string ⟨#[49,50,53]⟩)]
def a46:EP:=em a45 306 Tryz.func306 m228
def m202:List (J×Value):=[([.agg ⟨[.bool false,.string ⟨#[49,50,51,52]⟩,.int .i64 2]⟩,.agg ⟨[.int .i64 1,.int .i64 3,.int .i64 1,.bool false,.string ⟨#[]⟩]⟩],.tuple ⟨[.agg ⟨[.int .i64 123,.string ⟨#[]⟩]⟩,.int .i64 0,.int .i64 0]⟩),([.agg ⟨[.bool false,.string ⟨#[49,50,53]⟩,.int .i64 2]⟩,.agg ⟨[.int .i64 1,.int .i64 5,.int .i64 2,.bool false,.string ⟨#[]⟩]⟩],.tuple ⟨[.agg ⟨[.int .i64 125,.string ⟨#[]⟩]⟩,.int .i64 0,.int .i64 0]⟩)]
def a47:EP:=em a46 278 Tryz.func278 m202
def m201:List (J×Value):=[([.iface 241 (.agg ⟨[.int .i64 1234,.int .i64 1,.int .i64 4,.int .i64 2,.bool false,.string ⟨#[]⟩]⟩)],.tuple ⟨[.agg ⟨[.bool false,.string ⟨#[49,50,51,52]⟩,.int .i64 2]⟩,.nilIface]⟩),([.iface 241 (.agg ⟨[.int .i64 125,.int .i64 1,.int .i64 9,.int .i64 2,.bool false,.string ⟨#[]⟩]⟩)],.tuple ⟨[.agg ⟨[.bool false,.string ⟨#[49,50,53]⟩,.int .i64 2]⟩,.nilIface]⟩)]
def a48:EP:=em a47 277 Tryz.func277 m201
def m167:List (J×Value):=[([.iface 241 (.agg ⟨[.int .i64 1234,.int .i64 1,.int .i64 4,.int .i64 2,.bool false,.string ⟨#[]⟩]⟩),.agg ⟨[.int .i64 1,.int .i64 3,.int .i64 1,.bool false,.string ⟨#[]⟩]⟩],.tuple ⟨[.agg ⟨[.int .i64 123,.string ⟨#[]⟩]⟩,.int .i64 0,.nilIface]⟩),([.iface 241 (.agg ⟨[.int .i64 125,.int .i64 1,.int .i64 9,.int .i64 2,.bool false,.string ⟨#[]⟩]⟩),.agg ⟨[.int .i64 1,.int .i64 5,.int .i64 2,.bool false,.string ⟨#[]⟩]⟩],.tuple ⟨[.agg ⟨[.int .i64 125,.string ⟨#[]⟩]⟩,.int .i64 0,.nilIface]⟩)]
def a49:EP:=em a48 230 Tryz.func230 m167
def m168:List (J×Value):=[([.string ⟨#[]⟩,.int .i64 3,.string ⟨#[48]⟩],.string ⟨#[48,48,48]⟩),([.string ⟨#[49,49]⟩,.int .i64 4,.string ⟨#[48]⟩],.string ⟨#[49,49,48,48]⟩),([.string ⟨#[105,116,39,115]⟩,.int .i64 6,.string ⟨#[32]⟩],.string ⟨#[105,116,39,115,32,32]⟩),([.string ⟨#[49,50]⟩,.int .i64 2,.string ⟨#[32]⟩],.string ⟨#[49,50]⟩),([.string ⟨#[51,52]⟩,.int .i64 2,.string ⟨#[32]⟩],.string ⟨#[51,52]⟩),([.string ⟨#[53,54]⟩,.int .i64 2,.string ⟨#[32]⟩],.string ⟨#[53,54]⟩)]
def a50:EP:=em a49 231 Tryz.func231 m168
def m169:List (J×Value):=[([.iface 242 (.string ⟨#[49,49]⟩)],.tuple ⟨[.string ⟨#[49,49]⟩,.nilIface]⟩),([.iface 245 (.string ⟨#[120]⟩)],.tuple ⟨[.string ⟨#[]⟩,.iface 210 (.agg ⟨[.string ⟨#[120]⟩]⟩)]⟩)]
def a51:EP:=em a50 232 Tryz.func232 m169
def m125:List (J×Value):=[([.iface 241 (.agg ⟨[.int .i64 1234,.int .i64 1,.int .i64 4,.int .i64 2,.bool false,.string ⟨#[]⟩]⟩),.agg ⟨[.int .i64 5,.int .i64 0,.int .i64 0,.bool false,.string ⟨#[57,57,86,57]⟩]⟩],.tuple ⟨[.agg ⟨[.int .i64 0,.string ⟨#[49,50,51]⟩]⟩,.int .i64 0,.nilIface]⟩),([.iface 241 (.agg ⟨[.int .i64 125,.int .i64 1,.int .i64 9,.int .i64 2,.bool false,.string ⟨#[]⟩]⟩),.agg ⟨[.int .i64 1,.int .i64 5,.int .i64 2,.bool false,.string ⟨#[]⟩]⟩],.tuple ⟨[.agg ⟨[.int .i64 125,.string ⟨#[]⟩]⟩,.int .i64 0,.nilIface]⟩),([.iface 242 (.string ⟨#[49,49]⟩),.agg ⟨[.int .i64 4,.int .i64 4,.int .i64 0,.bool false,.string ⟨#[]⟩]⟩],.tuple ⟨[.agg ⟨[.int .i64 0,.string ⟨#[49,49,48,48]⟩]⟩,.int .i64 0,.nilIface]⟩),([.iface 245 (.string ⟨#[120]⟩),.agg ⟨[.int .i64 4,.int .i64 3,.int .i64 0,.bool false,.string ⟨#[]⟩]⟩],.tuple ⟨[.agg ⟨[.int .i64 0,.string ⟨#[48,48,48]⟩]⟩,.int .i64 0,.iface 210 (.agg ⟨[.string ⟨#[120]⟩]⟩)]⟩),([.iface 245 (.string ⟨#[105,116,39,115]⟩),.agg ⟨[.int .i64 3,.int .i64 6,.int .i64 0,.bool false,.string ⟨#[]⟩]⟩],.tuple ⟨[.agg ⟨[.int .i64 0,.string ⟨#[105,116,39,115,32,32]⟩]⟩,.int .i64 0,.nilIface]⟩),([.iface 245 (.string ⟨#[49,50]⟩),.agg ⟨[.int .i64 3,.int .i64 2,.int .i64 0,.bool false,.string ⟨#[]⟩]⟩],.tuple ⟨[.agg ⟨[.int .i64 0,.string ⟨#[49,50]⟩]⟩,.int .i64 0,.nilIface]⟩),([.iface 245 (.string ⟨#[51,52]⟩),.agg ⟨[.int .i64 3,.int .i64 2,.int .i64 0,.bool false,.string ⟨#[]⟩]⟩],.tuple ⟨[.agg ⟨[.int .i64 0,.string ⟨#[51,52]⟩]⟩,.int .i64 0,.nilIface]⟩),([.iface 245 (.string ⟨#[53,54]⟩),.agg ⟨[.int .i64 3,.int .i64 2,.int .i64 0,.bool false,.string ⟨#[]⟩]⟩],.tuple ⟨[.agg ⟨[.int .i64 0,.string ⟨#[53,54]⟩]⟩,.int .i64 0,.nilIface]⟩)]
def a52:EP:=em a51 167 Tryz.func167 m125
def m127:List (J×Value):=[([.agg ⟨[.int .i64 4,.int .i64 3,.int .i64 0,.bool false,.string ⟨#[]⟩]⟩],.agg ⟨[.int .i64 0,.string ⟨#[48,48,48]⟩]⟩)]
def a53:EP:=em a52 169 Tryz.func169 m127
def m74:List (J×Value):=[([.agg ⟨[.int .i64 1234,.string ⟨#[]⟩]⟩,.agg ⟨[.int .i64 1,.int .i64 4,.int .i64 2,.bool false,.string ⟨#[]⟩]⟩,.agg ⟨[.int .i64 5,.int .i64 0,.int .i64 0,.bool false,.string ⟨#[57,57,86,57]⟩]⟩],.tuple ⟨[.agg ⟨[.int .i64 0,.string ⟨#[49,50,51]⟩]⟩,.int .i64 0,.int .i64 0]⟩),([.agg ⟨[.int .i64 125,.string ⟨#[]⟩]⟩,.agg ⟨[.int .i64 1,.int .i64 9,.int .i64 2,.bool false,.string ⟨#[]⟩]⟩,.agg ⟨[.int .i64 1,.int .i64 5,.int .i64 2,.bool false,.string ⟨#[]⟩]⟩],.tuple ⟨[.agg ⟨[.int .i64 125,.string ⟨#[]⟩]⟩,.int .i64 0,.int .i64 0]⟩),([.agg ⟨[.int .i64 0,.string ⟨#[49,49]⟩]⟩,.agg ⟨[.int .i64 4,.int .i64 2,.int .i64 0,.bool false,.string ⟨#[]⟩]⟩,.agg ⟨[.int .i64 4,.int .i64 4,.int .i64 0,.bool false,.string ⟨#[]⟩]⟩],.tuple ⟨[.agg ⟨[.int .i64 0,.string ⟨#[49,49,48,48]⟩]⟩,.int .i64 0,.int .i64 0]⟩),([.agg ⟨[.int .i64 0,.string ⟨#[120]⟩]⟩,.agg ⟨[.int .i64 3,.int .i64 1,.int .i64 0,.bool false,.string ⟨#[]⟩]⟩,.agg ⟨[.int .i64 4,.int .i64 3,.int .i64 0,.bool false,.string ⟨#[]⟩]⟩],.tuple ⟨[.agg ⟨[.int .i64 0,.string ⟨#[48,48,48]⟩]⟩,.int .i64 4,.int .i64 0]⟩),([.agg ⟨[.int .i64 0,.string ⟨#[105,116,39,115]⟩]⟩,.agg ⟨[.int .i64 3,.int .i64 4,.int .i64 0,.bool false,.string ⟨#[]⟩]⟩,.agg ⟨[.int .i64 3,.int .i64 6,.int .i64 0,.bool false,.string ⟨#[]⟩]⟩],.tuple ⟨[.agg ⟨[.int .i64 0,.string ⟨#[105,116,39,115,32,32]⟩]⟩,.int .i64 0,.int .i64 0]⟩),([.agg ⟨[.int .i64 0,.string ⟨#[49,50]⟩]⟩,.agg ⟨[.int .i64 3,.int .i64 2,.int .i64 0,.bool false,.string ⟨#[]⟩]⟩,.agg ⟨[.int .i64 3,.int .i64 2,.int .i64 0,.bool false,.string ⟨#[]⟩]⟩],.tuple ⟨[.agg ⟨[.int .i64 0,.string ⟨#[49,50]⟩]⟩,.int .i64 0,.int .i64 0]⟩),([.agg ⟨[.int .i64 0,.string ⟨#[51,52]⟩]⟩,.agg ⟨[.int .i64 3,.int .i64 2,.int .i64 0,.bool false,.string ⟨#[]⟩]⟩,.agg ⟨[.int .i64 3,.int .i64 2,.int .i64 0,.bool false,.string ⟨#[]⟩]⟩],.tuple ⟨[.agg ⟨[.int .i64 0,.string ⟨#[51,52]⟩]⟩,.int .i64 0,.int .i64 0]⟩),([.agg ⟨[.int .i64 0,.string ⟨#[53,54]⟩]⟩,.agg ⟨[.int .i64 3,.int .i64 2,.int .i64 0,.bool false,.string ⟨#[]⟩]⟩,.agg ⟨[.int .i64 3,.int .i64 2,.int .i64 0,.bool false,.string ⟨#[]⟩]⟩],.tuple ⟨[.agg ⟨[.int .i64 0,.string ⟨#[53,54]⟩]⟩,.int .i64 0,.int .i64 0]⟩)]
def a54:EP:=em a53 115 Tryz.func115 m74
variable [MaxL]
def m44:List (J×Value):=[([.agg ⟨[.int .i64 3,.int .i64 6,.int .i64 2,.string ⟨#[]⟩]⟩],.bool true),([.agg ⟨[.int .i64 3,.int .i64 4,.int .i64 2,.string ⟨#[]⟩]⟩],.bool true),([.agg ⟨[.int .i64 3,.int .i64 6,.int .i64 1,.string ⟨#[]⟩]⟩],.bool true),([.agg ⟨[.int .i64 3,.int .i64 3,.int .i64 0,.string ⟨#[]⟩]⟩],.bool true),([.agg ⟨[.int .i64 1,.int .i64 4,.int .i64 0,.string ⟨#[]⟩]⟩],.bool true),([.agg ⟨[.int .i64 2,.int .i64 4,.int .i64 0,.string ⟨#[]⟩]⟩],.bool true),([.agg ⟨[.int .i64 2,.int .i64 3,.int .i64 0,.string ⟨#[]⟩]⟩],.bool true),([.agg ⟨[.int .i64 4,.int .i64 0,.int .i64 0,.string ⟨#[57,57,86,57]⟩]⟩],.bool true),([.agg ⟨[.int .i64 1,.int .i64 2,.int .i64 0,.string ⟨#[]⟩]⟩],.bool true),([.agg ⟨[.int .i64 5,.int .i64 1,.int .i64 0,.string ⟨#[]⟩]⟩],.bool true),([.agg ⟨[.int .i64 6,.int .i64 5,.int .i64 0,.string ⟨#[]⟩]⟩],.bool true),([.agg ⟨[.int .i64 1,.int .i64 0,.int .i64 0,.string ⟨#[]⟩]⟩],.bool true)]
def b1:EP:=em a54 77 Tryz.func77 m44
def m71:List (J×Value):=[([.agg ⟨[.int .i64 3,.int .i64 6,.int .i64 2,.string ⟨#[]⟩]⟩],.bool true),([.agg ⟨[.int .i64 3,.int .i64 4,.int .i64 2,.string ⟨#[]⟩]⟩],.bool true),([.agg ⟨[.int .i64 3,.int .i64 6,.int .i64 1,.string ⟨#[]⟩]⟩],.bool true),([.agg ⟨[.int .i64 3,.int .i64 3,.int .i64 0,.string ⟨#[]⟩]⟩],.bool true),([.agg ⟨[.int .i64 1,.int .i64 4,.int .i64 0,.string ⟨#[]⟩]⟩],.bool true),([.agg ⟨[.int .i64 2,.int .i64 4,.int .i64 0,.string ⟨#[]⟩]⟩],.bool true),([.agg ⟨[.int .i64 2,.int .i64 3,.int .i64 0,.string ⟨#[]⟩]⟩],.bool true),([.agg ⟨[.int .i64 4,.int .i64 0,.int .i64 0,.string ⟨#[57,57,86,57]⟩]⟩],.bool true),([.agg ⟨[.int .i64 1,.int .i64 2,.int .i64 0,.string ⟨#[]⟩]⟩],.bool true),([.agg ⟨[.int .i64 5,.int .i64 1,.int .i64 0,.string ⟨#[]⟩]⟩],.bool false),([.agg ⟨[.int .i64 6,.int .i64 5,.int .i64 0,.string ⟨#[]⟩]⟩],.bool false),([.agg ⟨[.int .i64 1,.int .i64 0,.int .i64 0,.string ⟨#[]⟩]⟩],.bool true)]
def b2:EP:=em b1 106 Tryz.func106 m71
def m37:List (J×Value):=[([.agg ⟨[.int .i64 3,.int .i64 6,.int .i64 2,.string ⟨#[]⟩]⟩],.int .i64 0),([.agg ⟨[.int .i64 3,.int .i64 4,.int .i64 2,.string ⟨#[]⟩]⟩],.int .i64 0),([.agg ⟨[.int .i64 3,.int .i64 6,.int .i64 1,.string ⟨#[]⟩]⟩],.int .i64 0),([.agg ⟨[.int .i64 3,.int .i64 3,.int .i64 0,.string ⟨#[]⟩]⟩],.int .i64 0),([.agg ⟨[.int .i64 1,.int .i64 4,.int .i64 0,.string ⟨#[]⟩]⟩],.int .i64 0),([.agg ⟨[.int .i64 2,.int .i64 4,.int .i64 0,.string ⟨#[]⟩]⟩],.int .i64 0),([.agg ⟨[.int .i64 2,.int .i64 3,.int .i64 0,.string ⟨#[]⟩]⟩],.int .i64 0),([.agg ⟨[.int .i64 4,.int .i64 0,.int .i64 0,.string ⟨#[57,57,86,57]⟩]⟩],.int .i64 0)]
def b3:EP:=em b2 78 Tryz.func78 m37
def m62:List (J×Value):=[([.agg ⟨[.int .i64 3,.int .i64 6,.int .i64 2,.string ⟨#[]⟩]⟩],.int .i64 6),([.agg ⟨[.int .i64 3,.int .i64 4,.int .i64 2,.string ⟨#[]⟩]⟩],.int .i64 4),([.agg ⟨[.int .i64 3,.int .i64 6,.int .i64 1,.string ⟨#[]⟩]⟩],.int .i64 6),([.agg ⟨[.int .i64 3,.int .i64 3,.int .i64 0,.string ⟨#[]⟩]⟩],.int .i64 3),([.agg ⟨[.int .i64 1,.int .i64 4,.int .i64 0,.string ⟨#[]⟩]⟩],.int .i64 4),([.agg ⟨[.int .i64 2,.int .i64 4,.int .i64 0,.string ⟨#[]⟩]⟩],.int .i64 4),([.agg ⟨[.int .i64 2,.int .i64 3,.int .i64 0,.string ⟨#[]⟩]⟩],.int .i64 3),([.agg ⟨[.int .i64 4,.int .i64 0,.int .i64 0,.string ⟨#[57,57,86,57]⟩]⟩],.int .i64 3),([.agg ⟨[.int .i64 1,.int .i64 2,.int .i64 0,.string ⟨#[]⟩]⟩],.int .i64 2),([.agg ⟨[.int .i64 1,.int .i64 0,.int .i64 0,.string ⟨#[]⟩]⟩],.int .i64 0)]
def b4:EP:=em b3 90 Tryz.func90 m62
def m55:List (J×Value):=[([.agg ⟨[.int .i64 1,.int .i64 5,.int .i64 2,.bool false,.string ⟨#[]⟩]⟩],.int .i64 0),([.agg ⟨[.int .i64 1,.int .i64 3,.int .i64 1,.bool false,.string ⟨#[]⟩]⟩],.int .i64 0),([.agg ⟨[.int .i64 3,.int .i64 2,.int .i64 0,.bool false,.string ⟨#[]⟩]⟩],.int .i64 0),([.agg ⟨[.int .i64 4,.int .i64 2,.int .i64 0,.bool false,.string ⟨#[]⟩]⟩],.int .i64 0),([.agg ⟨[.int .i64 3,.int .i64 1,.int .i64 0,.bool false,.string ⟨#[]⟩]⟩],.int .i64 0),([.agg ⟨[.int .i64 1,.int .i64 4,.int .i64 2,.bool false,.string ⟨#[]⟩]⟩],.int .i64 0),([.agg ⟨[.int .i64 4,.int .i64 3,.int .i64 0,.bool false,.string ⟨#[]⟩]⟩],.int .i64 0),([.agg ⟨[.int .i64 3,.int .i64 6,.int .i64 0,.bool false,.string ⟨#[]⟩]⟩],.int .i64 0)]
def b5:EP:=em b4 91 Tryz.func91 m55
def m38:List (J×Value):=[([.agg ⟨[.int .i64 5,.string ⟨#[]⟩]⟩,.agg ⟨[.int .i64 1,.int .i64 3,.int .i64 1,.bool false,.string ⟨#[]⟩]⟩],.int .i64 0),([.agg ⟨[.int .i64 0,.string ⟨#[97,98]⟩]⟩,.agg ⟨[.int .i64 3,.int .i64 2,.int .i64 0,.bool false,.string ⟨#[]⟩]⟩],.int .i64 0),([.agg ⟨[.int .i64 0,.string ⟨#[49,49]⟩]⟩,.agg ⟨[.int .i64 4,.int .i64 2,.int .i64 0,.bool false,.string ⟨#[]⟩]⟩],.int .i64 0),([.agg ⟨[.int .i64 0,.string ⟨#[120]⟩]⟩,.agg ⟨[.int .i64 3,.int .i64 1,.int .i64 0,.bool false,.string ⟨#[]⟩]⟩],.int .i64 0),([.agg ⟨[.int .i64 1234,.string ⟨#[]⟩]⟩,.agg ⟨[.int .i64 1,.int .i64 4,.int .i64 2,.bool false,.string ⟨#[]⟩]⟩],.int .i64 0),([.agg ⟨[.int .i64 (-125),.string ⟨#[]⟩]⟩,.agg ⟨[.int .i64 1,.int .i64 5,.int .i64 2,.bool false,.string ⟨#[]⟩]⟩],.int .i64 0),([.agg ⟨[.int .i64 0,.string ⟨#[120]⟩]⟩,.agg ⟨[.int .i64 3,.int .i64 1,.int .i64 0,.bool false,.string ⟨#[]⟩]⟩],.int .i64 0),([.agg ⟨[.int .i64 0,.string ⟨#[121]⟩]⟩,.agg ⟨[.int .i64 3,.int .i64 1,.int .i64 0,.bool false,.string ⟨#[]⟩]⟩],.int .i64 0),([.agg ⟨[.int .i64 150,.string ⟨#[]⟩]⟩,.agg ⟨[.int .i64 1,.int .i64 5,.int .i64 2,.bool false,.string ⟨#[]⟩]⟩],.int .i64 0),([.agg ⟨[.int .i64 0,.string ⟨#[49,48,49]⟩]⟩,.agg ⟨[.int .i64 4,.int .i64 3,.int .i64 0,.bool false,.string ⟨#[]⟩]⟩],.int .i64 0)]
def b6:EP:=em b5 57 Tryz.func57 m38
def m129:List (J×Value):=[([.int .i64 (-125),.int .i64 2],.agg ⟨[.bool true,.string ⟨#[49,50,53]⟩,.int .i64 2]⟩),([.int .i64 5,.int .i64 1],.agg ⟨[.bool false,.string ⟨#[53]⟩,.int .i64 1]⟩)]
def b7:EP:=em b6 171 Tryz.func171 m129
def m133:List (J×Value):=[([.agg ⟨[.bool true,.string ⟨#[49,50,53]⟩,.int .i64 2]⟩,.int .i64 2],.tuple ⟨[.string ⟨#[49,50,53]⟩,.bool true]⟩),([.agg ⟨[.bool true,.string ⟨#[49,50,53]⟩,.int .i64 2]⟩,.int .i64 1],.tuple ⟨[.string ⟨#[49,51]⟩,.bool true]⟩),([.agg ⟨[.bool false,.string ⟨#[53]⟩,.int .i64 1]⟩,.int .i64 0],.tuple ⟨[.string ⟨#[49]⟩,.bool true]⟩)]
def b8:EP:=em b7 174 Tryz.func174 m133
def m76:List (J×Value):=[([.agg ⟨[.bool true,.string ⟨#[49,50,53]⟩,.int .i64 2]⟩,.int .i64 2],.tuple ⟨[.string ⟨#[45,49,46,50,53]⟩,.bool true]⟩),([.agg ⟨[.bool true,.string ⟨#[49,50,53]⟩,.int .i64 2]⟩,.int .i64 1],.tuple ⟨[.string ⟨#[45,49,46,51]⟩,.bool true]⟩),([.agg ⟨[.bool false,.string ⟨#[53]⟩,.int .i64 1]⟩,.int .i64 0],.tuple ⟨[.string ⟨#[49]⟩,.bool true]⟩)]
def b9:EP:=em b8 117 Tryz.func117 m76
def m75:List (J×Value):=[([.agg ⟨[.int .i64 (-125),.string ⟨#[]⟩]⟩,.agg ⟨[.int .i64 1,.int .i64 5,.int .i64 2,.bool false,.string ⟨#[]⟩]⟩],.tuple ⟨[.agg ⟨[.bool true,.string ⟨#[49,50,53]⟩,.int .i64 2]⟩,.bool true]⟩),([.agg ⟨[.int .i64 5,.string ⟨#[]⟩]⟩,.agg ⟨[.int .i64 1,.int .i64 3,.int .i64 1,.bool false,.string ⟨#[]⟩]⟩],.tuple ⟨[.agg ⟨[.bool false,.string ⟨#[53]⟩,.int .i64 1]⟩,.bool true]⟩)]
def b10:EP:=em b9 116 Tryz.func116 m75
def m39:List (J×Value):=[([.agg ⟨[.int .i64 3,.int .i64 6,.int .i64 2,.string ⟨#[]⟩]⟩,.agg ⟨[.int .i64 (-125),.string ⟨#[]⟩]⟩,.agg ⟨[.int .i64 1,.int .i64 5,.int .i64 2,.bool false,.string ⟨#[]⟩]⟩],.string ⟨#[32,45,49,46,50,53]⟩),([.agg ⟨[.int .i64 3,.int .i64 4,.int .i64 2,.string ⟨#[]⟩]⟩,.agg ⟨[.int .i64 (-125),.string ⟨#[]⟩]⟩,.agg ⟨[.int .i64 1,.int .i64 5,.int .i64 2,.bool false,.string ⟨#[]⟩]⟩],.string ⟨#[42,42,42,42]⟩),([.agg ⟨[.int .i64 3,.int .i64 6,.int .i64 1,.string ⟨#[]⟩]⟩,.agg ⟨[.int .i64 (-125),.string ⟨#[]⟩]⟩,.agg ⟨[.int .i64 1,.int .i64 5,.int .i64 2,.bool false,.string ⟨#[]⟩]⟩],.string ⟨#[32,32,45,49,46,51]⟩),([.agg ⟨[.int .i64 3,.int .i64 3,.int .i64 0,.string ⟨#[]⟩]⟩,.agg ⟨[.int .i64 5,.string ⟨#[]⟩]⟩,.agg ⟨[.int .i64 1,.int .i64 3,.int .i64 1,.bool false,.string ⟨#[]⟩]⟩],.string ⟨#[32,32,49]⟩),([.agg ⟨[.int .i64 1,.int .i64 4,.int .i64 0,.string ⟨#[]⟩]⟩,.agg ⟨[.int .i64 0,.string ⟨#[97,98]⟩]⟩,.agg ⟨[.int .i64 3,.int .i64 2,.int .i64 0,.bool false,.string ⟨#[]⟩]⟩],.string ⟨#[97,98,32,32]⟩),([.agg ⟨[.int .i64 2,.int .i64 4,.int .i64 0,.string ⟨#[]⟩]⟩,.agg ⟨[.int .i64 0,.string ⟨#[49,49]⟩]⟩,.agg ⟨[.int .i64 4,.int .i64 2,.int .i64 0,.bool false,.string ⟨#[]⟩]⟩],.string ⟨#[49,49,48,48]⟩),([.agg ⟨[.int .i64 2,.int .i64 3,.int .i64 0,.string ⟨#[]⟩]⟩,.agg ⟨[.int .i64 0,.string ⟨#[120]⟩]⟩,.agg ⟨[.int .i64 3,.int .i64 1,.int .i64 0,.bool false,.string ⟨#[]⟩]⟩],.string ⟨#[42,42,42]⟩),([.agg ⟨[.int .i64 4,.int .i64 0,.int .i64 0,.string ⟨#[57,57,86,57]⟩]⟩,.agg ⟨[.int .i64 1234,.string ⟨#[]⟩]⟩,.agg ⟨[.int .i64 1,.int .i64 4,.int .i64 2,.bool false,.string ⟨#[]⟩]⟩],.string ⟨#[49,50,51]⟩),([.agg ⟨[.int .i64 1,.int .i64 0,.int .i64 0,.string ⟨#[]⟩]⟩,.agg ⟨[.int .i64 0,.string ⟨#[120]⟩]⟩,.agg ⟨[.int .i64 3,.int .i64 1,.int .i64 0,.bool false,.string ⟨#[]⟩]⟩],.string ⟨#[120]⟩),([.agg ⟨[.int .i64 1,.int .i64 0,.int .i64 0,.string ⟨#[]⟩]⟩,.agg ⟨[.int .i64 0,.string ⟨#[121]⟩]⟩,.agg ⟨[.int .i64 3,.int .i64 1,.int .i64 0,.bool false,.string ⟨#[]⟩]⟩],.string ⟨#[121]⟩)]
def b11:EP:=em b10 64 Tryz.func64 m39
def m8:List (J×Value):=[([.agg ⟨[.int .i64 3,.int .i64 6,.int .i64 2,.string ⟨#[]⟩]⟩,.agg ⟨[.int .i64 (-125),.string ⟨#[]⟩]⟩,.agg ⟨[.int .i64 1,.int .i64 5,.int .i64 2,.bool false,.string ⟨#[]⟩]⟩],.tuple ⟨[.string ⟨#[32,45,49,46,50,53]⟩,.int .i64 0]⟩),([.agg ⟨[.int .i64 3,.int .i64 4,.int .i64 2,.string ⟨#[]⟩]⟩,.agg ⟨[.int .i64 (-125),.string ⟨#[]⟩]⟩,.agg ⟨[.int .i64 1,.int .i64 5,.int .i64 2,.bool false,.string ⟨#[]⟩]⟩],.tuple ⟨[.string ⟨#[42,42,42,42]⟩,.int .i64 0]⟩),([.agg ⟨[.int .i64 3,.int .i64 6,.int .i64 1,.string ⟨#[]⟩]⟩,.agg ⟨[.int .i64 (-125),.string ⟨#[]⟩]⟩,.agg ⟨[.int .i64 1,.int .i64 5,.int .i64 2,.bool false,.string ⟨#[]⟩]⟩],.tuple ⟨[.string ⟨#[32,32,45,49,46,51]⟩,.int .i64 0]⟩),([.agg ⟨[.int .i64 3,.int .i64 3,.int .i64 0,.string ⟨#[]⟩]⟩,.agg ⟨[.int .i64 5,.string ⟨#[]⟩]⟩,.agg ⟨[.int .i64 1,.int .i64 3,.int .i64 1,.bool false,.string ⟨#[]⟩]⟩],.tuple ⟨[.string ⟨#[32,32,49]⟩,.int .i64 0]⟩),([.agg ⟨[.int .i64 1,.int .i64 4,.int .i64 0,.string ⟨#[]⟩]⟩,.agg ⟨[.int .i64 0,.string ⟨#[97,98]⟩]⟩,.agg ⟨[.int .i64 3,.int .i64 2,.int .i64 0,.bool false,.string ⟨#[]⟩]⟩],.tuple ⟨[.string ⟨#[97,98,32,32]⟩,.int .i64 0]⟩),([.agg ⟨[.int .i64 2,.int .i64 4,.int .i64 0,.string ⟨#[]⟩]⟩,.agg ⟨[.int .i64 0,.string ⟨#[49,49]⟩]⟩,.agg ⟨[.int .i64 4,.int .i64 2,.int .i64 0,.bool false,.string ⟨#[]⟩]⟩],.tuple ⟨[.string ⟨#[49,49,48,48]⟩,.int .i64 0]⟩),([.agg ⟨[.int .i64 2,.int .i64 3,.int .i64 0,.string ⟨#[]⟩]⟩,.agg ⟨[.int .i64 0,.string ⟨#[120]⟩]⟩,.agg ⟨[.int .i64 3,.int .i64 1,.int .i64 0,.bool false,.string ⟨#[]⟩]⟩],.tuple ⟨[.string ⟨#[42,42,42]⟩,.int .i64 0]⟩),([.agg ⟨[.int .i64 4,.int .i64 0,.int .i64 0,.string ⟨#[57,57,86,57]⟩]⟩,.agg ⟨[.int .i64 1234,.string ⟨#[]⟩]⟩,.agg ⟨[.int .i64 1,.int .i64 4,.int .i64 2,.bool false,.string ⟨#[]⟩]⟩],.tuple ⟨[.string ⟨#[49,50,51]⟩,.int .i64 0]⟩)]
def b12:EP:=em b11 25 Tryz.func25 m8
def m50:List (J×Value):=[([.agg ⟨[.int .i64 150,.string ⟨#[]⟩]⟩,.agg ⟨[.int .i64 1,.int .i64 5,.int .i64 2,.bool false,.string ⟨#[]⟩]⟩],.string ⟨#[49,46,53,48]⟩),([.agg ⟨[.int .i64 0,.string ⟨#[49,48,49]⟩]⟩,.agg ⟨[.int .i64 4,.int .i64 3,.int .i64 0,.bool false,.string ⟨#[]⟩]⟩],.string ⟨#[39,49,48,49,39,66]⟩)]
def b13:EP:=em b12 60 Tryz.func60 m50
def m27:List (J×Value):=[([.agg ⟨[.int .i64 150,.string ⟨#[]⟩]⟩,.agg ⟨[.int .i64 1,.int .i64 5,.int .i64 2,.bool false,.string ⟨#[]⟩]⟩],.tuple ⟨[.string ⟨#[49,46,53,48]⟩,.int .i64 0]⟩),([.agg ⟨[.int .i64 0,.string ⟨#[49,48,49]⟩]⟩,.agg ⟨[.int .i64 4,.int .i64 3,.int .i64 0,.bool false,.string ⟨#[]⟩]⟩],.tuple ⟨[.string ⟨#[39,49,48,49,39,66]⟩,.int .i64 0]⟩)]
def b14:EP:=em b13 20 Tryz.func20 m27
def m90:List (J×Value):=[([.string ⟨#[105,116,39,115]⟩],.agg ⟨[.int .i64 0,.string ⟨#[105,116,39,115]⟩,.int .i64 3,.int .i64 4,.int .i64 0,.bool false,.string ⟨#[]⟩,.bool false]⟩),([.string ⟨#[49,50]⟩],.agg ⟨[.int .i64 0,.string ⟨#[49,50]⟩,.int .i64 3,.int .i64 2,.int .i64 0,.bool false,.string ⟨#[]⟩,.bool false]⟩),([.string ⟨#[51,52]⟩],.agg ⟨[.int .i64 0,.string ⟨#[51,52]⟩,.int .i64 3,.int .i64 2,.int .i64 0,.bool false,.string ⟨#[]⟩,.bool false]⟩),([.string ⟨#[53,54]⟩],.agg ⟨[.int .i64 0,.string ⟨#[53,54]⟩,.int .i64 3,.int .i64 2,.int .i64 0,.bool false,.string ⟨#[]⟩,.bool false]⟩)]
def b15:EP:=em b14 149 Tryz.func149 m90
def m89:List (J×Value):=[([.agg ⟨[.int .i64 1,.int .i64 5,.int .i64 2,.bool false,.string ⟨#[]⟩]⟩],.agg ⟨[.int .i64 0,.string ⟨#[]⟩]⟩)]
def b16:EP:=em b15 148 Tryz.func148 m89
def m91:List (J×Value):=[([.agg ⟨[.int .i64 125,.string ⟨#[]⟩,.int .i64 1,.int .i64 9,.int .i64 2,.bool false,.string ⟨#[]⟩,.bool false]⟩,.agg ⟨[.int .i64 1,.int .i64 5,.int .i64 2,.bool false,.string ⟨#[]⟩]⟩],.tuple ⟨[.agg ⟨[.int .i64 125,.string ⟨#[]⟩]⟩,.int .i64 0]⟩),([.agg ⟨[.int .i64 0,.string ⟨#[]⟩,.int .i64 0,.int .i64 0,.int .i64 0,.bool false,.string ⟨#[]⟩,.bool true]⟩,.agg ⟨[.int .i64 1,.int .i64 5,.int .i64 2,.bool false,.string ⟨#[]⟩]⟩],.tuple ⟨[.agg ⟨[.int .i64 0,.string ⟨#[]⟩]⟩,.int .i64 4]⟩),([.agg ⟨[.int .i64 0,.string ⟨#[105,116,39,115]⟩,.int .i64 3,.int .i64 4,.int .i64 0,.bool false,.string ⟨#[]⟩,.bool false]⟩,.agg ⟨[.int .i64 3,.int .i64 6,.int .i64 0,.bool false,.string ⟨#[]⟩]⟩],.tuple ⟨[.agg ⟨[.int .i64 0,.string ⟨#[105,116,39,115,32,32]⟩]⟩,.int .i64 0]⟩),([.agg ⟨[.int .i64 0,.string ⟨#[49,50]⟩,.int .i64 3,.int .i64 2,.int .i64 0,.bool false,.string ⟨#[]⟩,.bool false]⟩,.agg ⟨[.int .i64 3,.int .i64 2,.int .i64 0,.bool false,.string ⟨#[]⟩]⟩],.tuple ⟨[.agg ⟨[.int .i64 0,.string ⟨#[49,50]⟩]⟩,.int .i64 0]⟩),([.agg ⟨[.int .i64 0,.string ⟨#[51,52]⟩,.int .i64 3,.int .i64 2,.int .i64 0,.bool false,.string ⟨#[]⟩,.bool false]⟩,.agg ⟨[.int .i64 3,.int .i64 2,.int .i64 0,.bool false,.string ⟨#[]⟩]⟩],.tuple ⟨[.agg ⟨[.int .i64 0,.string ⟨#[51,52]⟩]⟩,.int .i64 0]⟩),([.agg ⟨[.int .i64 0,.string ⟨#[53,54]⟩,.int .i64 3,.int .i64 2,.int .i64 0,.bool false,.string ⟨#[]⟩,.bool false]⟩,.agg ⟨[.int .i64 3,.int .i64 2,.int .i64 0,.bool false,.string ⟨#[]⟩]⟩],.tuple ⟨[.agg ⟨[.int .i64 0,.string ⟨#[53,54]⟩]⟩,.int .i64 0]⟩)]
def b17:EP:=em b16 142 Tryz.func142 m91
def m98:List (J×Value):=[([.agg ⟨[.int .i64 1,.int .i64 2,.int .i64 0,.string ⟨#[]⟩]⟩,.string ⟨#[49,50]⟩],.agg ⟨[.int .i64 0,.string ⟨#[49,50]⟩,.int .i64 3,.int .i64 2,.int .i64 0,.bool false,.string ⟨#[]⟩,.bool false]⟩),([.agg ⟨[.int .i64 1,.int .i64 2,.int .i64 0,.string ⟨#[]⟩]⟩,.string ⟨#[51,52]⟩],.agg ⟨[.int .i64 0,.string ⟨#[51,52]⟩,.int .i64 3,.int .i64 2,.int .i64 0,.bool false,.string ⟨#[]⟩,.bool false]⟩),([.agg ⟨[.int .i64 1,.int .i64 2,.int .i64 0,.string ⟨#[]⟩]⟩,.string ⟨#[53,54]⟩],.agg ⟨[.int .i64 0,.string ⟨#[53,54]⟩,.int .i64 3,.int .i64 2,.int .i64 0,.bool false,.string ⟨#[]⟩,.bool false]⟩)]
def b18:EP:=em b17 138 Tryz.func138 m98
def b19:EP:=ea b18 273 (pureC Ff.ok187)
def b20:EP:=ea b19 146 (pureC Ff.ok87)
def b21:EP:=ea b20 110 (pureC Ff.ok80)
def b22:EP:=ei b21 228 Tryz.func228
def b23:EP:=ei b22 164 Tryz.func164
def b24:EP:=ei b23 274 Tryz.func274
def b25:EP:=ei b24 222 Tryz.func222
def b26:EP:=ei b25 155 Tryz.func155
def m100:List (J×Value):=[([.agg ⟨[.int .i64 3,.int .i64 6,.int .i64 2,.string ⟨#[]⟩]⟩,.string ⟨#[32,32,32,49,50,53]⟩],.agg ⟨[.int .i64 125,.string ⟨#[]⟩,.int .i64 1,.int .i64 9,.int .i64 2,.bool false,.string ⟨#[]⟩,.bool false]⟩),([.agg ⟨[.int .i64 3,.int .i64 6,.int .i64 2,.string ⟨#[]⟩]⟩,.string ⟨#[49,46,50,46,51,32]⟩],.agg ⟨[.int .i64 0,.string ⟨#[]⟩,.int .i64 0,.int .i64 0,.int .i64 0,.bool false,.string ⟨#[]⟩,.bool true]⟩)]
def b27:EP:=em b26 140 Tryz.func140 m100
def m60:List (J×Value):=[([.agg ⟨[.int .i64 3,.int .i64 6,.int .i64 2,.string ⟨#[]⟩]⟩,.string ⟨#[32,32,32,49,50,53]⟩,.agg ⟨[.int .i64 1,.int .i64 5,.int .i64 2,.bool false,.string ⟨#[]⟩]⟩],.tuple ⟨[.agg ⟨[.int .i64 125,.string ⟨#[]⟩]⟩,.int .i64 0]⟩),([.agg ⟨[.int .i64 3,.int .i64 6,.int .i64 2,.string ⟨#[]⟩]⟩,.string ⟨#[49,46,50,46,51,32]⟩,.agg ⟨[.int .i64 1,.int .i64 5,.int .i64 2,.bool false,.string ⟨#[]⟩]⟩],.tuple ⟨[.agg ⟨[.int .i64 0,.string ⟨#[]⟩]⟩,.int .i64 4]⟩),([.agg ⟨[.int .i64 1,.int .i64 2,.int .i64 0,.string ⟨#[]⟩]⟩,.string ⟨#[49,50]⟩,.agg ⟨[.int .i64 3,.int .i64 2,.int .i64 0,.bool false,.string ⟨#[]⟩]⟩],.tuple ⟨[.agg ⟨[.int .i64 0,.string ⟨#[49,50]⟩]⟩,.int .i64 0]⟩),([.agg ⟨[.int .i64 1,.int .i64 2,.int .i64 0,.string ⟨#[]⟩]⟩,.string ⟨#[51,52]⟩,.agg ⟨[.int .i64 3,.int .i64 2,.int .i64 0,.bool false,.string ⟨#[]⟩]⟩],.tuple ⟨[.agg ⟨[.int .i64 0,.string ⟨#[51,52]⟩]⟩,.int .i64 0]⟩),([.agg ⟨[.int .i64 1,.int .i64 2,.int .i64 0,.string ⟨#[]⟩]⟩,.string ⟨#[53,54]⟩,.agg ⟨[.int .i64 3,.int .i64 2,.int .i64 0,.bool false,.string ⟨#[]⟩]⟩],.tuple ⟨[.agg ⟨[.int .i64 0,.string ⟨#[53,54]⟩]⟩,.int .i64 0]⟩)]
def b28:EP:=em b27 92 Tryz.func92 m60 [.both .leaf .leaf,.both .leaf .leaf,.both .leaf .leaf,.both .leaf .leaf,.both .leaf .leaf]
def m28:List (J×Value):=[([.agg ⟨[.int .i64 3,.int .i64 6,.int .i64 2,.string ⟨#[]⟩]⟩,.string ⟨#[32,32,32,49,50,53]⟩,.agg ⟨[.int .i64 1,.int .i64 5,.int .i64 2,.bool false,.string ⟨#[]⟩]⟩],.tuple ⟨[.agg ⟨[.int .i64 125,.string ⟨#[]⟩]⟩,.int .i64 0,.int .i64 0]⟩),([.agg ⟨[.int .i64 3,.int .i64 6,.int .i64 2,.string ⟨#[]⟩]⟩,.string ⟨#[49,46,50,46,51,32]⟩,.agg ⟨[.int .i64 1,.int .i64 5,.int .i64 2,.bool false,.string ⟨#[]⟩]⟩],.tuple ⟨[.agg ⟨[.int .i64 0,.string ⟨#[]⟩]⟩,.int .i64 4,.int .i64 0]⟩)]
def b29:EP:=em b28 33 Tryz.func33 m28
def m88:List (J×Value):=[([.string ⟨#[39,105,116,39,39,115,39]⟩],.tuple ⟨[.int .i64 7,.bool true]⟩),([.string ⟨#[39,97,32,98,39,32,39,49,39,66]⟩],.tuple ⟨[.int .i64 5,.bool true]⟩),([.string ⟨#[39,49,39,66]⟩],.tuple ⟨[.int .i64 4,.bool true]⟩)]
def b30:EP:=em b29 147 Tryz.func147 m88
def m57:List (J×Value):=[([.string ⟨#[39,105,116,39,39,115,39]⟩,.agg ⟨[.int .i64 3,.int .i64 6,.int .i64 0,.bool false,.string ⟨#[]⟩]⟩],.tuple ⟨[.agg ⟨[.int .i64 0,.string ⟨#[105,116,39,115,32,32]⟩]⟩,.int .i64 0]⟩)]
def b31:EP:=em b30 96 Tryz.func96 m57
def m30:List (J×Value):=[([.string ⟨#[39,105,116,39,39,115,39]⟩,.agg ⟨[.int .i64 3,.int .i64 6,.int .i64 0,.bool false,.string ⟨#[]⟩]⟩],.tuple ⟨[.agg ⟨[.int .i64 0,.string ⟨#[105,116,39,115,32,32]⟩]⟩,.int .i64 0,.int .i64 0]⟩)]
def b32:EP:=em b31 51 Tryz.func51 m30
def b33:EP:=⟨b32.1.addG 157 Ff.h134,jau b32.2 Ff.gen134⟩
def b34:EP:=⟨b33.1.addG 66 Ff.h54,jau b33.2 Ff.gen54⟩
def b35:EP:=ea b34 65 Ff.ok53
def b36:EP:=ei b35 107 Tryz.func107
def b37:EP:=ea b36 144 (pureC Ff.ok85)
def b38:EP:=ea b37 67 (pureC Ff.ok63)
def b39:EP:=ea b38 99 (pureC Ff.ok61)
def b40:EP:=ei b39 143 Tryz.func143
def b41:EP:=ei b40 145 Tryz.func145
def b42:EP:=ei b41 95 Tryz.func95
def b43:EP:=ei b42 40 Tryz.func40
def b44:EP:=ei b43 38 Tryz.func38
def b45:EP:=ei b44 39 Tryz.func39
def b46:EP:=ei b45 152 Tryz.func152
def b47:EP:=ei b46 153 Tryz.func153
def b48:EP:=ei b47 154 Tryz.func154
def b49:EP:=ei b48 97 Tryz.func97
def b50:EP:=ei b49 98 Tryz.func98
def b51:EP:=ei b50 76 Tryz.func76
def b52:EP:=ei b51 120 Tryz.func120
def b53:EP:=ei b52 70 Tryz.func70
def b54:EP:=ei b53 24 Tryz.func24
def b55:EP:=ei b54 56 Tryz.func56
def b56:EP:=ei b55 61 Tryz.func61
def b57:EP:=ei b56 41 Tryz.func41
def b58:EP:=ei b57 42 Tryz.func42
def b59:EP:=ei b58 16 Tryz.func16
def b60:EP:=ei b59 17 Tryz.func17
def b61:EP:=ei b60 19 Tryz.func19
def b62:EP:=ei b61 58 Tryz.func58
def b63:EP:=ei b62 63 Tryz.func63
def b64:EP:=ei b63 108 Tryz.func108
def b65:EP:=ei b64 111 Tryz.func111
def b66:EP:=ei b65 112 Tryz.func112
def b67:EP:=ei b66 113 Tryz.func113
def b68:EP:=ei b67 62 Tryz.func62
def b69:EP:=ei b68 59 Tryz.func59
def b70:EP:=ei b69 18 Tryz.func18
def m25:List (J×Value):=[([.int .i64 5,.int .i64 2],.agg ⟨[.int .i64 1,.int .i64 5,.int .i64 2,.bool false,.string ⟨#[]⟩]⟩),([.int .i64 3,.int .i64 1],.agg ⟨[.int .i64 1,.int .i64 3,.int .i64 1,.bool false,.string ⟨#[]⟩]⟩),([.int .i64 4,.int .i64 2],.agg ⟨[.int .i64 1,.int .i64 4,.int .i64 2,.bool false,.string ⟨#[]⟩]⟩)]
def b71:EP:=em b70 49 Tryz.func49 m25
def m23:List (J×Value):=[([.int .i64 1],.agg ⟨[.int .i64 3,.int .i64 1,.int .i64 0,.bool false,.string ⟨#[]⟩]⟩),([.int .i64 2],.agg ⟨[.int .i64 3,.int .i64 2,.int .i64 0,.bool false,.string ⟨#[]⟩]⟩),([.int .i64 6],.agg ⟨[.int .i64 3,.int .i64 6,.int .i64 0,.bool false,.string ⟨#[]⟩]⟩)]
def b72:EP:=em b71 43 Tryz.func43 m23
def m26:List (J×Value):=[([.int .i64 2],.agg ⟨[.int .i64 4,.int .i64 2,.int .i64 0,.bool false,.string ⟨#[]⟩]⟩),([.int .i64 3],.agg ⟨[.int .i64 4,.int .i64 3,.int .i64 0,.bool false,.string ⟨#[]⟩]⟩)]
def b73:EP:=em b72 50 Tryz.func50 m26
def m6:List (J×Value):=[([],.bool true)]
theorem pk6:jan Tryz.prog 9 (memo m6):=pure_memoN [nA (nB 2 (nB 3 (nB 4 (nB 5 (nA (nB 2 (nB 3 (nA (nB 2 (.le 0 (nA (nB 2 (nB 3 (.app none 1 4 (nA (.le 0 (nA (nB 2 (.le 0 (nA (nB 2 (nB 3 (nA (nB 2 (.le 0 (nA (nB 2 (nB 3 (nA (nA (.app none 1 4 (.both (.app (some 2) 2 1 (nB 3 (nB 4 (nB 5 (nB 6 (nA (.app none 1 4 (.both (.app (some 2) 7 1 (nB 8 (nB 9 (nB 10 (nB 11 (nB 12 (.both (.le 0 .leaf) (.le 0 .leaf)))))))) (.app (some 2) 7 1 (nB 8 (nB 9 (nB 10 (nB 11 (nB 12 (.both (.le 0 .leaf) (.le 0 .leaf)))))))))))))))) (.app (some 2) 2 1 (nB 3 (nB 4 (nB 5 (nB 6 (nA (.app none 1 4 (.both (.app (some 2) 7 1 (nB 8 (nB 9 (nB 10 (nB 11 (nB 12 (.both (.le 0 .leaf) (.le 0 .leaf)))))))) (.app (some 2) 7 1 (nB 8 (nB 9 (nB 10 (nB 11 (nB 12 (.both (.le 0 .leaf) (.le 0 .leaf))))))))))))))))))))))))))))))))))))))))))))))))] b73.2 hmix (fnP Tryz.func9 (by kernel_rfl)) jal (by kernel_rfl) (by kernel_rfl)
end Go.Cs
end
noncomputable section
set_option maxHeartbeats 3200000
namespace Go.Fi
open Go Go.Ab Go.Proofs Go.Shelf Go.Px Go.Cv Go.Cx Go.Ff Go.Fh
open Go.Fx (Ty Vl jbi)
theorem jgb(c n:Int):(rpt c n).size=n.toNat:=by
 unfold rpt;rw[jbu,jda,Km]
theorem rpt_bz{c:Int}(hc:0≤c∧c<256)(n:Int):bz (rpt c n)=List.replicate n.toNat c:=by
 unfold rpt;have e:repZ [c] n.toNat=List.replicate n.toNat c:=by rw[jda]
 rw[e];exact jcs fun x hx=>by rw[Ky hx];exact hc
theorem ed_len{f:Fo}{v:Vl}{t:Ty}(hF:t.s.size≤9223372036854775807)(h:jcj f=true)(hk:f.k≤4)(hf:fit4 v t=0)(h6:t.k≠6)(hw:f.k≠1∨0<f.w):((edO f v t).size:Int)=wdO f:=by
 have hr:=wd_r h hk;simp only[jcj,jaf,jae]at h;obtain⟨⟨r1,r2,r3,r4,r5,r6,r7,r8⟩,_⟩:=h;rw[jnb];unfold edP;by_cases q1:f.k=1
 ·have e:wdO f=f.w:=by rw[jhc,wdP,Kc (by omega)]
  rw[Kd q1,Kc (show¬f.w=0 by omega),KJ,ByteArray.size_append,jgb,e];omega
 rw[Kc q1];by_cases q2:f.k=2
 ·rw[Kd q2];split
  ·rw[jgb];omega
  ·rename_i q;have h0:(toO v t (jh1 (wdO f))).2.2.2=0:=by omega
   have hl:((toO v t (jh1 (wdO f))).2.1.size:Int)≤wdO f:=by
    rw[jlw]at h0 ⊢;have:=to_bsz hf h6 h0;have hm:imin (wdO f) 64≤wdO f:=by unfold imin;split<;>omega
    show((toV v t ⟨4,imin (wdO f) 64,0,false,⟨#[]⟩⟩).2.1.size:Int)≤wdO f;omega
   rw[ByteArray.size_append,jgb];omega
 rw[Kc q2];by_cases q3:f.k=3
 ·rw[Kd q3];split
  ·rw[jgb];omega
  split
  ·rw[jgb];omega
  ·rename_i q;rw[ByteArray.size_append,jgb];omega
 rw[Kc q3];have q4:f.k=4:=by omega
 split
 ·rw[jgb];omega
 ·rename_i q;have h0:(toO v t (jkx f.s)).2.2.2=0:=by omega
  rw[jlw]at h0 ⊢;rw[jhc,wdP,Kd q4];exact to_psz hf h6 h0
theorem jmz{c:Int}(h2:c≠32):∀{l:O},c∈l→c∈tlZ l 32
 | a::r,h=>by
  unfold tlZ;rw[List.dropWhile_cons];split
  ·rename_i q;have q:a=32:=by simpa using q
   rcases Kg.1 h with e | e
   ·omega
   ·exact jmz h2 e
  ·exact h
theorem trim_ne{c:Int}{l:O}(h2:c≠32)(h:c∈l):trZ (tlZ l 32) 32≠ []:=by
 refine List.ne_nil_of_mem (a:=c) ?_;unfold trZ;rw[List.mem_reverse];exact jmz h2 (List.mem_reverse.2 (jmz h2 h))
theorem st_rpt{n:Int}(hn:0<n):stO (rpt 42 n)=true:=by
 rw[jmq];unfold stP;rw[rpt_bz (by omega)]
 have e:noSt (List.replicate n.toNat 42)=[]:=by
  unfold noSt;exact List.filter_eq_nil_iff.2 fun a ha=>by rw[Ky ha];simp
 rw[e];refine jaa ⟨trim_ne (c:=42) (by decide) ?_,rfl⟩;rw[List.mem_replicate];exact⟨by omega,rfl⟩
theorem st_not{s:Y}{c:Int}(h:c∈bz s)(h1:c≠42)(h2:c≠32):stO s=false:=by
 rw[jmq];unfold stP;refine jad fun⟨_,h3⟩=> ?_
 refine trim_ne h2 (l:=noSt (bz s)) ?_ h3;unfold noSt;exact List.mem_filter.2 ⟨h,by simp[h1]⟩
theorem ed_255{f:Fo}{v:Vl}{t:Ty}(h:jcj f=true)(h3:f.k=3)(hf:fit4 v t=0)(h6:t.k≠6)(hs:v.s.size≤60):stO (edO ⟨f.k,255,f.d,f.s⟩ v t)= !(nuO v t).2:=by
 simp only[jcj,jaf,jae]at h;obtain⟨⟨r1,r2,r3,r4,r5,r6,r7,r8⟩,_⟩:=h;have e:wdO ⟨f.k,255,f.d,f.s⟩=255:=by rw[jhc,wdP,Kc (show¬f.k=4 by omega)]
 rw[jnb];unfold edP;rw[Kc (show¬f.k=1 by omega),Kc (show¬f.k=2 by omega),Kd (show f.k=3 from h3),e];cases hn:(nuO v t).2 with
 | false=>
  rw[Kd rfl];exact st_rpt (by omega)
 | true=>
  rw[Kc (by simp)];obtain⟨f1,f2,c,f3,f4,f5⟩:=fx_ok hf h6 hs (b:=f.d) ⟨r5,r6⟩
  rw[Kc (by
   intro h;rcases h with h | h
   ·rw[f1]at h;cases h
   ·have h:(255:Int)<(fxO (nuO v t).1.1 (nuO v t).1.2.1 (nuO v t).1.2.2 f.d).1.size:=h;omega)]
  refine st_not (c:=c) ?_ f4 f5;rw[jb0];exact List.mem_append_right _ f3
theorem rt_255{f:Fo}(h:jcj f=true)(h3:f.k=3):jcj ⟨f.k,255,f.d,f.s⟩=true:=by
 simp only[jcj,jaf,jae]at h ⊢;obtain⟨⟨r1,r2,r3,r4,r5,r6,r7,r8⟩,q⟩:=h;exact⟨⟨r1,r2,by omega,by omega,r5,r6,by omega,r8⟩,q⟩
end Go.Fi
end
noncomputable section
set_option maxHeartbeats 3200000
set_option maxRecDepth 100000
namespace Go.Fi
open Go Go.Ab Go.Proofs Go.Shelf Go.Px Go.Cv Go.Cx Go.Ff Go.Fg Go.Fh
open Go.Fx (Ty Vl)
variable [Cs.MaxL] -- 3
attribute [local instance 9000] Cs.tabsC
def E2:Env:=Env.nil
theorem ok_E2:ja3 Tryz.prog E2:=jav
def s69(t:Ty):Bool×Value:=(decide (t.s.size≤9223372036854775807),B (decide (200<(t.s.size:Int))))
theorem v69(t:Ty)(R:Value→Prop):jax Tryz.prog E2 noL Tryz.f69 [Enc.enc t] (fun _=>none) 0 (fun v _ _=>R v)=(R (B (decide ((t.s.size:Int)>200)))):=by kernel_rfl
theorem ok69:jan Tryz.prog 69 (sp1 s69):=by
 refine jb6 ok_E2 hmix (.m Tryz.func69) jal jag fun t hc=> ?_
 rw[ja4,v69];have hc:(t.s.size≤9223372036854775807):=jab hc
 try dsimp only[s69]
def E3:Env:=E2.add 69 (sp1 s69)
theorem ok_E3:ja3 Tryz.prog E3:=jaj ok_E2 ok69
def E4:Env:=Env.nil.addG 119 (inlQ Tryz.prog E3 noL Tryz.f119)
theorem ok_E4:ja3 Tryz.prog E4:=jau jav (jbh ok_E3 hmix (.m Tryz.func119) jal)
def E5:Env:=(Env.nil.add 69 (sp1 s69)).addG 68 (inlQ Tryz.prog E4 noL Tryz.f68)
theorem ok_E5:ja3 Tryz.prog E5:=jau (jaj jav ok69) (jbh ok_E4 hmix (.m Tryz.func68) jal)
def s21:Ab.Spec:=fun args bs=>match args,bs with
 | [.slice (some ⟨_,0,some 1⟩) 1 cap],[some ⟨[.int .i64 k,.int .i64 p,.int .i64 q,.bool v,.string s],ty,o⟩]=>some ((decide (s.size≤9223372036854775807)),B (decide ((s.size:Int)≤200)))
 | _,_=>none
theorem v21_0(k:Int)(p:Int)(q:Int)(v:Bool)(s:Y)(ty:TypeId)(o:Bool)(cap:Nat)(R:Value→Prop):jax Tryz.prog E5 noL Tryz.f21 [.slice (some ⟨0,0,some 1⟩) 1 cap] (vw [I k,I p,I q,B v,S s] ty) 1 (fun v _ _=>R v)=(gv (ep s 200) s (R (B (!decide (0≥0)))) (R (B (!decide (-(1:Int)≥0))))):=by kernel_rfl
theorem k21_0(k:Int)(p:Int)(q:Int)(v:Bool)(s:Y)(ty:TypeId)(o:Bool)(cap:Nat)(hc:((decide (s.size≤9223372036854775807)))=true):jb3 Tryz.prog E5 noL Tryz.f21 [.slice (some ⟨0,0,some 1⟩) 1 cap] [some ⟨[.int .i64 k,.int .i64 p,.int .i64 q,.bool v,.string s],ty,o⟩] 1 (B (decide ((s.size:Int)≤200))):=by
 rw[jb3,jhz (o:=o) (show ja1 [.int .i64 k,.int .i64 p,.int .i64 q,.bool v,.string s]=true from rfl),v21_0 (v:=v) (o:=o)];delta av cw gv al ep;refine c_t hc (Ka (fun h=> ?_) (fun h=> ?_))
 ·have h:200<(s.size:Int):=jab h;rw[jad (show¬(s.size:Int)≤200 by omega)];rfl
 ·have h:¬200<(s.size:Int):=jac h;rw[jaa (show(s.size:Int)≤200 by omega)];rfl
theorem ok21:jan Tryz.prog 21 s21:=by
 refine jcl ok_E5 hmix (.m Tryz.func21) jal fun args bs v hs=> ?_
 simp only[s21]at hs;split at hs
 ·simp only[Kb,Ke]at hs;obtain⟨hc,rfl⟩:=hs;exact⟨_,1,rfl,rfl,jag,k21_0 _ _ _ _ _ _ _ _ (by first | rfl | exact hc)⟩
 ·cases hs
theorem lgO_ex:∃d:Fo→Bool,d=jeo:=⟨_,rfl⟩
def lgO:Fo→Bool:=Classical.choose lgO_ex
theorem lgO_eq:lgO=jeo:=Kn lgO_ex
theorem bdO_ex:∃d:Fo→Bool,d=pBad:=⟨_,rfl⟩
def bdO:Fo→Bool:=Classical.choose bdO_ex
theorem bdO_eq:bdO=pBad:=Kn bdO_ex
def s11h:Ab.Spec:=fun args bs=>match args,bs with
 | [.slice (some ⟨_,0,some 1⟩) 1 cap],[some ⟨[.int .i64 a,.int .i64 b,.int .i64 c,.string s],ty,o⟩]=>some (szF ⟨a,b,c,s⟩,B (!lgO ⟨a,b,c,s⟩))
 | _,_=>none
def s12h:Ab.Spec:=fun args bs=>match args,bs with
 | [.slice (some ⟨_,0,some 1⟩) 1 cap],[some ⟨[.int .i64 a,.int .i64 b,.int .i64 c,.string s],ty,o⟩]=>some (szF ⟨a,b,c,s⟩,I (bif bdO ⟨a,b,c,s⟩then 130 else 0))
 | _,_=>none
theorem phO_ex:∃d:Y→Y×Bool×Int×Int×Int×Bool×Int,d=fun s=>(sz (pS (bz s)),pN (bz s),pW (bz s),pD (bz s),pQ (bz s),pG (bz s),pE (bz s)):=⟨_,rfl⟩
def phO:Y→Y×Bool×Int×Int×Int×Bool×Int:=Classical.choose phO_ex
theorem jmw:phO=fun s=>(sz (pS (bz s)),pN (bz s),pW (bz s),pD (bz s),pQ (bz s),pG (bz s),pE (bz s)):=Kn phO_ex
def s35h(s:Y):Bool×Value:=(decide (s.size≤9223372036854775807),.tuple ⟨[.agg ⟨[S (phO s).1,B (phO s).2.1,I (phO s).2.2.1,I (phO s).2.2.2.1,I (phO s).2.2.2.2.1,B (phO s).2.2.2.2.2.1]⟩,I (phO s).2.2.2.2.2.2]⟩)
theorem c28O_ex:∃d:Vl→Ty→Bool,d=fun v t=>decide (c28 v t):=⟨_,rfl⟩
def c28O:Vl→Ty→Bool:=Classical.choose c28O_ex
theorem c28O_eq:c28O=fun v t=>decide (c28 v t):=Kn c28O_ex
def s28h(v:Vl)(t:Ty):Bool×Value:=(c28O v t,.tuple ⟨[Cx.numV (nrO v t),B (nuO v t).2]⟩)
theorem pure_le{f:FuncId}{s s':Ab.Spec}(h:jan Tryz.prog f s)(hl:∀a bs v,s' a bs=some (true,v)→s a bs=some (true,v)):jan Tryz.prog f s':=
 ⟨h.1,fun args v N w0 lk ι w hr hs hv=>h.2 args v N w0 lk ι w hr (hl _ _ _ hs) hv⟩
theorem fo_one(a b c:Int)(s:Y)(h:szF ⟨a,b,c,s⟩=true):foOK [.int .i64 a,.int .i64 b,.int .i64 c,.string s] 0 1=true∧foA [.int .i64 a,.int .i64 b,.int .i64 c,.string s] 0 1=[⟨a,b,c,s⟩]:=
 ⟨foOK_own (l:=[⟨a,b,c,s⟩]) (r:=[]) rfl (fun f hf=>by rw[List.mem_singleton.1 hf];exact jag h),foA_own [⟨a,b,c,s⟩] []⟩
theorem ok11h:jan Tryz.prog 22 s11h:=pure_le (Cs.pureCB K42.ok11) fun a bs v h=>by
 unfold s11h at h;split at h
 ·simp only[Kb,Ke]at h;obtain⟨h1,rfl⟩:=h;obtain⟨e1,e2⟩:=fo_one _ _ _ _ h1;simp only[K42.s11,e1,e2,h1,lgO_eq,List.any_cons,List.any_nil,Bool.or_false,Bool.and_true];rw[jaa (show((1:Nat):Int)≤40 by decide),Bool.true_and]
 ·cases h
theorem ok12h:jan Tryz.prog 24 s12h:=pure_le (Cs.pureCB K43.ok12) fun a bs v h=>by
 unfold s12h at h;split at h
 ·simp only[Kb,Ke]at h;obtain⟨h1,rfl⟩:=h;obtain⟨e1,e2⟩:=fo_one _ _ _ _ h1;simp only[K43.s12,e1,e2,h1,bdO_eq,List.any_cons,List.any_nil,Bool.or_false,Bool.and_true];rw[jad (show¬16<((1:Nat):Int)by decide),Bool.false_or]
 ·cases h
theorem ok35h:jan Tryz.prog 26 (sp1 s35h):=by
 have e:s35h=Px.s35:=by funext s;rw[s35h,Px.s35,jmw];rfl
 rw[e];exact Cs.pureC Px.ok35
theorem ok28h:jan Tryz.prog 28 (sp2 s28h):=by
 have e:s28h=s28n:=by funext v t;rw[s28h,s28n,c28O_eq]
 rw[e];exact Cs.pureCB ok28n
def L1:Env:=((((((((Env.nil.add 9 (memo Cs.m6)).add 21 s21).add 22 s11h).add 23 (sp2 z22)).add 24 s12h).add 25 (sp3 s8u)).add 26 (sp1 s35h)).add 27 (sp1 s27)).add 28 (sp2 s28h)
theorem ok_L1:ja3 Tryz.prog L1:=jaj (jaj (jaj (jaj (jaj (jaj (jaj (jaj (jaj jav Cs.pk6) ok21) ok11h) (Cs.pureC (z22_eq▸ok22f))) ok12h) (Cs.pureCB ok8u)) ok35h) (Cs.pureCB ok27)) ok28h
def s4(f:Fo)(v:Vl)(t:Ty):Bool×Value:=(decide (szs f v t),B true)
def nk(a:Ff.Fo)(c:Fx.Ty)(b:Fx.Vl):Prod Y Int:=Fh.edR (Ff.Fo.mk (Ff.Fo.k a) 255 (Ff.Fo.d a) (Ff.Fo.s a)) b c
def r9(a:Ff.Fo)(c:Fx.Ty)(b:Fx.Vl)(e:Int)(f:Value→Prop):Prop:=bif Ff.Fo.k a !=1 || (decide (Ff.Fo.w a>0) || true)then bif bv (Ff.Fo.k a !=1) (fk (Fh.edR a b c).fst !=e) (decide (Ff.Fo.w a>0) &&fk (Fh.edR a b c).fst !=e)then f (.bool false)else bq (Ff.Fo.k a !=3) (decide ((Fh.edR a b c).fst.size≤1000000) && (!Fi.stO (Fh.edR a b c).fst || true)) (Ff.Fo.k a !=3 || (!Fi.stO (Fh.edR a b c).fst || Ff.Fo.w a==0)) (f (.bool true)) (bif Fi.c28O b c then jb (decide (Fh.szs (Ff.Fo.mk (Ff.Fo.k a) 255 (Ff.Fo.d a) (Ff.Fo.s a)) b c)) (bv ((nk a c b).snd==0) (bif fk (nk a c b).fst==255 then decide ((nk a c b).fst.size≤1000000) &&true else true) true) (.bool ((nk a c b).snd==0&& (fk (nk a c b).fst==255&&Fi.stO (nk a c b).fst==(!(Fh.nuO b c).snd)))) f else False)else False
theorem v4(f:Fo)(v:Vl)(t:Ty)(R:Value→Prop):jax Tryz.prog L1 noL Tryz.f4 [Enc.enc f,Enc.enc v,Enc.enc t] (fun _=>none) 0 (fun v _ _=>R v)=(bif decide (fk (Fx.Vl.s v)>60)then R (B true)else gv (!decide (fk (Fx.Ty.s t)≤200)) (Fx.Ty.s t) (R (B true)) (bif Fg.szF f then bif !!Fi.lgO f then R (B true)else mtq (dl t 6) t v (ftT v t) (bif decide (Ff.Fo.k f>4)then R (B true)else bif Fg.szF f then bif (bif Fi.bdO f then(130:Int)else(0:Int)) !=0 then R (B true)else kp (decide (Fh.szs f v t)) ((Fh.edR f v t).snd !=0) (R (B false)) (bif Ff.Fo.k f==4 then bif cw (Ff.Fo.s f)then bif (Fi.phO (Ff.Fo.s f)).snd.snd.snd.snd.snd.snd !=0 then R (B false)else r9 f t v (Fi.phO (Ff.Fo.s f)).snd.snd.fst R else False else r9 f t v (Ff.Fo.w f) R)else False) (B true) (B true) R else False)):=by kernel_rfl
theorem ok4:jan Tryz.prog 4 (sp3 s4):=by
 refine jh7 ok_L1 hmix (.m Tryz.func4) jal jag fun f v t hc=> ?_
 rw[ja4,v4];delta av cw gv im mtq kp bq br jb nk fk bv r9 dl;have hc:(szs f v t):=jab hc
 try dsimp only[s4]
 obtain⟨h1,h2,h3⟩:=hc;have hz:szF f=true:=Nat.ble_eq_true_of_le h1;refine Ka (fun _=>rfl) (fun q60=> ?_)
 have q60:(v.s.size:Int)≤60:=by
  have:=jac q60;omega
 refine c_t (jaa h2) (Ka (fun _=>rfl) (fun _=>c_t hz (Ka (fun _=>rfl) (fun _=> ?_))));refine c_t (jaa ⟨h2,h3⟩) (Ka (fun _=>rfl) (fun qf=> ?_))
 have hf:fit4 v t=0:=by
  rw[jl8]at qf;simpa using qf
 refine Ka (fun _=>rfl) (fun q6=> ?_);have h6:t.k≠6:=by simpa using q6
 refine Ka (fun _=>rfl) (fun qk=> ?_)
 have hk:f.k≤4:=by
  have:=jac qk;omega
 refine c_t hz (Ka (fun _=>rfl) (fun qb=> ?_))
 have hr:jcj f=true:=by
  rw[bdO_eq]at qb;cases h:jcj f with
  | true=>rfl
  | false=>simp[pBad,h]at qb
 have hE:fitE v t=0:=by
  unfold fitE typE;rw[Kc (by rw[hf];simp)];have:=(fit0.1 hf).1;simp[this,h6]
 have hed:∀g:Fo,jcj g=true→g.k≤4→edR g v t=(edO g v t,0):=fun g g1 g2=>by
  rw[edR_eq];unfold edQ;rw[Kd ⟨g1,g2⟩,Kc (by rw[hE];simp)]
 refine c_t (jaa ⟨h1,h2,h3⟩) ?_;rw[hed f hr hk];have hlen:=fun hw=>ed_len (v:=v) h2 hr hk hf h6 hw
 have hw:=wd_r hr hk;obtain⟨f1,f2,f3⟩:=jgs hf h6;have hrs:=rt_255 (f:=f) hr
 have hc28:c28O v t=true:=by
  rw[c28O_eq];refine jaa ⟨⟨h2,h3,fun h=> ?_,fun h=>f3 h⟩,hf⟩;obtain⟨g1,g2⟩:=f1 h;have:=Fx.valid_r g1;omega
 have hend:f.k=3→(edR ⟨f.k,255,f.d,f.s⟩ v t).2=0∧((edR ⟨f.k,255,f.d,f.s⟩ v t).1.size:Int)=255∧stO (edR ⟨f.k,255,f.d,f.s⟩ v t).1= !(nuO v t).2:=fun h3'=>by
  have r:=hrs h3';rw[hed _ r hk];refine⟨rfl,?_,ed_255 hr h3' hf h6 (by omega)⟩;have e:=ed_len (v:=v) h2 r hk hf h6 (.inl (show f.k≠1 by omega));rw[jhc,wdP,Kc (show¬f.k=4 by omega)]at e;exact e
 have tail:∀w:Int,(f.k≠1∨0<f.w→((edO f v t).size:Int)=w)→(bif f.k !=1 || (decide (f.w>0) || true)then
   bif (bif f.k !=1 then((edO f v t).size:Int) !=w else decide (f.w>0) && ((edO f v t).size:Int) !=w)then Value.bool false=B true
   else
    bif f.k !=3 || decide ((edO f v t).size≤1000000) && (!stO (edO f v t) || true)then
     bif f.k !=3 || (!stO (edO f v t) || f.w==0)then Value.bool true=B true
     else
      bif c28O v t then
       bif decide (szs ⟨f.k,255,f.d,f.s⟩ v t)then
        bif (bif (edR ⟨f.k,255,f.d,f.s⟩ v t).2==0 then(bif ((edR ⟨f.k,255,f.d,f.s⟩ v t).1.size:Int)==255 then decide ((edR ⟨f.k,255,f.d,f.s⟩ v t).1.size≤1000000) &&true else true)else true)then
         Value.bool ((edR ⟨f.k,255,f.d,f.s⟩ v t).2==0&& (((edR ⟨f.k,255,f.d,f.s⟩ v t).1.size:Int)==255&&stO (edR ⟨f.k,255,f.d,f.s⟩ v t).1== !(nuO v t).2))=B true
        else False
       else False
      else False
    else False
  else False):=fun w hl=>by
  refine c_t (by simp) (c_f ?_ (c_t ?_ (Ka (fun _=>rfl) (fun q=> ?_))))
  ·by_cases k1:f.k=1
   ·by_cases w0:0<f.w
    ·simp[k1,hl (.inr w0)]
    ·simp[k1,w0]
   ·simp[k1,hl (.inl k1)]
  ·by_cases k3:f.k=3
   ·have:=hlen (.inl (by omega));simp[k3];omega
   ·simp[k3]
  ·have k3:f.k=3:=by
    simp only[Kr]at q;simpa using q.1
   obtain⟨a,b,c⟩:=hend k3;rw[hc28,jaa (show szs ⟨f.k,255,f.d,f.s⟩ v t from⟨h1,h2,h3⟩),a,b,c,jaa (show(edR ⟨f.k,255,f.d,f.s⟩ v t).1.size≤1000000 by omega)];cases(nuO v t).2<;>rfl
 refine c_f rfl (Ka (fun k4=>c_t (jaa h1) (c_f ?_ (tail _ fun hw'=> ?_))) (fun k4=>tail _ fun hw'=> ?_))
 ·have k4:f.k=4:=by simpa using k4
  rw[jmw];simp only[jcj,jaf]at hr;have h:=hr.2;rw[jaa k4,cond_true]at h;simpa using jab h
 ·have k4:f.k=4:=by simpa using k4
  rw[hlen hw',jhc,wdP,Kd k4,jmw]
 ·have k4:¬f.k=4:=by simpa using k4
  rw[hlen hw',jhc,wdP,Kc k4]
end Go.Fi
end
noncomputable section
namespace Go.Px
open Go Go.Ab Go.Proofs Go.Shelf Go.ChangeMaps Go.ChangeShapes Go.WideShapes Go.ChangeAt Go.RowKit Go.Joins
open Go.Proofs.YtiahilhlpmohoaaGreatDoor
theorem own:ownKnob Tryz.prog.godebug=none:=by kernel_rfl
def laidL:List (String×DataW Unit):=Rows.formatStarsRow.laid
theorem tab_is{P:Program}{W:World}{name:String}{k:IntKind}{zs:O}{g:Nat}{t e:TypeId}{n:Nat}(hr:Lib.VarReads P W name (Lib.tabData k zs))
  (hg:P.globalNamed name=some g) (hty:(P.globals[g]?).map (·.type)=some t) (ht:P.underlying t=some (.array n e)) (he:P.underlying e=some (.int k)) (hce:P.cellsOf e=1) (hct:P.cellsOf t=n):
  g<W.heap.size∧ ∃ty fr,W.heap[g]?=some (.cells ⟨zs.map fun z=>Value.int k z⟩ ty fr):=by
 obtain⟨g',t',cs,fuel,p,h1,h2,h3,h4⟩:=hr;obtain rfl:=Option.some.inj (hg.symm.trans h1);obtain rfl:=Option.some.inj (hty.symm.trans h2);have hc:=Lib.cells_of_tab ht he hce hct h4;unfold World.var? at h3;rw[hg,Option.bind_some]at h3;split at h3
 case h_2=>cases h3
 rename_i cs' ty fr hh;have h3:=Option.some.inj h3;refine⟨(Array.getElem?_eq_some_iff.1 hh).1,ty,fr,?_⟩;rw[hh,h3];congr 2;rw[←hc]
theorem rt : (Tryz.prog.cutTypes.find? (·.1 == "internal/reflectlite.rtype")).map (·.2) = some 304 := by kernel_rfl
theorem tsz:Tryz.prog.types.size=371:=by kernel_rfl
theorem oneRow:((List.range 371).filter fun t=>Tryz.prog.rowNamed t [101,114,114,111,114])=[157]:=by kernel_rfl
theorem hdl:typeHandle Tryz.prog 157= .pointer (some ⟨10,157,none⟩):=by kernel_rfl
theorem gE : Tryz.prog.globalNamed "errors.errorType" = some 0 := by kernel_rfl
theorem laid_h : laidL.filter (fun x => x.2.handleName?.isSome) = [("errors.errorType", Rows.laid_errors_errorType)] := by kernel_rfl
theorem laid_d : laidL.filter (fun x => x.2.handleName?.isNone) = ([("math/bits.deBruijn32tab", YtiahilhlpmohoaaGreatDoor.Rows.laid_math_bits_deBruijn32tab), ("math/bits.deBruijn64tab", YtiahilhlpmohoaaGreatDoor.Rows.laid_math_bits_deBruijn64tab), ("internal/strconv.uint64pow10", YtiahilhlpmohoaaGreatDoor.Rows.laid_internal_strconv_uint64pow10), ("unicode/utf8.acceptRanges", YtiahilhlpmohoaaGreatDoor.Rows.laid_unicode_utf8_acceptRanges), ("strconv.ErrRange", YtiahilhlpmohoaaGreatDoor.Rows.laid_strconv_ErrRange), ("strconv.ErrSyntax", YtiahilhlpmohoaaGreatDoor.Rows.laid_strconv_ErrSyntax), ("pliant/picture.punched", YtiahilhlpmohoaaGreatDoor.Rows.laid_pliant_picture_punched), ("unicode/utf8.first", YtiahilhlpmohoaaGreatDoor.Rows.laid_unicode_utf8_first)]) := by kernel_rfl
theorem handle_of_laid {W : World} (h : handlesMet Tryz.prog [("errors.errorType", Rows.laid_errors_errorType)] W) : 0 < W.heap.size ∧ ∃ ty fr, W.heap[0]? = some (.cells #[.iface 304 (.agg #[.pointer (some ⟨10, 157, none⟩)])] ty fr) := by
 obtain⟨name,u,ty,e1,e2,e3,e4,e5⟩:=h _ (List.mem_singleton.2 rfl);have en:name=[101,114,114,111,114]:=(Option.some.inj e1).symm;subst en;obtain rfl:=Option.some.inj (rt.symm.trans e2);have hm:ty∈(List.range 371).filter fun t=>Tryz.prog.rowNamed t [101,114,114,111,114]:=List.mem_filter.2 ⟨List.mem_range.2 (by rw[←tsz];exact e3),e4⟩
 rw[oneRow]at hm;obtain rfl:=List.mem_singleton.1 hm;rw[hdl]at e5;unfold World.var? at e5;rw[gE,Option.bind_some]at e5;split at e5
 case h_2=>cases e5
 rename_i cs' ty fr hh;have e5:=Option.some.inj e5;exact⟨(Array.getElem?_eq_some_iff.1 hh).1,ty,fr,by rw[hh,e5]⟩
set_option maxRecDepth 100000 in
theorem tabs_of_laid{W:World}(h:laidMetH Tryz.prog laidL W):TabsIn W.heap.size W:=by
 obtain⟨hd,hh⟩:=laidMetH_iff.1 h;rw[laid_h]at hh;rw[laid_d]at hd;intro b r hb
 have key:∀b:Nat,jmj b=some r→b=3∧r=punchedZ.map (fun n=>Value.int .u8 n)∨b=2∧r=pow10Z.map (fun n=>Value.int .u64 n)∨b=0∧r=[.iface 304 (.agg ⟨[.pointer (some ⟨10,157,none⟩)]⟩)]:=by
  intro b hb;unfold jmj at hb;split at hb
  ·cases hb;exact .inl ⟨rfl,rfl⟩
  ·cases hb;exact .inr (.inl ⟨rfl,rfl⟩)
  ·cases hb;exact .inr (.inr ⟨rfl,rfl⟩)
  ·cases hb
 have t5:Tryz.prog.cellsOf 5=1:=by kernel_rfl
 rcases key b hb with⟨rfl,rfl⟩ | ⟨rfl,rfl⟩ | ⟨rfl,rfl⟩
 ·have hr : Lib.VarReads Tryz.prog W "pliant/picture.punched" (Lib.tabData .u8 punchedZ) := Lib.laidMet.reads hd (.tail _ (.tail _ (.tail _ (.tail _ (.tail _ (.tail _ (.head _)))))))
  exact tab_is hr (g:=3) (t:=318) (n:=20) (e:=5) (by kernel_rfl) (by kernel_rfl) (by kernel_rfl) (by kernel_rfl) t5 (by kernel_rfl)
 ·have hr : Lib.VarReads Tryz.prog W "internal/strconv.uint64pow10" (Lib.tabData .u64 pow10Z) := Lib.laidMet.reads hd (.tail _ (.tail _ (.head _)))
  exact tab_is hr (g:=2) (t:=287) (n:=20) (e:=137) (by kernel_rfl) (by kernel_rfl) (by kernel_rfl) (by kernel_rfl) (by kernel_rfl) (by kernel_rfl)
 ·exact handle_of_laid hh
noncomputable def handleWorld (os : Os) : World :=
 let w0:=World.holding Tryz.prog os ⟨#[], #[],[]⟩
 {w0 with heap:=w0.heap.modify 0 fun
   | .cells _ t frozen=> .cells #[.iface 304 (.agg #[.pointer (some ⟨10,157,none⟩)])] t frozen
   | o=>o}
def laidD:List (String×DataW Unit):=laidL.filter fun x=>x.2.handleName?.isNone
noncomputable def laidWorld (os : Os) : World := (handleWorld os).layVars Tryz.prog laidD
theorem laidWorld_os(os:Os):(laidWorld os).os=os:=World.layVars_os _ _ _
theorem laidWorld_met(os:Os)(args:Array Value):laidMetH Tryz.prog laidL ((laidWorld os).forCall (fun _ _=>0) ⟨#[],args,[]⟩).memory:=by
 refine laidMetH_of_parts ?_ (by kernel_rfl);have e1:(laidD.filter fun x=>(laidD.map (·.1)).contains x.1)=laidD:=List.filter_eq_self.2 fun x hx=>List.contains_iff_mem.2 (KB.2 ⟨x,hx,rfl⟩)
 have e2:(laidD.filter fun x=> !(laidD.map (·.1)).contains x.1)=[]:=List.filter_eq_nil_iff.2 fun x hx=>by rw[List.contains_iff_mem.2 (KB.2 ⟨x,hx,rfl⟩)];simp
 have h:laidMet Tryz.prog laidD (laidWorld os):=laidMet_layVars (w0:=handleWorld os) (laidD.map (·.1)) [] (by rw[e1];rfl) (by rw[e1];kernel_rfl) (by rw[e1];kernel_rfl) (by rw[e2];exact LaidIn.none);exact h.of_heap (by simp[World.memory,World.forCall,Input.heap])
def jmh(P:Program)(t:TypeId)(α:Type) [Enc α](Q:α→Prop):Prop:=
 ∀{H:Type}{enc:TypeId×Value→H}{w:World}{base:Nat}{spare:Nat→Bool}{held:Bool}{r:Reach}{b0:Nat}{v:Value}{d:DataW H}{p:List MemPlace},Value.okWide P w r b0 t v→DataW.Trod enc P w base spare held t v d p→
  ∃a:α,v=Enc.enc a∧Q a∧p=[]∧ ∀(w':World)(b':Nat)(sp':Nat→Bool)(hd':Bool),DataW.Trod enc P w' b' sp' hd' t v d []
theorem je0{P:Program}{α:Type} [Enc α]{t:TypeId}{fs:Array Field}{Q:α→Prop}(hs:P.underlying t=some (.struct fs))(hl:fs.toList.all (fun f=>jnq P f.type)=true)
  (hc : ∀ cs : Array Value, cs.size = P.cellsOf t → (∀ (i : Nat) (f : Field), fs[i]? = some f → ∃ (H : Type) (enc : TypeId × Value → H) (w : World) (base : Nat) (spare : Nat → Bool) (held : Bool) (n : Nat) (y : DataW H × List MemPlace),
   DataW.trod enc P w base spare held n f.type ((cs.toList.drop f.offset).take (P.cellsOf f.type))=some y)→ ∃a:α,Value.agg cs=Enc.enc a∧Q a):jmh P t α Q:=by
 intro H enc w base spare held r b0 v d p hv h;obtain⟨cs,rfl,hsz⟩:=okWide_struct hs hv;obtain⟨fuel,hf⟩:=h;simp only[Value.cells]at hf;obtain⟨hp,hany⟩:=leaves_any hs hl hf;obtain⟨xs,n,_,_,hlen,hxs,hg⟩:=DataW.trod_struct hs hf
 obtain⟨a,ha,hq⟩:=hc cs hsz fun i f hi=>by
  have hlt:i<xs.length:=by
   have:=(Array.getElem?_eq_some_iff.1 hi).1;omega
  exact⟨H,enc,w,base,spare,held,n,xs[i],by rw[hg i f hi,Kx hlt]⟩
 simp only at hp;subst hp;exact⟨a,ha,hq,rfl,fun w' b' sp' hd'=>⟨2,by simpa[Value.cells]using hany w' b' sp' hd'⟩⟩
def r64(n:Int):Prop:= -9223372036854775808≤n∧n≤9223372036854775807
def rS(s:Y):Prop:=s.size≤9223372036854775807
theorem r64_wf{n:Int}(h:(Lit.int .i64 n).wf=true):r64 n:=by simpa[Lit.wf,IntKind.min,IntKind.max,IntKind.signed,IntKind.bits,r64]using h
theorem array5{α:Type}{cs:Array α}(h:cs.size=5):∃c0 c1 c2 c3 c4,cs= #[c0,c1,c2,c3,c4]:=by
 obtain⟨l⟩:=cs
 match l,h with
 | [c0,c1,c2,c3,c4],_=>exact⟨c0,c1,c2,c3,c4,rfl⟩
theorem oT:jmh Tryz.prog 45 Fx.Ty fun t=>r64 t.k∧r64 t.p∧r64 t.q∧rS t.s:=by
 refine je0 Tryz.underlying45 (by kernel_rfl) fun cs hsz hf=> ?_
 have hc:Tryz.prog.cellsOf 45=5:=by kernel_rfl
 have h3:Tryz.prog.cellsOf 3=1:=by kernel_rfl
 have h4:Tryz.prog.cellsOf 4=1:=by kernel_rfl
 have h9:Tryz.prog.cellsOf 9=1:=by kernel_rfl
 rw[hc]at hsz;obtain⟨c0,c1,c2,c3,c4,rfl⟩:=array5 hsz
 ·obtain ⟨H, enc, w, base, spare, held, n, y, h0⟩ := hf 0 { name := "Kind", type := 3, offset := 0, embedded := false, tag := "", pkgPath := "", byteOffset := 0 } rfl
  obtain ⟨H, enc, w, base, spare, held, n, y, h1⟩ := hf 1 { name := "P", type := 3, offset := 1, embedded := false, tag := "", pkgPath := "", byteOffset := 8 } rfl
  obtain ⟨H, enc, w, base, spare, held, n, y, h2⟩ := hf 2 { name := "Q", type := 3, offset := 2, embedded := false, tag := "", pkgPath := "", byteOffset := 16 } rfl
  obtain ⟨H, enc, w, base, spare, held, n, y, hv⟩ := hf 3 { name := "Vary", type := 4, offset := 3, embedded := false, tag := "", pkgPath := "", byteOffset := 24 } rfl
  obtain ⟨H, enc, w, base, spare, held, n, y, hs⟩ := hf 4 { name := "Pic", type := 9, offset := 4, embedded := false, tag := "", pkgPath := "", byteOffset := 32 } rfl
  obtain⟨k,e0,_,w0⟩:=DataW.trod_int Tryz.underlying3 h0;obtain⟨p,e1,_,w1⟩:=DataW.trod_int Tryz.underlying3 h1;obtain⟨q,e2,_,w2⟩:=DataW.trod_int Tryz.underlying3 h2;obtain⟨v,e3,_⟩:=DataW.trod_bool Tryz.underlying4 hv;obtain⟨s,e4,_,w4⟩:=DataW.trod_string Tryz.underlying9 hs;simp only[h3,h4,h9,List.drop_zero,List.drop_succ_cons,List.take_succ_cons,List.take_zero,List.cons.injEq,and_true]at e0 e1 e2 e3 e4;exact⟨⟨k,p,q,v,s⟩,by rw[e0,e1,e2,e3,e4];rfl,r64_wf w0,r64_wf w1,r64_wf w2,KG w4 (by decide)⟩
theorem array2{α:Type}{cs:Array α}(h:cs.size=2):∃c0 c1,cs= #[c0,c1]:=by
 obtain⟨l⟩:=cs
 match l,h with
 | [c0,c1],_=>exact⟨c0,c1,rfl⟩
theorem oV:jmh Tryz.prog 32 Fx.Vl fun v=>r64 v.n∧rS v.s:=by
 refine je0 Tryz.underlying32 (by kernel_rfl) fun cs hsz hf=> ?_
 have hc:Tryz.prog.cellsOf 32=2:=by kernel_rfl
 have h3:Tryz.prog.cellsOf 3=1:=by kernel_rfl
 have h9:Tryz.prog.cellsOf 9=1:=by kernel_rfl
 rw[hc]at hsz;obtain⟨c0,c1,rfl⟩:=array2 hsz
 ·obtain ⟨H, enc, w, base, spare, held, n, y, h0⟩ := hf 0 { name := "N", type := 3, offset := 0, embedded := false, tag := "", pkgPath := "", byteOffset := 0 } rfl
  obtain ⟨H, enc, w, base, spare, held, n, y, h1⟩ := hf 1 { name := "S", type := 9, offset := 1, embedded := false, tag := "", pkgPath := "", byteOffset := 8 } rfl
  obtain⟨k,e0,_,w0⟩:=DataW.trod_int Tryz.underlying3 h0;obtain⟨s,e4,_,w4⟩:=DataW.trod_string Tryz.underlying9 h1;simp only[h3,h9,List.drop_zero,List.drop_succ_cons,List.take_succ_cons,List.take_zero,List.cons.injEq,and_true]at e0 e4;exact⟨⟨k,s⟩,by rw[e0,e4];rfl,r64_wf w0,KG w4 (by decide)⟩
theorem array4{α:Type}{cs:Array α}(h:cs.size=4):∃c0 c1 c2 c3,cs= #[c0,c1,c2,c3]:=by
 obtain⟨l⟩:=cs
 match l,h with
 | [c0,c1,c2,c3],_=>exact⟨c0,c1,c2,c3,rfl⟩
theorem oF:jmh Tryz.prog 48 Go.Ff.Fo fun v=>r64 v.k∧r64 v.w∧r64 v.d∧rS v.s:=by
 refine je0 Tryz.underlying48 (by kernel_rfl) fun cs hsz hf=> ?_
 have hc:Tryz.prog.cellsOf 48=4:=by kernel_rfl
 have h3:Tryz.prog.cellsOf 3=1:=by kernel_rfl
 have h9:Tryz.prog.cellsOf 9=1:=by kernel_rfl
 rw[hc]at hsz;obtain⟨c0,c1,c2,c3,rfl⟩:=array4 hsz
 ·obtain ⟨H, enc, w, base, spare, held, n, y, h0⟩ := hf 0 { name := "Kind", type := 3, offset := 0, embedded := false, tag := "", pkgPath := "", byteOffset := 0 } rfl
  obtain ⟨H, enc, w, base, spare, held, n, y, h1⟩ := hf 1 { name := "W", type := 3, offset := 1, embedded := false, tag := "", pkgPath := "", byteOffset := 8 } rfl
  obtain ⟨H, enc, w, base, spare, held, n, y, h2⟩ := hf 2 { name := "D", type := 3, offset := 2, embedded := false, tag := "", pkgPath := "", byteOffset := 16 } rfl
  obtain ⟨H, enc, w, base, spare, held, n, y, hs⟩ := hf 3 { name := "Pic", type := 9, offset := 3, embedded := false, tag := "", pkgPath := "", byteOffset := 24 } rfl
  obtain⟨k,e0,_,w0⟩:=DataW.trod_int Tryz.underlying3 h0;obtain⟨p,e1,_,w1⟩:=DataW.trod_int Tryz.underlying3 h1;obtain⟨q,e2,_,w2⟩:=DataW.trod_int Tryz.underlying3 h2;obtain⟨s,e4,_,w4⟩:=DataW.trod_string Tryz.underlying9 hs;simp only[h3,h9,List.drop_zero,List.drop_succ_cons,List.take_succ_cons,List.take_zero,List.cons.injEq,and_true]at e0 e1 e2 e4;exact⟨⟨k,p,q,s⟩,by rw[e0,e1,e2,e4];rfl,r64_wf w0,r64_wf w1,r64_wf w2,KG w4 (by decide)⟩
noncomputable def hAB (fn : Func) (s : ChangeSpec) (c : OpenClaim) : Bool := c.wf (OpenSpec.ofChange s) && fn.params.all (Tryz.prog.readableRec ·) && namedTie Tryz.prog c.named s.vars && (c.stops == []) && (c.knobs == [])
noncomputable def hRB (fn : Func) (s : ChangeSpec) (c : OpenClaim) : Bool := (c.maps == (fn.params.toList ++ s.plain.varTypes Tryz.prog).any (Tryz.prog.mapsRec ·)) && (c.ifaces == (fn.params.toList ++ s.plain.varTypes Tryz.prog).any (Tryz.prog.ifacesRec ·)) && (c.mapsOut == Tryz.prog.mapsAmong fn.resultTypes.toList) && (c.loops == (fn.params.toList ++ s.plain.varTypes Tryz.prog).any (Tryz.prog.loopsFrom ·))
noncomputable def hSB (fn : Func) (s : ChangeSpec) (c : OpenClaim) : Bool := (c.wideKeys == (fn.params.toList ++ s.plain.varTypes Tryz.prog ++ fn.resultTypes.toList).any (Tryz.prog.wideKeysFrom ·)) && s.vars.all (Tryz.prog.varReadable ·) && fn.resultTypes.all (fun t => Tryz.prog.readableRec t && decide (t<Tryz.prog.types.size)) && (c.ifacesOut == fn.resultTypes.toList.any (Tryz.prog.ifacesRec ·)) && (c.loopsOut == fn.resultTypes.toList.any (Tryz.prog.loopsFrom ·)) && c.shortTexts.isNone
noncomputable def hTB (fn : Func) (s : ChangeSpec) (c : OpenClaim) : Bool := (c.kinds == (if c.domain.isEmpty then [] else fn.params.toList.map fun t => match Tryz.prog.underlying t with | some (.int k) => some k | _ => none)) && (c.pinned == c.pinnedBy) && (c.veiled == (fn.params.toList ++ s.plain.varTypes Tryz.prog ++ fn.resultTypes.toList).any (Tryz.prog.veiledRec ·)) && c.veiledFits Tryz.prog fn.params.toList (fn.params.toList ++ s.plain.varTypes Tryz.prog ++ fn.resultTypes.toList)
set_option maxRecDepth 100000 in
theorem jf_mk{f:FuncId}{fn:Func}{s:ChangeSpec}{c:OpenClaim}(hA:hAB fn s c=true)(h1:(c.inPlace==Tryz.prog.inPlace f)=true)(h2:(c.unfollowed==Tryz.prog.unfollowed f)=true)(h3:(c.recurses==Tryz.prog.recurses f)=true)(h4:(c.named==Tryz.prog.varsNamed f)=true)
  (hR:hRB fn s c=true) (hS:hSB fn s c=true)
  (hk:(c.plainKeys==Tryz.prog.plainKeys)=true) (hl:(c.lifted==Tryz.prog.liftsFinal)=true) (hm:(Tryz.prog.make==some c.make)=true)
  (hT:hTB fn s c=true):joinedFacts Tryz.prog f fn s c=true:=by
 unfold joinedFacts;simp only[hAB,hRB,hSB,hTB,jaf]at hA hR hS hT;obtain⟨⟨⟨⟨a1,a2⟩,a3⟩,a4⟩,a5⟩:=hA;obtain⟨⟨⟨r1,r2⟩,r3⟩,r4⟩:=hR;obtain⟨⟨⟨⟨⟨s1,s2⟩,s3⟩,s4⟩,s5⟩,s6⟩:=hS;obtain⟨⟨⟨t1,t2⟩,t3⟩,t4⟩:=hT;rw[a1,a2,a3,a4,a5,h1,h2,h3,h4,r1,r2,r3,r4,s1,s2,s3,s4,s5,s6,t2,t3,t4,q_laid,q_maps,q_stop,q_knob,q_heard,q_enter,hk,hl,hm];simp only[Bool.true_and,Bool.and_true];exact t1
end Go.Px
end
noncomputable section
set_option maxHeartbeats 3200000
set_option maxRecDepth 100000
namespace Go.Ff
open Go Go.Ab Go.Proofs Go.Shelf Go.Px Go.Cv Go.Cx
open Go.Fx (Ty Vl)
variable [Cs.MaxL] -- 3
/-- The tables and the variable. -/
instance (priority:=5000) tabsR:Tabs:={row:=Cs.rowsC,plain:=Cs.tabsC.plain}
theorem pureR{f:FuncId}{s:Ab.Spec}(h: @jan Cs.tabsC Tryz.prog f s): @jan tabsR Tryz.prog f s:=
 ⟨h.1,fun args v N w0 lk ι w hr hs hv=>h.2 args v N w0 lk ι w (@RelM.mk Cs.tabsC N w0 lk ι w hr.below hr.base hr.blk hr.view hr.inj) hs hv⟩
end Go.Ff
end
noncomputable section
namespace Go.Px
open Go Go.Ab Go.Proofs Go.Shelf Go.ChangeMaps Go.ChangeShapes Go.WideShapes Go.ChangeAt Go.RowKit Go.Joins
open Go.Proofs.YtiahilhlpmohoaaGreatDoor
theorem maxlen_of{W:World}(h:W.ShapedOpen Tryz.prog):1<W.heap.size∧ ∃m ty fr,W.heap[1]?=some (.cells ⟨[.int .i64 m]⟩ ty fr):=by
 have h0:((begin Tryz.prog (fun _ _=>0) default).world.heap[1]?).bind Obj.row?=some (#[.int .i64 0],3):=by kernel_rfl
 have hg:1<Tryz.prog.globals.size:=jag;obtain⟨m,hm⟩:=cell_of_shapedOpen_int h hg h0 rfl (by kernel_rfl) (by kernel_rfl) Tryz.underlying3;obtain⟨cs,hh,hs,_⟩:=h.1 1 _ 3 hg h0;refine⟨(Array.getElem?_eq_some_iff.1 hh).1,m,3,(0,0),?_⟩;have h1:cs.size=1:=hs
 obtain⟨c0,rfl⟩:∃c0,cs= #[c0]:=by
  obtain⟨l⟩:=cs
  match l,h1 with
  | [c0],_=>exact⟨c0,rfl⟩
 rw[World.cell?,hh]at hm;have:c0= .int .i64 m:=by simpa using hm
 rw[hh,this]
theorem tabsR_of [Cs.MaxL]{W:World}{ty:TypeId}{fr:Nat×Nat}(h: @TabsIn tabs W.heap.size W)(h1:1<W.heap.size)(hm:W.heap[1]?=some (.cells ⟨[.int .i64 Cs.MaxL.mx]⟩ ty fr)): @TabsIn Ff.tabsR W.heap.size W:=by
 intro b r hb;have hb:Cs.rowsC b=some r:=hb;unfold Cs.rowsC at hb;split at hb
 ·rename_i q;cases hb;obtain rfl:=jah q;exact⟨h1,ty,fr,hm⟩
 ·exact h b r hb
theorem handed_shaped{H:Type}{enc:TypeId×Value→H}{a:Assume}{C:Checked}{os:Os}{f:FuncId}{fn:Func}{s:ChangeSpec}{conds:List PathCond}{apart fresh handsOn again:Bool}{X:World→Array Value→Prop}
  (hX:∀(w w':World)(args:Array Value),w.heap=w'.heap→X w args→X w' args)
  (own:ownKnob C.prog.godebug=none) (started:os.Started) (noInit:C.prog.inits.idxOf? f=none) (hfn:C.prog.funcs[f]?=some fn)
  (witness : ∃ (w : World) (tape : Tape) (i : Input), w.os = os ∧ (w.forCall tape i).Shaped C.prog ∧ i.vars = [] ∧ Input.okWide C.prog (w.forCall tape i) .any w.heap.size f i ∧
   ((s.pre enc C.prog fn conds apart (w.forCall tape i).memory i.args∧X (w.forCall tape i).memory i.args)∧sizedMet enc C.prog fn (OpenSpec.ofChange s) apart (w.forCall tape i).memory i.args)∧a.holds C.prog (lone (Frame.enter C.prog f i.args .normal) [] (w.forCall tape i)))
  (contract : ∀ (W : World) (base : Nat) (args : Array Value) (ds gs : List (DataW H)) (before : List MemPlace),
   (∀(j:Nat) t v,fn.params[j]?=some t→args[j]?=some v→Value.okWide C.prog W .any base t v)→
   DataW.Whole enc C.prog fn.params.toList s.vars apart W args.toList ds gs before→W.ShapedOpen C.prog→X W args→
   Calls C.prog f args W fun e W'=>∃v,e= .returned v∧s.post enc C.prog fn apart fresh handsOn again W args v W'):
  ReturnsInHanded a C os f .any (fun w args=>(s.pre enc C.prog fn conds apart w args∧X w args)∧sizedMet enc C.prog fn (OpenSpec.ofChange s) apart w args) (s.post enc C.prog fn apart fresh handsOn again):=by
 refine returnsInHanded_of_calls own started noInit witness ?_;intro w tape i _ hsh _ hok hpre _;obtain⟨_,_,_,fn',hfn',_,_,_,_,hval⟩:=hok;have e:fn'=fn:=Option.some.inj (hfn'.symm.trans hfn);subst e;obtain⟨⟨⟨ds,gs,before,hw,_⟩,hx⟩,_⟩:=hpre;have hw':=DataW.Whole.of_heap (w':=w.forCall tape i) (by rfl) hw;refine(contract (w.forCall tape i) w.heap.size i.args ds gs before hval hw' hsh (hX _ _ _ (by rfl) hx)).mono fun e W' ⟨v,he,hp⟩=> ?_
 subst he;exact ChangeSpec.post_blind hp
end Go.Px
end
section

end
