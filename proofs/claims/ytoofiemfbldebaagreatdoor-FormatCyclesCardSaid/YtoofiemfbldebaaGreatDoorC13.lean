/-
  Part 3: the run and laws.
-/
import Derived.Test.YtoofiemfbldebaaGreatDoorC12
set_option linter.unusedVariables false
set_option linter.unusedSimpArgs false
set_option linter.unusedSectionVars false
noncomputable section
set_option maxRecDepth 100000
set_option maxHeartbeats 3200000
namespace Go.Cs
open Go Go.Ab Go.Proofs Go.Px Go.Cx
variable [MaxL]
theorem fn44:Fn1 Tryz.prog 44 Tryz.f44:= .m Tryz.func44
def m44:List (U×Value):=[([.agg ⟨[.int .i64 3,.int .i64 6,.int .i64 2,.string ⟨#[]⟩]⟩],.bool true),([.agg ⟨[.int .i64 3,.int .i64 4,.int .i64 2,.string ⟨#[]⟩]⟩],.bool true),([.agg ⟨[.int .i64 3,.int .i64 6,.int .i64 1,.string ⟨#[]⟩]⟩],.bool true),([.agg ⟨[.int .i64 3,.int .i64 3,.int .i64 0,.string ⟨#[]⟩]⟩],.bool true),([.agg ⟨[.int .i64 1,.int .i64 4,.int .i64 0,.string ⟨#[]⟩]⟩],.bool true),([.agg ⟨[.int .i64 2,.int .i64 4,.int .i64 0,.string ⟨#[]⟩]⟩],.bool true),([.agg ⟨[.int .i64 2,.int .i64 3,.int .i64 0,.string ⟨#[]⟩]⟩],.bool true),([.agg ⟨[.int .i64 4,.int .i64 0,.int .i64 0,.string ⟨#[57,57,86,57]⟩]⟩],.bool true),([.agg ⟨[.int .i64 1,.int .i64 2,.int .i64 0,.string ⟨#[]⟩]⟩],.bool true),([.agg ⟨[.int .i64 5,.int .i64 1,.int .i64 0,.string ⟨#[]⟩]⟩],.bool true),([.agg ⟨[.int .i64 6,.int .i64 5,.int .i64 0,.string ⟨#[]⟩]⟩],.bool true),([.agg ⟨[.int .i64 1,.int .i64 0,.int .i64 0,.string ⟨#[]⟩]⟩],.bool true)]
theorem pk44:jal Tryz.prog 44 (memo m44):=jan [] ok_Fs1e54 hmix fn44 jai (by kernel_rfl) (by kernel_rfl)
def Fs2e1:Env:=Fs1e54.add 44 (memo m44)
theorem ok_Fs2e1:jao Tryz.prog Fs2e1:=jak ok_Fs1e54 pk44
theorem fn71:Fn1 Tryz.prog 71 Tryz.f71:= .m Tryz.func71
def m71:List (U×Value):=[([.agg ⟨[.int .i64 3,.int .i64 6,.int .i64 2,.string ⟨#[]⟩]⟩],.bool true),([.agg ⟨[.int .i64 3,.int .i64 4,.int .i64 2,.string ⟨#[]⟩]⟩],.bool true),([.agg ⟨[.int .i64 3,.int .i64 6,.int .i64 1,.string ⟨#[]⟩]⟩],.bool true),([.agg ⟨[.int .i64 3,.int .i64 3,.int .i64 0,.string ⟨#[]⟩]⟩],.bool true),([.agg ⟨[.int .i64 1,.int .i64 4,.int .i64 0,.string ⟨#[]⟩]⟩],.bool true),([.agg ⟨[.int .i64 2,.int .i64 4,.int .i64 0,.string ⟨#[]⟩]⟩],.bool true),([.agg ⟨[.int .i64 2,.int .i64 3,.int .i64 0,.string ⟨#[]⟩]⟩],.bool true),([.agg ⟨[.int .i64 4,.int .i64 0,.int .i64 0,.string ⟨#[57,57,86,57]⟩]⟩],.bool true),([.agg ⟨[.int .i64 1,.int .i64 2,.int .i64 0,.string ⟨#[]⟩]⟩],.bool true),([.agg ⟨[.int .i64 5,.int .i64 1,.int .i64 0,.string ⟨#[]⟩]⟩],.bool false),([.agg ⟨[.int .i64 6,.int .i64 5,.int .i64 0,.string ⟨#[]⟩]⟩],.bool false),([.agg ⟨[.int .i64 1,.int .i64 0,.int .i64 0,.string ⟨#[]⟩]⟩],.bool true)]
theorem pk71:jal Tryz.prog 71 (memo m71):=jan [] ok_Fs2e1 hmix fn71 jai (by kernel_rfl) (by kernel_rfl)
def Fs2e2:Env:=Fs2e1.add 71 (memo m71)
theorem ok_Fs2e2:jao Tryz.prog Fs2e2:=jak ok_Fs2e1 pk71
theorem fn37:Fn1 Tryz.prog 37 Tryz.f37:= .m Tryz.func37
def m37:List (U×Value):=[([.agg ⟨[.int .i64 3,.int .i64 6,.int .i64 2,.string ⟨#[]⟩]⟩],.int .i64 0),([.agg ⟨[.int .i64 3,.int .i64 4,.int .i64 2,.string ⟨#[]⟩]⟩],.int .i64 0),([.agg ⟨[.int .i64 3,.int .i64 6,.int .i64 1,.string ⟨#[]⟩]⟩],.int .i64 0),([.agg ⟨[.int .i64 3,.int .i64 3,.int .i64 0,.string ⟨#[]⟩]⟩],.int .i64 0),([.agg ⟨[.int .i64 1,.int .i64 4,.int .i64 0,.string ⟨#[]⟩]⟩],.int .i64 0),([.agg ⟨[.int .i64 2,.int .i64 4,.int .i64 0,.string ⟨#[]⟩]⟩],.int .i64 0),([.agg ⟨[.int .i64 2,.int .i64 3,.int .i64 0,.string ⟨#[]⟩]⟩],.int .i64 0),([.agg ⟨[.int .i64 4,.int .i64 0,.int .i64 0,.string ⟨#[57,57,86,57]⟩]⟩],.int .i64 0)]
theorem pk37:jal Tryz.prog 37 (memo m37):=jan [] ok_Fs2e2 hmix fn37 jai (by kernel_rfl) (by kernel_rfl)
def Fs2e3:Env:=Fs2e2.add 37 (memo m37)
theorem ok_Fs2e3:jao Tryz.prog Fs2e3:=jak ok_Fs2e2 pk37
theorem fn62:Fn1 Tryz.prog 62 Tryz.f62:= .m Tryz.func62
def m62:List (U×Value):=[([.agg ⟨[.int .i64 3,.int .i64 6,.int .i64 2,.string ⟨#[]⟩]⟩],.int .i64 6),([.agg ⟨[.int .i64 3,.int .i64 4,.int .i64 2,.string ⟨#[]⟩]⟩],.int .i64 4),([.agg ⟨[.int .i64 3,.int .i64 6,.int .i64 1,.string ⟨#[]⟩]⟩],.int .i64 6),([.agg ⟨[.int .i64 3,.int .i64 3,.int .i64 0,.string ⟨#[]⟩]⟩],.int .i64 3),([.agg ⟨[.int .i64 1,.int .i64 4,.int .i64 0,.string ⟨#[]⟩]⟩],.int .i64 4),([.agg ⟨[.int .i64 2,.int .i64 4,.int .i64 0,.string ⟨#[]⟩]⟩],.int .i64 4),([.agg ⟨[.int .i64 2,.int .i64 3,.int .i64 0,.string ⟨#[]⟩]⟩],.int .i64 3),([.agg ⟨[.int .i64 4,.int .i64 0,.int .i64 0,.string ⟨#[57,57,86,57]⟩]⟩],.int .i64 3),([.agg ⟨[.int .i64 1,.int .i64 2,.int .i64 0,.string ⟨#[]⟩]⟩],.int .i64 2),([.agg ⟨[.int .i64 1,.int .i64 0,.int .i64 0,.string ⟨#[]⟩]⟩],.int .i64 0)]
theorem pk62:jal Tryz.prog 62 (memo m62):=jan [] ok_Fs2e3 hmix fn62 jai (by kernel_rfl) (by kernel_rfl)
def Fs2e4:Env:=Fs2e3.add 62 (memo m62)
theorem ok_Fs2e4:jao Tryz.prog Fs2e4:=jak ok_Fs2e3 pk62
theorem fn55:Fn1 Tryz.prog 55 Tryz.f55:= .m Tryz.func55
def m55:List (U×Value):=[([.agg ⟨[.int .i64 1,.int .i64 5,.int .i64 2,.bool false,.string ⟨#[]⟩]⟩],.int .i64 0),([.agg ⟨[.int .i64 1,.int .i64 3,.int .i64 1,.bool false,.string ⟨#[]⟩]⟩],.int .i64 0),([.agg ⟨[.int .i64 3,.int .i64 2,.int .i64 0,.bool false,.string ⟨#[]⟩]⟩],.int .i64 0),([.agg ⟨[.int .i64 4,.int .i64 2,.int .i64 0,.bool false,.string ⟨#[]⟩]⟩],.int .i64 0),([.agg ⟨[.int .i64 3,.int .i64 1,.int .i64 0,.bool false,.string ⟨#[]⟩]⟩],.int .i64 0),([.agg ⟨[.int .i64 1,.int .i64 4,.int .i64 2,.bool false,.string ⟨#[]⟩]⟩],.int .i64 0),([.agg ⟨[.int .i64 4,.int .i64 3,.int .i64 0,.bool false,.string ⟨#[]⟩]⟩],.int .i64 0),([.agg ⟨[.int .i64 3,.int .i64 6,.int .i64 0,.bool false,.string ⟨#[]⟩]⟩],.int .i64 0)]
theorem pk55:jal Tryz.prog 55 (memo m55):=jan [] ok_Fs2e4 hmix fn55 jai (by kernel_rfl) (by kernel_rfl)
def Fs2e5:Env:=Fs2e4.add 55 (memo m55)
theorem ok_Fs2e5:jao Tryz.prog Fs2e5:=jak ok_Fs2e4 pk55
theorem fn38:Fn1 Tryz.prog 38 Tryz.f38:= .m Tryz.func38
def m38:List (U×Value):=[([.agg ⟨[.int .i64 5,.string ⟨#[]⟩]⟩,.agg ⟨[.int .i64 1,.int .i64 3,.int .i64 1,.bool false,.string ⟨#[]⟩]⟩],.int .i64 0),([.agg ⟨[.int .i64 0,.string ⟨#[97,98]⟩]⟩,.agg ⟨[.int .i64 3,.int .i64 2,.int .i64 0,.bool false,.string ⟨#[]⟩]⟩],.int .i64 0),([.agg ⟨[.int .i64 0,.string ⟨#[49,49]⟩]⟩,.agg ⟨[.int .i64 4,.int .i64 2,.int .i64 0,.bool false,.string ⟨#[]⟩]⟩],.int .i64 0),([.agg ⟨[.int .i64 0,.string ⟨#[120]⟩]⟩,.agg ⟨[.int .i64 3,.int .i64 1,.int .i64 0,.bool false,.string ⟨#[]⟩]⟩],.int .i64 0),([.agg ⟨[.int .i64 1234,.string ⟨#[]⟩]⟩,.agg ⟨[.int .i64 1,.int .i64 4,.int .i64 2,.bool false,.string ⟨#[]⟩]⟩],.int .i64 0),([.agg ⟨[.int .i64 (-125),.string ⟨#[]⟩]⟩,.agg ⟨[.int .i64 1,.int .i64 5,.int .i64 2,.bool false,.string ⟨#[]⟩]⟩],.int .i64 0),([.agg ⟨[.int .i64 0,.string ⟨#[120]⟩]⟩,.agg ⟨[.int .i64 3,.int .i64 1,.int .i64 0,.bool false,.string ⟨#[]⟩]⟩],.int .i64 0),([.agg ⟨[.int .i64 0,.string ⟨#[121]⟩]⟩,.agg ⟨[.int .i64 3,.int .i64 1,.int .i64 0,.bool false,.string ⟨#[]⟩]⟩],.int .i64 0),([.agg ⟨[.int .i64 150,.string ⟨#[]⟩]⟩,.agg ⟨[.int .i64 1,.int .i64 5,.int .i64 2,.bool false,.string ⟨#[]⟩]⟩],.int .i64 0),([.agg ⟨[.int .i64 0,.string ⟨#[49,48,49]⟩]⟩,.agg ⟨[.int .i64 4,.int .i64 3,.int .i64 0,.bool false,.string ⟨#[]⟩]⟩],.int .i64 0)]
theorem pk38:jal Tryz.prog 38 (memo m38):=jan [] ok_Fs2e5 hmix fn38 jai (by kernel_rfl) (by kernel_rfl)
def Fs2e6:Env:=Fs2e5.add 38 (memo m38)
theorem ok_Fs2e6:jao Tryz.prog Fs2e6:=jak ok_Fs2e5 pk38
theorem fn129:Fn1 Tryz.prog 129 Tryz.f129:= .m Tryz.func129
def m129:List (U×Value):=[([.int .i64 (-125),.int .i64 2],.agg ⟨[.bool true,.string ⟨#[49,50,53]⟩,.int .i64 2]⟩),([.int .i64 5,.int .i64 1],.agg ⟨[.bool false,.string ⟨#[53]⟩,.int .i64 1]⟩)]
theorem pk129:jal Tryz.prog 129 (memo m129):=jan [] ok_Fs2e6 hmix fn129 jai (by kernel_rfl) (by kernel_rfl)
def Fs2e7:Env:=Fs2e6.add 129 (memo m129)
theorem ok_Fs2e7:jao Tryz.prog Fs2e7:=jak ok_Fs2e6 pk129
theorem fn133:Fn1 Tryz.prog 133 Tryz.f133:= .m Tryz.func133
def m133:List (U×Value):=[([.agg ⟨[.bool true,.string ⟨#[49,50,53]⟩,.int .i64 2]⟩,.int .i64 2],.tuple ⟨[.string ⟨#[49,50,53]⟩,.bool true]⟩),([.agg ⟨[.bool true,.string ⟨#[49,50,53]⟩,.int .i64 2]⟩,.int .i64 1],.tuple ⟨[.string ⟨#[49,51]⟩,.bool true]⟩),([.agg ⟨[.bool false,.string ⟨#[53]⟩,.int .i64 1]⟩,.int .i64 0],.tuple ⟨[.string ⟨#[49]⟩,.bool true]⟩)]
theorem pk133:jal Tryz.prog 133 (memo m133):=jan [] ok_Fs2e7 hmix fn133 jai (by kernel_rfl) (by kernel_rfl)
def Fs2e8:Env:=Fs2e7.add 133 (memo m133)
theorem ok_Fs2e8:jao Tryz.prog Fs2e8:=jak ok_Fs2e7 pk133
theorem fn76:Fn1 Tryz.prog 76 Tryz.f76:= .m Tryz.func76
def m76:List (U×Value):=[([.agg ⟨[.bool true,.string ⟨#[49,50,53]⟩,.int .i64 2]⟩,.int .i64 2],.tuple ⟨[.string ⟨#[45,49,46,50,53]⟩,.bool true]⟩),([.agg ⟨[.bool true,.string ⟨#[49,50,53]⟩,.int .i64 2]⟩,.int .i64 1],.tuple ⟨[.string ⟨#[45,49,46,51]⟩,.bool true]⟩),([.agg ⟨[.bool false,.string ⟨#[53]⟩,.int .i64 1]⟩,.int .i64 0],.tuple ⟨[.string ⟨#[49]⟩,.bool true]⟩)]
theorem pk76:jal Tryz.prog 76 (memo m76):=jan [] ok_Fs2e8 hmix fn76 jai (by kernel_rfl) (by kernel_rfl)
def Fs2e9:Env:=Fs2e8.add 76 (memo m76)
theorem ok_Fs2e9:jao Tryz.prog Fs2e9:=jak ok_Fs2e8 pk76
theorem fn75:Fn1 Tryz.prog 75 Tryz.f75:= .m Tryz.func75
def m75:List (U×Value):=[([.agg ⟨[.int .i64 (-125),.string ⟨#[]⟩]⟩,.agg ⟨[.int .i64 1,.int .i64 5,.int .i64 2,.bool false,.string ⟨#[]⟩]⟩],.tuple ⟨[.agg ⟨[.bool true,.string ⟨#[49,50,53]⟩,.int .i64 2]⟩,.bool true]⟩),([.agg ⟨[.int .i64 5,.string ⟨#[]⟩]⟩,.agg ⟨[.int .i64 1,.int .i64 3,.int .i64 1,.bool false,.string ⟨#[]⟩]⟩],.tuple ⟨[.agg ⟨[.bool false,.string ⟨#[53]⟩,.int .i64 1]⟩,.bool true]⟩)]
theorem pk75:jal Tryz.prog 75 (memo m75):=jan [] ok_Fs2e9 hmix fn75 jai (by kernel_rfl) (by kernel_rfl)
def Fs2e10:Env:=Fs2e9.add 75 (memo m75)
theorem ok_Fs2e10:jao Tryz.prog Fs2e10:=jak ok_Fs2e9 pk75
theorem fn39:Fn1 Tryz.prog 39 Tryz.f39:= .m Tryz.func39
def m39:List (U×Value):=[([.agg ⟨[.int .i64 3,.int .i64 6,.int .i64 2,.string ⟨#[]⟩]⟩,.agg ⟨[.int .i64 (-125),.string ⟨#[]⟩]⟩,.agg ⟨[.int .i64 1,.int .i64 5,.int .i64 2,.bool false,.string ⟨#[]⟩]⟩],.string ⟨#[32,45,49,46,50,53]⟩),([.agg ⟨[.int .i64 3,.int .i64 4,.int .i64 2,.string ⟨#[]⟩]⟩,.agg ⟨[.int .i64 (-125),.string ⟨#[]⟩]⟩,.agg ⟨[.int .i64 1,.int .i64 5,.int .i64 2,.bool false,.string ⟨#[]⟩]⟩],.string ⟨#[42,42,42,42]⟩),([.agg ⟨[.int .i64 3,.int .i64 6,.int .i64 1,.string ⟨#[]⟩]⟩,.agg ⟨[.int .i64 (-125),.string ⟨#[]⟩]⟩,.agg ⟨[.int .i64 1,.int .i64 5,.int .i64 2,.bool false,.string ⟨#[]⟩]⟩],.string ⟨#[32,32,45,49,46,51]⟩),([.agg ⟨[.int .i64 3,.int .i64 3,.int .i64 0,.string ⟨#[]⟩]⟩,.agg ⟨[.int .i64 5,.string ⟨#[]⟩]⟩,.agg ⟨[.int .i64 1,.int .i64 3,.int .i64 1,.bool false,.string ⟨#[]⟩]⟩],.string ⟨#[32,32,49]⟩),([.agg ⟨[.int .i64 1,.int .i64 4,.int .i64 0,.string ⟨#[]⟩]⟩,.agg ⟨[.int .i64 0,.string ⟨#[97,98]⟩]⟩,.agg ⟨[.int .i64 3,.int .i64 2,.int .i64 0,.bool false,.string ⟨#[]⟩]⟩],.string ⟨#[97,98,32,32]⟩),([.agg ⟨[.int .i64 2,.int .i64 4,.int .i64 0,.string ⟨#[]⟩]⟩,.agg ⟨[.int .i64 0,.string ⟨#[49,49]⟩]⟩,.agg ⟨[.int .i64 4,.int .i64 2,.int .i64 0,.bool false,.string ⟨#[]⟩]⟩],.string ⟨#[49,49,48,48]⟩),([.agg ⟨[.int .i64 2,.int .i64 3,.int .i64 0,.string ⟨#[]⟩]⟩,.agg ⟨[.int .i64 0,.string ⟨#[120]⟩]⟩,.agg ⟨[.int .i64 3,.int .i64 1,.int .i64 0,.bool false,.string ⟨#[]⟩]⟩],.string ⟨#[42,42,42]⟩),([.agg ⟨[.int .i64 4,.int .i64 0,.int .i64 0,.string ⟨#[57,57,86,57]⟩]⟩,.agg ⟨[.int .i64 1234,.string ⟨#[]⟩]⟩,.agg ⟨[.int .i64 1,.int .i64 4,.int .i64 2,.bool false,.string ⟨#[]⟩]⟩],.string ⟨#[49,50,51]⟩),([.agg ⟨[.int .i64 1,.int .i64 0,.int .i64 0,.string ⟨#[]⟩]⟩,.agg ⟨[.int .i64 0,.string ⟨#[120]⟩]⟩,.agg ⟨[.int .i64 3,.int .i64 1,.int .i64 0,.bool false,.string ⟨#[]⟩]⟩],.string ⟨#[120]⟩),([.agg ⟨[.int .i64 1,.int .i64 0,.int .i64 0,.string ⟨#[]⟩]⟩,.agg ⟨[.int .i64 0,.string ⟨#[121]⟩]⟩,.agg ⟨[.int .i64 3,.int .i64 1,.int .i64 0,.bool false,.string ⟨#[]⟩]⟩],.string ⟨#[121]⟩)]
theorem pk39:jal Tryz.prog 39 (memo m39):=jan [] ok_Fs2e10 hmix fn39 jai (by kernel_rfl) (by kernel_rfl)
def Fs2e11:Env:=Fs2e10.add 39 (memo m39)
theorem ok_Fs2e11:jao Tryz.prog Fs2e11:=jak ok_Fs2e10 pk39
theorem fn8:Fn1 Tryz.prog 8 Tryz.f8:= .m Tryz.func8
def m8:List (U×Value):=[([.agg ⟨[.int .i64 3,.int .i64 6,.int .i64 2,.string ⟨#[]⟩]⟩,.agg ⟨[.int .i64 (-125),.string ⟨#[]⟩]⟩,.agg ⟨[.int .i64 1,.int .i64 5,.int .i64 2,.bool false,.string ⟨#[]⟩]⟩],.tuple ⟨[.string ⟨#[32,45,49,46,50,53]⟩,.int .i64 0]⟩),([.agg ⟨[.int .i64 3,.int .i64 4,.int .i64 2,.string ⟨#[]⟩]⟩,.agg ⟨[.int .i64 (-125),.string ⟨#[]⟩]⟩,.agg ⟨[.int .i64 1,.int .i64 5,.int .i64 2,.bool false,.string ⟨#[]⟩]⟩],.tuple ⟨[.string ⟨#[42,42,42,42]⟩,.int .i64 0]⟩),([.agg ⟨[.int .i64 3,.int .i64 6,.int .i64 1,.string ⟨#[]⟩]⟩,.agg ⟨[.int .i64 (-125),.string ⟨#[]⟩]⟩,.agg ⟨[.int .i64 1,.int .i64 5,.int .i64 2,.bool false,.string ⟨#[]⟩]⟩],.tuple ⟨[.string ⟨#[32,32,45,49,46,51]⟩,.int .i64 0]⟩),([.agg ⟨[.int .i64 3,.int .i64 3,.int .i64 0,.string ⟨#[]⟩]⟩,.agg ⟨[.int .i64 5,.string ⟨#[]⟩]⟩,.agg ⟨[.int .i64 1,.int .i64 3,.int .i64 1,.bool false,.string ⟨#[]⟩]⟩],.tuple ⟨[.string ⟨#[32,32,49]⟩,.int .i64 0]⟩),([.agg ⟨[.int .i64 1,.int .i64 4,.int .i64 0,.string ⟨#[]⟩]⟩,.agg ⟨[.int .i64 0,.string ⟨#[97,98]⟩]⟩,.agg ⟨[.int .i64 3,.int .i64 2,.int .i64 0,.bool false,.string ⟨#[]⟩]⟩],.tuple ⟨[.string ⟨#[97,98,32,32]⟩,.int .i64 0]⟩),([.agg ⟨[.int .i64 2,.int .i64 4,.int .i64 0,.string ⟨#[]⟩]⟩,.agg ⟨[.int .i64 0,.string ⟨#[49,49]⟩]⟩,.agg ⟨[.int .i64 4,.int .i64 2,.int .i64 0,.bool false,.string ⟨#[]⟩]⟩],.tuple ⟨[.string ⟨#[49,49,48,48]⟩,.int .i64 0]⟩),([.agg ⟨[.int .i64 2,.int .i64 3,.int .i64 0,.string ⟨#[]⟩]⟩,.agg ⟨[.int .i64 0,.string ⟨#[120]⟩]⟩,.agg ⟨[.int .i64 3,.int .i64 1,.int .i64 0,.bool false,.string ⟨#[]⟩]⟩],.tuple ⟨[.string ⟨#[42,42,42]⟩,.int .i64 0]⟩),([.agg ⟨[.int .i64 4,.int .i64 0,.int .i64 0,.string ⟨#[57,57,86,57]⟩]⟩,.agg ⟨[.int .i64 1234,.string ⟨#[]⟩]⟩,.agg ⟨[.int .i64 1,.int .i64 4,.int .i64 2,.bool false,.string ⟨#[]⟩]⟩],.tuple ⟨[.string ⟨#[49,50,51]⟩,.int .i64 0]⟩)]
theorem pk8:jal Tryz.prog 8 (memo m8):=jan [] ok_Fs2e11 hmix fn8 jai (by kernel_rfl) (by kernel_rfl)
def Fs2e12:Env:=Fs2e11.add 8 (memo m8)
theorem ok_Fs2e12:jao Tryz.prog Fs2e12:=jak ok_Fs2e11 pk8
theorem fn50:Fn1 Tryz.prog 50 Tryz.f50:= .m Tryz.func50
def m50:List (U×Value):=[([.agg ⟨[.int .i64 150,.string ⟨#[]⟩]⟩,.agg ⟨[.int .i64 1,.int .i64 5,.int .i64 2,.bool false,.string ⟨#[]⟩]⟩],.string ⟨#[49,46,53,48]⟩),([.agg ⟨[.int .i64 0,.string ⟨#[49,48,49]⟩]⟩,.agg ⟨[.int .i64 4,.int .i64 3,.int .i64 0,.bool false,.string ⟨#[]⟩]⟩],.string ⟨#[39,49,48,49,39,66]⟩)]
theorem pk50:jal Tryz.prog 50 (memo m50):=jan [] ok_Fs2e12 hmix fn50 jai (by kernel_rfl) (by kernel_rfl)
def Fs2e13:Env:=Fs2e12.add 50 (memo m50)
theorem ok_Fs2e13:jao Tryz.prog Fs2e13:=jak ok_Fs2e12 pk50
theorem fn27:Fn1 Tryz.prog 27 Tryz.f27:= .m Tryz.func27
def m27:List (U×Value):=[([.agg ⟨[.int .i64 150,.string ⟨#[]⟩]⟩,.agg ⟨[.int .i64 1,.int .i64 5,.int .i64 2,.bool false,.string ⟨#[]⟩]⟩],.tuple ⟨[.string ⟨#[49,46,53,48]⟩,.int .i64 0]⟩),([.agg ⟨[.int .i64 0,.string ⟨#[49,48,49]⟩]⟩,.agg ⟨[.int .i64 4,.int .i64 3,.int .i64 0,.bool false,.string ⟨#[]⟩]⟩],.tuple ⟨[.string ⟨#[39,49,48,49,39,66]⟩,.int .i64 0]⟩)]
theorem pk27:jal Tryz.prog 27 (memo m27):=jan [] ok_Fs2e13 hmix fn27 jai (by kernel_rfl) (by kernel_rfl)
def Fs2e14:Env:=Fs2e13.add 27 (memo m27)
theorem ok_Fs2e14:jao Tryz.prog Fs2e14:=jak ok_Fs2e13 pk27
theorem fn90:Fn1 Tryz.prog 90 Tryz.f90:= .m Tryz.func90
def m90:List (U×Value):=[([.string ⟨#[105,116,39,115]⟩],.agg ⟨[.int .i64 0,.string ⟨#[105,116,39,115]⟩,.int .i64 3,.int .i64 4,.int .i64 0,.bool false,.string ⟨#[]⟩,.bool false]⟩),([.string ⟨#[49,50]⟩],.agg ⟨[.int .i64 0,.string ⟨#[49,50]⟩,.int .i64 3,.int .i64 2,.int .i64 0,.bool false,.string ⟨#[]⟩,.bool false]⟩),([.string ⟨#[51,52]⟩],.agg ⟨[.int .i64 0,.string ⟨#[51,52]⟩,.int .i64 3,.int .i64 2,.int .i64 0,.bool false,.string ⟨#[]⟩,.bool false]⟩),([.string ⟨#[53,54]⟩],.agg ⟨[.int .i64 0,.string ⟨#[53,54]⟩,.int .i64 3,.int .i64 2,.int .i64 0,.bool false,.string ⟨#[]⟩,.bool false]⟩)]
theorem pk90:jal Tryz.prog 90 (memo m90):=jan [] ok_Fs2e14 hmix fn90 jai (by kernel_rfl) (by kernel_rfl)
def Fs2e15:Env:=Fs2e14.add 90 (memo m90)
theorem ok_Fs2e15:jao Tryz.prog Fs2e15:=jak ok_Fs2e14 pk90
theorem fn89:Fn1 Tryz.prog 89 Tryz.f89:= .m Tryz.func89
def m89:List (U×Value):=[([.agg ⟨[.int .i64 1,.int .i64 5,.int .i64 2,.bool false,.string ⟨#[]⟩]⟩],.agg ⟨[.int .i64 0,.string ⟨#[]⟩]⟩)]
theorem pk89:jal Tryz.prog 89 (memo m89):=jan [] ok_Fs2e15 hmix fn89 jai (by kernel_rfl) (by kernel_rfl)
def Fs2e16:Env:=Fs2e15.add 89 (memo m89)
theorem ok_Fs2e16:jao Tryz.prog Fs2e16:=jak ok_Fs2e15 pk89
theorem fn91:Fn1 Tryz.prog 91 Tryz.f91:= .m Tryz.func91
def m91:List (U×Value):=[([.agg ⟨[.int .i64 125,.string ⟨#[]⟩,.int .i64 1,.int .i64 9,.int .i64 2,.bool false,.string ⟨#[]⟩,.bool false]⟩,.agg ⟨[.int .i64 1,.int .i64 5,.int .i64 2,.bool false,.string ⟨#[]⟩]⟩],.tuple ⟨[.agg ⟨[.int .i64 125,.string ⟨#[]⟩]⟩,.int .i64 0]⟩),([.agg ⟨[.int .i64 0,.string ⟨#[]⟩,.int .i64 0,.int .i64 0,.int .i64 0,.bool false,.string ⟨#[]⟩,.bool true]⟩,.agg ⟨[.int .i64 1,.int .i64 5,.int .i64 2,.bool false,.string ⟨#[]⟩]⟩],.tuple ⟨[.agg ⟨[.int .i64 0,.string ⟨#[]⟩]⟩,.int .i64 4]⟩),([.agg ⟨[.int .i64 0,.string ⟨#[105,116,39,115]⟩,.int .i64 3,.int .i64 4,.int .i64 0,.bool false,.string ⟨#[]⟩,.bool false]⟩,.agg ⟨[.int .i64 3,.int .i64 6,.int .i64 0,.bool false,.string ⟨#[]⟩]⟩],.tuple ⟨[.agg ⟨[.int .i64 0,.string ⟨#[105,116,39,115,32,32]⟩]⟩,.int .i64 0]⟩),([.agg ⟨[.int .i64 0,.string ⟨#[49,50]⟩,.int .i64 3,.int .i64 2,.int .i64 0,.bool false,.string ⟨#[]⟩,.bool false]⟩,.agg ⟨[.int .i64 3,.int .i64 2,.int .i64 0,.bool false,.string ⟨#[]⟩]⟩],.tuple ⟨[.agg ⟨[.int .i64 0,.string ⟨#[49,50]⟩]⟩,.int .i64 0]⟩),([.agg ⟨[.int .i64 0,.string ⟨#[51,52]⟩,.int .i64 3,.int .i64 2,.int .i64 0,.bool false,.string ⟨#[]⟩,.bool false]⟩,.agg ⟨[.int .i64 3,.int .i64 2,.int .i64 0,.bool false,.string ⟨#[]⟩]⟩],.tuple ⟨[.agg ⟨[.int .i64 0,.string ⟨#[51,52]⟩]⟩,.int .i64 0]⟩),([.agg ⟨[.int .i64 0,.string ⟨#[53,54]⟩,.int .i64 3,.int .i64 2,.int .i64 0,.bool false,.string ⟨#[]⟩,.bool false]⟩,.agg ⟨[.int .i64 3,.int .i64 2,.int .i64 0,.bool false,.string ⟨#[]⟩]⟩],.tuple ⟨[.agg ⟨[.int .i64 0,.string ⟨#[53,54]⟩]⟩,.int .i64 0]⟩)]
theorem pk91:jal Tryz.prog 91 (memo m91):=jan [] ok_Fs2e16 hmix fn91 jai (by kernel_rfl) (by kernel_rfl)
def Fs2e17:Env:=Fs2e16.add 91 (memo m91)
theorem ok_Fs2e17:jao Tryz.prog Fs2e17:=jak ok_Fs2e16 pk91
theorem fn98:Fn1 Tryz.prog 98 Tryz.f98:= .m Tryz.func98
def m98:List (U×Value):=[([.agg ⟨[.int .i64 1,.int .i64 2,.int .i64 0,.string ⟨#[]⟩]⟩,.string ⟨#[49,50]⟩],.agg ⟨[.int .i64 0,.string ⟨#[49,50]⟩,.int .i64 3,.int .i64 2,.int .i64 0,.bool false,.string ⟨#[]⟩,.bool false]⟩),([.agg ⟨[.int .i64 1,.int .i64 2,.int .i64 0,.string ⟨#[]⟩]⟩,.string ⟨#[51,52]⟩],.agg ⟨[.int .i64 0,.string ⟨#[51,52]⟩,.int .i64 3,.int .i64 2,.int .i64 0,.bool false,.string ⟨#[]⟩,.bool false]⟩),([.agg ⟨[.int .i64 1,.int .i64 2,.int .i64 0,.string ⟨#[]⟩]⟩,.string ⟨#[53,54]⟩],.agg ⟨[.int .i64 0,.string ⟨#[53,54]⟩,.int .i64 3,.int .i64 2,.int .i64 0,.bool false,.string ⟨#[]⟩,.bool false]⟩)]
theorem pk98:jal Tryz.prog 98 (memo m98):=jan [] ok_Fs2e17 hmix fn98 jai (by kernel_rfl) (by kernel_rfl)
def Fs2e18:Env:=Fs2e17.add 98 (memo m98)
theorem ok_Fs2e18:jao Tryz.prog Fs2e18:=jak ok_Fs2e17 pk98
def Fs2e19:Env:=Fs2e18.add 187 (sp2 Px.s141)
theorem ok_Fs2e19:jao Tryz.prog Fs2e19:=jak ok_Fs2e18 (jcw Ff.ok187)
def Fs2e20:Env:=Fs2e19.add 87 (sp2 Ff.s87)
theorem ok_Fs2e20:jao Tryz.prog Fs2e20:=jak ok_Fs2e19 (jcw Ff.ok87)
def Fs2e21:Env:=Fs2e20.add 80 (sp2 Ff.s80)
theorem ok_Fs2e21:jao Tryz.prog Fs2e21:=jak ok_Fs2e20 (jcw Ff.ok80)
theorem fn165:Fn1 Tryz.prog 165 Tryz.f165:= .m Tryz.func165
def Fs2e22:Env:=Fs2e21.addG 165 (inlQ Tryz.prog Fs2e21 noL Tryz.f165)
theorem ok_Fs2e22:jao Tryz.prog Fs2e22:=jaq ok_Fs2e21 (jat ok_Fs2e21 hmix fn165 jai)
theorem fn121:Fn1 Tryz.prog 121 Tryz.f121:= .m Tryz.func121
def Fs2e23:Env:=Fs2e22.addG 121 (inlQ Tryz.prog Fs2e22 noL Tryz.f121)
theorem ok_Fs2e23:jao Tryz.prog Fs2e23:=jaq ok_Fs2e22 (jat ok_Fs2e22 hmix fn121 jai)
theorem fn188:Fn1 Tryz.prog 188 Tryz.f188:= .m Tryz.func188
def Fs2e24:Env:=Fs2e23.addG 188 (inlQ Tryz.prog Fs2e23 noL Tryz.f188)
theorem ok_Fs2e24:jao Tryz.prog Fs2e24:=jaq ok_Fs2e23 (jat ok_Fs2e23 hmix fn188 jai)
theorem fn141:Fn1 Tryz.prog 141 Tryz.f141:= .m Tryz.func141
def Fs2e25:Env:=Fs2e24.addG 141 (inlQ Tryz.prog Fs2e24 noL Tryz.f141)
theorem ok_Fs2e25:jao Tryz.prog Fs2e25:=jaq ok_Fs2e24 (jat ok_Fs2e24 hmix fn141 jai)
theorem fn97:Fn1 Tryz.prog 97 Tryz.f97:= .m Tryz.func97
def Fs2e26:Env:=Fs2e25.addG 97 (inlQ Tryz.prog Fs2e25 noL Tryz.f97)
theorem ok_Fs2e26:jao Tryz.prog Fs2e26:=jaq ok_Fs2e25 (jat ok_Fs2e25 hmix fn97 jai)
theorem fn100:Fn1 Tryz.prog 100 Tryz.f100:= .m Tryz.func100
def m100:List (U×Value):=[([.agg ⟨[.int .i64 3,.int .i64 6,.int .i64 2,.string ⟨#[]⟩]⟩,.string ⟨#[32,32,32,49,50,53]⟩],.agg ⟨[.int .i64 125,.string ⟨#[]⟩,.int .i64 1,.int .i64 9,.int .i64 2,.bool false,.string ⟨#[]⟩,.bool false]⟩),([.agg ⟨[.int .i64 3,.int .i64 6,.int .i64 2,.string ⟨#[]⟩]⟩,.string ⟨#[49,46,50,46,51,32]⟩],.agg ⟨[.int .i64 0,.string ⟨#[]⟩,.int .i64 0,.int .i64 0,.int .i64 0,.bool false,.string ⟨#[]⟩,.bool true]⟩)]
theorem pk100:jal Tryz.prog 100 (memo m100):=jan [] ok_Fs2e26 hmix fn100 jai (by kernel_rfl) (by kernel_rfl)
def Fs2e27:Env:=Fs2e26.add 100 (memo m100)
theorem ok_Fs2e27:jao Tryz.prog Fs2e27:=jak ok_Fs2e26 pk100
theorem fn60:Fn1 Tryz.prog 60 Tryz.f60:= .m Tryz.func60
def m60:List (U×Value):=[([.agg ⟨[.int .i64 3,.int .i64 6,.int .i64 2,.string ⟨#[]⟩]⟩,.string ⟨#[32,32,32,49,50,53]⟩,.agg ⟨[.int .i64 1,.int .i64 5,.int .i64 2,.bool false,.string ⟨#[]⟩]⟩],.tuple ⟨[.agg ⟨[.int .i64 125,.string ⟨#[]⟩]⟩,.int .i64 0]⟩),([.agg ⟨[.int .i64 3,.int .i64 6,.int .i64 2,.string ⟨#[]⟩]⟩,.string ⟨#[49,46,50,46,51,32]⟩,.agg ⟨[.int .i64 1,.int .i64 5,.int .i64 2,.bool false,.string ⟨#[]⟩]⟩],.tuple ⟨[.agg ⟨[.int .i64 0,.string ⟨#[]⟩]⟩,.int .i64 4]⟩),([.agg ⟨[.int .i64 1,.int .i64 2,.int .i64 0,.string ⟨#[]⟩]⟩,.string ⟨#[49,50]⟩,.agg ⟨[.int .i64 3,.int .i64 2,.int .i64 0,.bool false,.string ⟨#[]⟩]⟩],.tuple ⟨[.agg ⟨[.int .i64 0,.string ⟨#[49,50]⟩]⟩,.int .i64 0]⟩),([.agg ⟨[.int .i64 1,.int .i64 2,.int .i64 0,.string ⟨#[]⟩]⟩,.string ⟨#[51,52]⟩,.agg ⟨[.int .i64 3,.int .i64 2,.int .i64 0,.bool false,.string ⟨#[]⟩]⟩],.tuple ⟨[.agg ⟨[.int .i64 0,.string ⟨#[51,52]⟩]⟩,.int .i64 0]⟩),([.agg ⟨[.int .i64 1,.int .i64 2,.int .i64 0,.string ⟨#[]⟩]⟩,.string ⟨#[53,54]⟩,.agg ⟨[.int .i64 3,.int .i64 2,.int .i64 0,.bool false,.string ⟨#[]⟩]⟩],.tuple ⟨[.agg ⟨[.int .i64 0,.string ⟨#[53,54]⟩]⟩,.int .i64 0]⟩)]
theorem pk60:jal Tryz.prog 60 (memo m60):=jan [.both .leaf .leaf,.both .leaf .leaf,.both .leaf .leaf,.both .leaf .leaf,.both .leaf .leaf] ok_Fs2e27 hmix fn60 jai (by kernel_rfl) (by kernel_rfl)
def Fs2e28:Env:=Fs2e27.add 60 (memo m60)
theorem ok_Fs2e28:jao Tryz.prog Fs2e28:=jak ok_Fs2e27 pk60
theorem fn28:Fn1 Tryz.prog 28 Tryz.f28:= .m Tryz.func28
def m28:List (U×Value):=[([.agg ⟨[.int .i64 3,.int .i64 6,.int .i64 2,.string ⟨#[]⟩]⟩,.string ⟨#[32,32,32,49,50,53]⟩,.agg ⟨[.int .i64 1,.int .i64 5,.int .i64 2,.bool false,.string ⟨#[]⟩]⟩],.tuple ⟨[.agg ⟨[.int .i64 125,.string ⟨#[]⟩]⟩,.int .i64 0,.int .i64 0]⟩),([.agg ⟨[.int .i64 3,.int .i64 6,.int .i64 2,.string ⟨#[]⟩]⟩,.string ⟨#[49,46,50,46,51,32]⟩,.agg ⟨[.int .i64 1,.int .i64 5,.int .i64 2,.bool false,.string ⟨#[]⟩]⟩],.tuple ⟨[.agg ⟨[.int .i64 0,.string ⟨#[]⟩]⟩,.int .i64 4,.int .i64 0]⟩)]
theorem pk28:jal Tryz.prog 28 (memo m28):=jan [] ok_Fs2e28 hmix fn28 jai (by kernel_rfl) (by kernel_rfl)
def Fs2e29:Env:=Fs2e28.add 28 (memo m28)
theorem ok_Fs2e29:jao Tryz.prog Fs2e29:=jak ok_Fs2e28 pk28
theorem fn88:Fn1 Tryz.prog 88 Tryz.f88:= .m Tryz.func88
def m88:List (U×Value):=[([.string ⟨#[39,105,116,39,39,115,39]⟩],.tuple ⟨[.int .i64 7,.bool true]⟩),([.string ⟨#[39,97,32,98,39,32,39,49,39,66]⟩],.tuple ⟨[.int .i64 5,.bool true]⟩),([.string ⟨#[39,49,39,66]⟩],.tuple ⟨[.int .i64 4,.bool true]⟩)]
theorem pk88:jal Tryz.prog 88 (memo m88):=jan [] ok_Fs2e29 hmix fn88 jai (by kernel_rfl) (by kernel_rfl)
def Fs2e30:Env:=Fs2e29.add 88 (memo m88)
theorem ok_Fs2e30:jao Tryz.prog Fs2e30:=jak ok_Fs2e29 pk88
theorem fn57:Fn1 Tryz.prog 57 Tryz.f57:= .m Tryz.func57
def m57:List (U×Value):=[([.string ⟨#[39,105,116,39,39,115,39]⟩,.agg ⟨[.int .i64 3,.int .i64 6,.int .i64 0,.bool false,.string ⟨#[]⟩]⟩],.tuple ⟨[.agg ⟨[.int .i64 0,.string ⟨#[105,116,39,115,32,32]⟩]⟩,.int .i64 0]⟩)]
theorem pk57:jal Tryz.prog 57 (memo m57):=jan [] ok_Fs2e30 hmix fn57 jai (by kernel_rfl) (by kernel_rfl)
def Fs2e31:Env:=Fs2e30.add 57 (memo m57)
theorem ok_Fs2e31:jao Tryz.prog Fs2e31:=jak ok_Fs2e30 pk57
theorem fn30:Fn1 Tryz.prog 30 Tryz.f30:= .m Tryz.func30
def m30:List (U×Value):=[([.string ⟨#[39,105,116,39,39,115,39]⟩,.agg ⟨[.int .i64 3,.int .i64 6,.int .i64 0,.bool false,.string ⟨#[]⟩]⟩],.tuple ⟨[.agg ⟨[.int .i64 0,.string ⟨#[105,116,39,115,32,32]⟩]⟩,.int .i64 0,.int .i64 0]⟩)]
theorem pk30:jal Tryz.prog 30 (memo m30):=jan [] ok_Fs2e31 hmix fn30 jai (by kernel_rfl) (by kernel_rfl)
def Fs2e32:Env:=Fs2e31.add 30 (memo m30)
theorem ok_Fs2e32:jao Tryz.prog Fs2e32:=jak ok_Fs2e31 pk30
def Fs2e33:Env:=Fs2e32.addG 134 Ff.h134
theorem ok_Fs2e33:jao Tryz.prog Fs2e33:=jaq ok_Fs2e32 Ff.gen134
def Fs2e34:Env:=Fs2e33.addG 54 Ff.h54
theorem ok_Fs2e34:jao Tryz.prog Fs2e34:=jaq ok_Fs2e33 Ff.gen54
def Fs2e35:Env:=Fs2e34.add 53 (Ff.s53)
theorem ok_Fs2e35:jao Tryz.prog Fs2e35:=jak ok_Fs2e34 Ff.ok53
theorem fn78:Fn1 Tryz.prog 78 Tryz.f78:= .m Tryz.func78
def Fs2e36:Env:=Fs2e35.addG 78 (inlQ Tryz.prog Fs2e35 noL Tryz.f78)
theorem ok_Fs2e36:jao Tryz.prog Fs2e36:=jaq ok_Fs2e35 (jat ok_Fs2e35 hmix fn78 jai)
def Fs2e37:Env:=Fs2e36.add 85 (Ff.s85)
theorem ok_Fs2e37:jao Tryz.prog Fs2e37:=jak ok_Fs2e36 (jcw Ff.ok85)
def Fs2e38:Env:=Fs2e37.add 63 (Ff.s63)
theorem ok_Fs2e38:jao Tryz.prog Fs2e38:=jak ok_Fs2e37 (jcw Ff.ok63)
def Fs2e39:Env:=Fs2e38.add 61 (Ff.s61)
theorem ok_Fs2e39:jao Tryz.prog Fs2e39:=jak ok_Fs2e38 (jcw Ff.ok61)
theorem fn84:Fn1 Tryz.prog 84 Tryz.f84:= .m Tryz.func84
def Fs2e40:Env:=Fs2e39.addG 84 (inlQ Tryz.prog Fs2e39 noL Tryz.f84)
theorem ok_Fs2e40:jao Tryz.prog Fs2e40:=jaq ok_Fs2e39 (jat ok_Fs2e39 hmix fn84 jai)
theorem fn86:Fn1 Tryz.prog 86 Tryz.f86:= .m Tryz.func86
def Fs2e41:Env:=Fs2e40.addG 86 (inlQ Tryz.prog Fs2e40 noL Tryz.f86)
theorem ok_Fs2e41:jao Tryz.prog Fs2e41:=jaq ok_Fs2e40 (jat ok_Fs2e40 hmix fn86 jai)
theorem fn56:Fn1 Tryz.prog 56 Tryz.f56:= .m Tryz.func56
def Fs2e42:Env:=Fs2e41.addG 56 (inlQ Tryz.prog Fs2e41 noL Tryz.f56)
theorem ok_Fs2e42:jao Tryz.prog Fs2e42:=jaq ok_Fs2e41 (jat ok_Fs2e41 hmix fn56 jai)
theorem fn20:Fn1 Tryz.prog 20 Tryz.f20:= .m Tryz.func20
def Fs2e43:Env:=Fs2e42.addG 20 (inlQ Tryz.prog Fs2e42 noL Tryz.f20)
theorem ok_Fs2e43:jao Tryz.prog Fs2e43:=jaq ok_Fs2e42 (jat ok_Fs2e42 hmix fn20 jai)
theorem fn29:Fn1 Tryz.prog 29 Tryz.f29:= .m Tryz.func29
def Fs2e44:Env:=Fs2e43.addG 29 (inlQ Tryz.prog Fs2e43 noL Tryz.f29)
theorem ok_Fs2e44:jao Tryz.prog Fs2e44:=jaq ok_Fs2e43 (jat ok_Fs2e43 hmix fn29 jai)
theorem fn31:Fn1 Tryz.prog 31 Tryz.f31:= .m Tryz.func31
def Fs2e45:Env:=Fs2e44.addG 31 (inlQ Tryz.prog Fs2e44 noL Tryz.f31)
theorem ok_Fs2e45:jao Tryz.prog Fs2e45:=jaq ok_Fs2e44 (jat ok_Fs2e44 hmix fn31 jai)
theorem fn94:Fn1 Tryz.prog 94 Tryz.f94:= .m Tryz.func94
def Fs2e46:Env:=Fs2e45.addG 94 (inlQ Tryz.prog Fs2e45 noL Tryz.f94)
theorem ok_Fs2e46:jao Tryz.prog Fs2e46:=jaq ok_Fs2e45 (jat ok_Fs2e45 hmix fn94 jai)
theorem fn95:Fn1 Tryz.prog 95 Tryz.f95:= .m Tryz.func95
def Fs2e47:Env:=Fs2e46.addG 95 (inlQ Tryz.prog Fs2e46 noL Tryz.f95)
theorem ok_Fs2e47:jao Tryz.prog Fs2e47:=jaq ok_Fs2e46 (jat ok_Fs2e46 hmix fn95 jai)
theorem fn96:Fn1 Tryz.prog 96 Tryz.f96:= .m Tryz.func96
def Fs2e48:Env:=Fs2e47.addG 96 (inlQ Tryz.prog Fs2e47 noL Tryz.f96)
theorem ok_Fs2e48:jao Tryz.prog Fs2e48:=jaq ok_Fs2e47 (jat ok_Fs2e47 hmix fn96 jai)
theorem fn58:Fn1 Tryz.prog 58 Tryz.f58:= .m Tryz.func58
def Fs2e49:Env:=Fs2e48.addG 58 (inlQ Tryz.prog Fs2e48 noL Tryz.f58)
theorem ok_Fs2e49:jao Tryz.prog Fs2e49:=jaq ok_Fs2e48 (jat ok_Fs2e48 hmix fn58 jai)
theorem fn59:Fn1 Tryz.prog 59 Tryz.f59:= .m Tryz.func59
def Fs2e50:Env:=Fs2e49.addG 59 (inlQ Tryz.prog Fs2e49 noL Tryz.f59)
theorem ok_Fs2e50:jao Tryz.prog Fs2e50:=jaq ok_Fs2e49 (jat ok_Fs2e49 hmix fn59 jai)
theorem fn43:Fn1 Tryz.prog 43 Tryz.f43:= .m Tryz.func43
def Fs2e51:Env:=Fs2e50.addG 43 (inlQ Tryz.prog Fs2e50 noL Tryz.f43)
theorem ok_Fs2e51:jao Tryz.prog Fs2e51:=jaq ok_Fs2e50 (jat ok_Fs2e50 hmix fn43 jai)
theorem fn77:Fn1 Tryz.prog 77 Tryz.f77:= .m Tryz.func77
def Fs2e52:Env:=Fs2e51.addG 77 (inlQ Tryz.prog Fs2e51 noL Tryz.f77)
theorem ok_Fs2e52:jao Tryz.prog Fs2e52:=jaq ok_Fs2e51 (jat ok_Fs2e51 hmix fn77 jai)
theorem fn41:Fn1 Tryz.prog 41 Tryz.f41:= .m Tryz.func41
def Fs2e53:Env:=Fs2e52.addG 41 (inlQ Tryz.prog Fs2e52 noL Tryz.f41)
theorem ok_Fs2e53:jao Tryz.prog Fs2e53:=jaq ok_Fs2e52 (jat ok_Fs2e52 hmix fn41 jai)
theorem fn12:Fn1 Tryz.prog 12 Tryz.f12:= .m Tryz.func12
def Fs2e54:Env:=Fs2e53.addG 12 (inlQ Tryz.prog Fs2e53 noL Tryz.f12)
theorem ok_Fs2e54:jao Tryz.prog Fs2e54:=jaq ok_Fs2e53 (jat ok_Fs2e53 hmix fn12 jai)
theorem fn45:Fn1 Tryz.prog 45 Tryz.f45:= .m Tryz.func45
def Fs2e55:Env:=Fs2e54.addG 45 (inlQ Tryz.prog Fs2e54 noL Tryz.f45)
theorem ok_Fs2e55:jao Tryz.prog Fs2e55:=jaq ok_Fs2e54 (jat ok_Fs2e54 hmix fn45 jai)
theorem fn46:Fn1 Tryz.prog 46 Tryz.f46:= .m Tryz.func46
def Fs2e56:Env:=Fs2e55.addG 46 (inlQ Tryz.prog Fs2e55 noL Tryz.f46)
theorem ok_Fs2e56:jao Tryz.prog Fs2e56:=jaq ok_Fs2e55 (jat ok_Fs2e55 hmix fn46 jai)
theorem fn22:Fn1 Tryz.prog 22 Tryz.f22:= .m Tryz.func22
def Fs2e57:Env:=Fs2e56.addG 22 (inlQ Tryz.prog Fs2e56 noL Tryz.f22)
theorem ok_Fs2e57:jao Tryz.prog Fs2e57:=jaq ok_Fs2e56 (jat ok_Fs2e56 hmix fn22 jai)
theorem fn24:Fn1 Tryz.prog 24 Tryz.f24:= .m Tryz.func24
def Fs2e58:Env:=Fs2e57.addG 24 (inlQ Tryz.prog Fs2e57 noL Tryz.f24)
theorem ok_Fs2e58:jao Tryz.prog Fs2e58:=jaq ok_Fs2e57 (jat ok_Fs2e57 hmix fn24 jai)
theorem fn17:Fn1 Tryz.prog 17 Tryz.f17:= .m Tryz.func17
def Fs2e59:Env:=Fs2e58.addG 17 (inlQ Tryz.prog Fs2e58 noL Tryz.f17)
theorem ok_Fs2e59:jao Tryz.prog Fs2e59:=jaq ok_Fs2e58 (jat ok_Fs2e58 hmix fn17 jai)
theorem fn21:Fn1 Tryz.prog 21 Tryz.f21:= .m Tryz.func21
def Fs2e60:Env:=Fs2e59.addG 21 (inlQ Tryz.prog Fs2e59 noL Tryz.f21)
theorem ok_Fs2e60:jao Tryz.prog Fs2e60:=jaq ok_Fs2e59 (jat ok_Fs2e59 hmix fn21 jai)
theorem fn32:Fn1 Tryz.prog 32 Tryz.f32:= .m Tryz.func32
def Fs2e61:Env:=Fs2e60.addG 32 (inlQ Tryz.prog Fs2e60 noL Tryz.f32)
theorem ok_Fs2e61:jao Tryz.prog Fs2e61:=jaq ok_Fs2e60 (jat ok_Fs2e60 hmix fn32 jai)
theorem fn48:Fn1 Tryz.prog 48 Tryz.f48:= .m Tryz.func48
def Fs2e62:Env:=Fs2e61.addG 48 (inlQ Tryz.prog Fs2e61 noL Tryz.f48)
theorem ok_Fs2e62:jao Tryz.prog Fs2e62:=jaq ok_Fs2e61 (jat ok_Fs2e61 hmix fn48 jai)
theorem fn52:Fn1 Tryz.prog 52 Tryz.f52:= .m Tryz.func52
def Fs2e63:Env:=Fs2e62.addG 52 (inlQ Tryz.prog Fs2e62 noL Tryz.f52)
theorem ok_Fs2e63:jao Tryz.prog Fs2e63:=jaq ok_Fs2e62 (jat ok_Fs2e62 hmix fn52 jai)
theorem fn79:Fn1 Tryz.prog 79 Tryz.f79:= .m Tryz.func79
def Fs2e64:Env:=Fs2e63.addG 79 (inlQ Tryz.prog Fs2e63 noL Tryz.f79)
theorem ok_Fs2e64:jao Tryz.prog Fs2e64:=jaq ok_Fs2e63 (jat ok_Fs2e63 hmix fn79 jai)
theorem fn81:Fn1 Tryz.prog 81 Tryz.f81:= .m Tryz.func81
def Fs2e65:Env:=Fs2e64.addG 81 (inlQ Tryz.prog Fs2e64 noL Tryz.f81)
theorem ok_Fs2e65:jao Tryz.prog Fs2e65:=jaq ok_Fs2e64 (jat ok_Fs2e64 hmix fn81 jai)
theorem fn82:Fn1 Tryz.prog 82 Tryz.f82:= .m Tryz.func82
def Fs2e66:Env:=Fs2e65.addG 82 (inlQ Tryz.prog Fs2e65 noL Tryz.f82)
theorem ok_Fs2e66:jao Tryz.prog Fs2e66:=jaq ok_Fs2e65 (jat ok_Fs2e65 hmix fn82 jai)
theorem fn83:Fn1 Tryz.prog 83 Tryz.f83:= .m Tryz.func83
def Fs2e67:Env:=Fs2e66.addG 83 (inlQ Tryz.prog Fs2e66 noL Tryz.f83)
theorem ok_Fs2e67:jao Tryz.prog Fs2e67:=jaq ok_Fs2e66 (jat ok_Fs2e66 hmix fn83 jai)
theorem fn51:Fn1 Tryz.prog 51 Tryz.f51:= .m Tryz.func51
def Fs2e68:Env:=Fs2e67.addG 51 (inlQ Tryz.prog Fs2e67 noL Tryz.f51)
theorem ok_Fs2e68:jao Tryz.prog Fs2e68:=jaq ok_Fs2e67 (jat ok_Fs2e67 hmix fn51 jai)
theorem fn49:Fn1 Tryz.prog 49 Tryz.f49:= .m Tryz.func49
def Fs2e69:Env:=Fs2e68.addG 49 (inlQ Tryz.prog Fs2e68 noL Tryz.f49)
theorem ok_Fs2e69:jao Tryz.prog Fs2e69:=jaq ok_Fs2e68 (jat ok_Fs2e68 hmix fn49 jai)
theorem fn19:Fn1 Tryz.prog 19 Tryz.f19:= .m Tryz.func19
def Fs2e70:Env:=Fs2e69.addG 19 (inlQ Tryz.prog Fs2e69 noL Tryz.f19)
theorem ok_Fs2e70:jao Tryz.prog Fs2e70:=jaq ok_Fs2e69 (jat ok_Fs2e69 hmix fn19 jai)
theorem fn25:Fn1 Tryz.prog 25 Tryz.f25:= .m Tryz.func25
def m25:List (U×Value):=[([.int .i64 5,.int .i64 2],.agg ⟨[.int .i64 1,.int .i64 5,.int .i64 2,.bool false,.string ⟨#[]⟩]⟩),([.int .i64 3,.int .i64 1],.agg ⟨[.int .i64 1,.int .i64 3,.int .i64 1,.bool false,.string ⟨#[]⟩]⟩),([.int .i64 4,.int .i64 2],.agg ⟨[.int .i64 1,.int .i64 4,.int .i64 2,.bool false,.string ⟨#[]⟩]⟩)]
theorem pk25:jal Tryz.prog 25 (memo m25):=jan [] ok_Fs2e70 hmix fn25 jai (by kernel_rfl) (by kernel_rfl)
def Fs2e71:Env:=Fs2e70.add 25 (memo m25)
theorem ok_Fs2e71:jao Tryz.prog Fs2e71:=jak ok_Fs2e70 pk25
theorem fn23:Fn1 Tryz.prog 23 Tryz.f23:= .m Tryz.func23
def m23:List (U×Value):=[([.int .i64 1],.agg ⟨[.int .i64 3,.int .i64 1,.int .i64 0,.bool false,.string ⟨#[]⟩]⟩),([.int .i64 2],.agg ⟨[.int .i64 3,.int .i64 2,.int .i64 0,.bool false,.string ⟨#[]⟩]⟩),([.int .i64 6],.agg ⟨[.int .i64 3,.int .i64 6,.int .i64 0,.bool false,.string ⟨#[]⟩]⟩)]
theorem pk23:jal Tryz.prog 23 (memo m23):=jan [] ok_Fs2e71 hmix fn23 jai (by kernel_rfl) (by kernel_rfl)
def Fs2e72:Env:=Fs2e71.add 23 (memo m23)
theorem ok_Fs2e72:jao Tryz.prog Fs2e72:=jak ok_Fs2e71 pk23
theorem fn26:Fn1 Tryz.prog 26 Tryz.f26:= .m Tryz.func26
def m26:List (U×Value):=[([.int .i64 2],.agg ⟨[.int .i64 4,.int .i64 2,.int .i64 0,.bool false,.string ⟨#[]⟩]⟩),([.int .i64 3],.agg ⟨[.int .i64 4,.int .i64 3,.int .i64 0,.bool false,.string ⟨#[]⟩]⟩)]
theorem pk26:jal Tryz.prog 26 (memo m26):=jan [] ok_Fs2e72 hmix fn26 jai (by kernel_rfl) (by kernel_rfl)
def Fs2e73:Env:=Fs2e72.add 26 (memo m26)
theorem ok_Fs2e73:jao Tryz.prog Fs2e73:=jak ok_Fs2e72 pk26
theorem fn6:Fn1 Tryz.prog 6 Tryz.f6:= .m Tryz.func6
def m6:List (U×Value):=[([],.bool true)]
theorem pk6:jal Tryz.prog 6 (memo m6):=jan [.app none 1 1 (.app (some 0) 2 1 (.app (some 0) 3 1 (.app (some 0) 4 1 (.app (some 0) 5 1 (.app none 1 1 (.app (some 0) 2 1 (.app (some 0) 3 1 (.app none 1 1 (.app (some 0) 2 1 (.le 0 (.app none 1 1 (.app (some 0) 2 1 (.app (some 0) 3 1 (.app none 1 4 (.app none 1 1 (.le 0 (.app none 1 1 (.app (some 0) 2 1 (.le 0 (.app none 1 1 (.app (some 0) 2 1 (.app (some 0) 3 1 (.app none 1 1 (.app (some 0) 2 1 (.le 0 (.app none 1 1 (.app (some 0) 2 1 (.app (some 0) 3 1 (.app none 1 1 (.app none 1 1 (.app none 1 4 (.both (.app (some 2) 2 1 (.app (some 0) 3 1 (.app (some 0) 4 1 (.app (some 0) 5 1 (.app (some 0) 6 1 (.app none 1 1 (.app none 1 4 (.both (.app (some 2) 7 1 (.app (some 0) 8 1 (.app (some 0) 9 1 (.app (some 0) 10 1 (.app (some 0) 11 1 (.app (some 0) 12 1 (.both (.le 0 .leaf) (.le 0 .leaf)))))))) (.app (some 2) 7 1 (.app (some 0) 8 1 (.app (some 0) 9 1 (.app (some 0) 10 1 (.app (some 0) 11 1 (.app (some 0) 12 1 (.both (.le 0 .leaf) (.le 0 .leaf)))))))))))))))) (.app (some 2) 2 1 (.app (some 0) 3 1 (.app (some 0) 4 1 (.app (some 0) 5 1 (.app (some 0) 6 1 (.app none 1 1 (.app none 1 4 (.both (.app (some 2) 7 1 (.app (some 0) 8 1 (.app (some 0) 9 1 (.app (some 0) 10 1 (.app (some 0) 11 1 (.app (some 0) 12 1 (.both (.le 0 .leaf) (.le 0 .leaf)))))))) (.app (some 2) 7 1 (.app (some 0) 8 1 (.app (some 0) 9 1 (.app (some 0) 10 1 (.app (some 0) 11 1 (.app (some 0) 12 1 (.both (.le 0 .leaf) (.le 0 .leaf))))))))))))))))))))))))))))))))))))))))))))))))] ok_Fs2e73 hmix fn6 jai (by kernel_rfl) (by kernel_rfl)
end Go.Cs
end
noncomputable section
set_option maxHeartbeats 3200000
set_option maxRecDepth 100000
namespace Go.Ff
open Go Go.Ab Go.Proofs Go.Shelf Go.Px Go.Cv Go.Cx
open Go.Fx (Ty Vl)
variable [Cs.MaxL] -- 3
/-- The tables and the variable. -/
instance (priority:=5000) tabsR:Tabs:={row:=Cs.rowsC,plain:=Cs.tabsC.plain}
theorem jjr{f:FuncId}{s:Ab.Spec}(h: @jal Cs.tabsC Tryz.prog f s): @jal tabsR Tryz.prog f s:=
 ⟨h.1,fun args v N w0 lk ι w hr hs hv=>h.2 args v N w0 lk ι w (@RelM.mk Cs.tabsC N w0 lk ι w hr.below hr.base hr.blk hr.view hr.inj) hs hv⟩
end Go.Ff
end
noncomputable section
set_option maxHeartbeats 3200000
set_option maxRecDepth 100000
namespace Go.Fg
open Go Go.Ab Go.Proofs Go.Shelf Go.Px Go.Cv Go.Cx Go.Ff
open Go.Fx (Ty Vl)
variable [Cs.MaxL] -- 4
theorem RelM.rToB{N:Nat}{w0:World}{m:Lk}{ι:Nm}{w:World}(h: @RelM tabsR N w0 m ι w): @RelM tabsB N w0 m ι w:=
 @RelM.mk tabsB N w0 m ι w h.below ⟨h.base.1,Cs.tabsIn_B h.base.2⟩ h.blk h.view h.inj
theorem RelM.bToR{N:Nat}{w0:World}{m:Lk}{ι:Nm}{w:World}(hb: @TabsIn tabsR N w0)(h: @RelM tabsB N w0 m ι w): @RelM tabsR N w0 m ι w:=
 @RelM.mk tabsR N w0 m ι w (@RelM.below tabsB N w0 m ι w h) ⟨(@RelM.base tabsB N w0 m ι w h).1,hb⟩ (@RelM.blk tabsB N w0 m ι w h) (@RelM.view tabsB N w0 m ι w h) (@RelM.inj tabsB N w0 m ι w h)
theorem jgl{f:FuncId}{s:Ab.Spec}(h: @jal tabsB Tryz.prog f s): @jal tabsR Tryz.prog f s:=jjr (Cs.pureCB h)
theorem genBR{f:FuncId}{h:U→Lk→Nat→(Value→Lk→Nat→Prop)→Prop}(hg: @jef tabsB Tryz.prog f h): @jef tabsR Tryz.prog f h:=by
 obtain⟨h1,h2⟩:=hg;refine⟨h1,fun args m n K hh N w0 ι w hrel hwf hargs=> ?_⟩;exact(h2 args m n K hh N w0 ι w (RelM.rToB hrel) hwf hargs).mono fun e w' ⟨v,m',n',ι',h⟩=>⟨v,m',n',ι',h.1,h.2.1,h.2.2.1,h.2.2.2.1,RelM.bToR hrel.base.2 h.2.2.2.2.1,h.2.2.2.2.2⟩
def hItX:U→Lk→Nat→(Value→Lk→Nat→Prop)→Prop:=fun args m n K=>match Nat.ble n 79 with
 | true=>hItE args m n K
 | false=>False
def rowF(d:U)(m cap:Nat):Bool:=foOK d 0 m&& (Nat.beq d.length (cap*4) && (Nat.ble m cap&&Nat.ble cap 9223372036854775807))
inductive RwF where
 | nil
 | own (d:U) (m cap:Nat)
def RwF.v(q:Nat):RwF→Value
 | .nil=> .slice none 0 0
 | .own _ m cap=> .slice (some ⟨q,0,some 1⟩) m cap
def RwF.b:RwF→Option Blk
 | .nil=>none
 | .own d _ _=>some ⟨d,30,true⟩
def RwF.z:RwF→List Fo
 | .nil=> []
 | .own d m _=>foA d 0 m
def RwF.ok:RwF→Bool
 | .nil=>true
 | .own d m cap=>rowF d m cap
def RwF.is:RwF→Bool
 | .nil=>false
 | .own _ _ _=>true
structure CnIs (c:U)(off n:Nat)(i r z:Int):Prop where
 eq:r+(((foA c off n).drop i.toNat).countP isD:Nat)=z
structure ItsIs (l:List Fo)(z:Int)(d:U)(m:Nat):Prop where
 eq:foA d 0 m=its isD l z.toNat
theorem itX_imp(args:U)(m:Lk)(n:Nat)(K:Value→Lk→Nat→Prop)(h:hItX args m n K):jh8 args m n K:=by
 unfold hItX at h;split at h
 ·exact itE_imp args m n K h
 ·exact h.elim
theorem ji9(l:List Fo):gN l≤l.length:=by
 rw[gN,jeu];exact List.countP_le_length
theorem jgu{d:U}{m cap:Nat}:rowF d m cap=true↔ ∃l r,d=fcL l++r∧l.length=m∧jas r=true∧m*4+r.length=cap*4∧cap≤9223372036854775807∧(∀f∈l,f.s.size≤9223372036854775807)∧foA d 0 m=l:=by
 simp only[rowF,jaf,Nat.ble_eq,Nat.beq_eq];constructor
 ·rintro ⟨h1,h2,h3,h4⟩;obtain⟨q1,⟨r,q2⟩,q3,q4⟩:=jdy.1 h1;rw[List.drop_zero]at q2;refine⟨foA d 0 m,r,q2,q1,?_,?_,h4,q4,rfl⟩
  ·rw[q2]at q3;exact(jcx.1 q3).2
  ·have:=congrArg List.length q2;rw[List.length_append,jbq]at this;omega
 ·rintro ⟨l,r,rfl,rfl,h1,h2,h3,h4,h5⟩;refine⟨jdx h1 h4,?_,by omega,h3⟩;rw[List.length_append,jbq];omega
theorem rowF_of{l:List Fo}{r:U}{cap:Nat}(h:ja0 r cap l.length 4=true)(hs:∀f∈l,f.s.size≤9223372036854775807):rowF (fcL l++r) l.length cap=true:=by
 obtain⟨h1,h2,h3,h4⟩:=jbl h;exact jgu.2 ⟨l,r,rfl,rfl,h1,by omega,h4,hs,jeb l r⟩
theorem jdi{d:U}{m cap:Nat}(h:rowF d m cap=true):jas d=true:=by
 simp only[rowF,jaf]at h;exact(jcd h.1).2.1
def Y0:Env:=((((Env.nil.add 6 (memo Cs.m6)).add 11 K42.s11).add 12 K43.s12).add 14 s14).addG 13 hItS
def Y1:Env:=((((Env.nil.add 6 (memo Cs.m6)).add 11 K42.s11).add 12 K43.s12).add 14 s14).addG 13 hItX
theorem ok_Y0:jao Tryz.prog Y0:=jaq (jak (jak (jak (jak jbr (jjr Cs.pk6)) (jgl K42.ok11)) (jgl K43.ok12)) (jgl ok14)) (gen_imp (genBR gen13) itS_imp)
theorem ok_Y1:jao Tryz.prog Y1:=jaq (jak (jak (jak (jak jbr (jjr Cs.pk6)) (jgl K42.ok11)) (jgl K43.ok12)) (jgl ok14)) (gen_imp (genBR gen13) itX_imp)
def V4_0:U×Nat×Nat×Nat×Nat×Nat×Nat×Nat×Int×Bool×Int×Int×Int→U:=fun(c,ty,off,n,cap,off1,n1,cap1,i0,b,r,z,i)=> [.slice (some ⟨0,off,some 1⟩) n cap,I i0,B b,I r,.slice (some ⟨0,off1,some 1⟩) n1 cap1,I z,I i,.tuple ⟨[]⟩]
def B4_0:U×Nat×Nat×Nat×Nat×Nat×Nat×Nat×Int×Bool×Int×Int×Int→F:=fun(c,ty,off,n,cap,off1,n1,cap1,i0,b,r,z,i)=> [some ⟨c,ty,false⟩]
def S4_0:LSpec (U×Nat×Nat×Nat×Nat×Nat×Nat×Nat×Int×Bool×Int×Int×Int) where
 live:=[0,1,4,5,30,31,32,129]
 mid:=[0]
 n:=60
 dec vs bs:=match vs,bs with | [.slice (some ⟨0,off,some 1⟩) n cap,.int .i64 i0,.bool b,.int .i64 r,.slice (some ⟨0,off1,some 1⟩) n1 cap1,.int .i64 z,.int .i64 i,.tuple ⟨[]⟩],[some ⟨c,ty,false⟩]=>some (c,ty,off,n,cap,off1,n1,cap1,i0,b,r,z,i) | _,_=>none
 pre:=fun(c,ty,off,n,cap,off1,n1,cap1,i0,b,r,z,i)=>foOK c off n&&decide (n≤1000000∧off1=off∧n1=n∧cap1=cap∧z=n∧0≤i∧i≤n∧0≤r∧r≤i)
 fin:=fun(c,ty,off,n,cap,off1,n1,cap1,i0,b,r,z,i) Z=>∀r':Int,CnIs c off n i r r'→Z (.exit 0) [.slice (some ⟨0,off,some 1⟩) n cap,I i0,B b,I r',.slice (some ⟨0,off1,some 1⟩) n1 cap1,I z,I z,.tuple ⟨[]⟩] [some ⟨c,ty,false⟩]
theorem r4_0(c:U)(ty:Nat)(off:Nat)(n:Nat)(cap:Nat)(off1:Nat)(n1:Nat)(cap1:Nat)(i0:Int)(b:Bool)(r:Int)(z:Int)(i:Int)(jk:Tmps)(R:Exit→U→F→Prop):(jb7 Tryz.prog Y0 noL Tryz.f4.ntmps (jbh Tryz.f4 0) (tl S4_0.live (V4_0 (c,ty,off,n,cap,off1,n1,cap1,i0,b,r,z,i)) jk) (ml S4_0.mid (B4_0 (c,ty,off,n,cap,off1,n1,cap1,i0,b,r,z,i))) S4_0.n fun e t' m' _=>R e (List.map t' S4_0.live) (List.map m' S4_0.mid))=(bif am i z then bv (Fg.K42.dz i c off1) i n1 (bif decide (jaj c (Fg.K42.co i off1)≤4)then R .normal [Fg.K42.aw off n cap,ak i0,B b,I (al r 1),Fg.K42.aw off1 n1 cap1,ak z,I (al i 1),ax []] [some (.mk c ty false)]else R .normal [Fg.K42.aw off n cap,ak i0,B b,ak r,Fg.K42.aw off1 n1 cap1,ak z,I (al i 1),ax []] [some (.mk c ty false)])else R (.exit 0) [Fg.K42.aw off n cap,ak i0,B b,ak r,Fg.K42.aw off1 n1 cap1,ak z,ak i,ax []] [some (.mk c ty false)]):=by kernel_rfl
theorem l4_0:∀t m n K,S4_0.hQ t m n K→Ab.Sem Tryz.prog Tryz.f4.ntmps (.loop (jbh Tryz.f4 0)) t m n K:=by
 refine jdm ok_Y0 hmix (by kernel_rfl) (jbo _) S4_0 V4_0 B4_0 (fun(c,ty,off,n,cap,off1,n1,cap1,i0,b,r,z,i)=>(n-i).toNat) ?_ ?_ ?_
 ·intro vs bs s h;simp only[S4_0]at h;split at h
  all_goals first | (cases h;exact⟨rfl,rfl⟩) | cases h | (split at h<;>first | (rename_i hq;cases h;have hq:=jah hq;subst hq;exact⟨rfl,rfl⟩) | (rename_i hq;cases h;simp only[cnd,jaf,Nat.beq_eq]at hq;obtain⟨rfl,rfl,rfl⟩:=hq;exact⟨rfl,rfl⟩) | cases h)
 ·exact fun k ⟨c,ty,off,n,cap,off1,n1,cap1,i0,b,r,z,i⟩ ⟨c',ty',off',n',cap',off1',n1',cap1',i0',b',r',z',i'⟩ hp h=>by
   simp only[S4_0,jaf]at hp;have hq:=jbv (n:=k) (jcd hp.1).2.1;simp_all[V4_0,B4_0,jbk,jax,idsL,ids]
 ·intro⟨c,ty,off,n,cap,off1,n1,cap1,i0,b,r,z,i⟩ jk Z hp hf;rw[r4_0];delta ax ak av Fg.K42.aw bx cu bv al Fg.K42.co Fg.K42.e7 Fg.K42.dz am;simp only[S4_0]at hp hf;simp only[jaf,jae]at hp;obtain⟨ho,h1,x1,x2,x3,rfl,h3,h4,h5,h6⟩:=hp
  replace x1:=x1.symm
  replace x2:=x2.symm
  replace x3:=x3.symm
  subst x1 x2 x3;obtain⟨hl,hpl,hat⟩:=jcd ho;apply cond_intro<;>intro h
  ·have h:=jab h;obtain⟨f,hf1,hsz,q1,q2,q3,q4,e1,e2,e3,e4⟩:=hat i.toNat (by omega);rw[q1,q2,q3,q4,e1];have hd:=jev hf1;have hi:(i+1).toNat=i.toNat+1:=by omega
   refine c_t (jaa (by omega)) (c_t rfl (cond_intro (fun q=> ?_) (fun q=> ?_)))
   ·have q:isD f=true:=q;rw[w64 (by omega),w64 (by omega)];refine⟨(c,ty,off,n,cap,off,n,cap,i0,b,r+1,n,i+1),rfl,rfl,?_,by simp only;omega,?_⟩
    ·simp only[S4_0,jaf,jae];exact⟨ho,h1,trivial,trivial,trivial,trivial,by omega,by omega,by omega,by omega⟩
    ·simp only[S4_0];refine fun r' hr'=>hf r' ⟨?_⟩
     rw[hd,List.countP_cons_of_pos q,←hr'.eq,hi];simp only[Int.natCast_add];omega
   ·have q:isD f=false:=q;rw[w64 (by omega)];refine⟨(c,ty,off,n,cap,off,n,cap,i0,b,r,n,i+1),rfl,rfl,?_,by simp only;omega,?_⟩
    ·simp only[S4_0,jaf,jae];exact⟨ho,h1,trivial,trivial,trivial,trivial,by omega,by omega,by omega,by omega⟩
    ·simp only[S4_0];refine fun r' hr'=>hf r' ⟨?_⟩
     rw[hd,List.countP_cons_of_neg (by rw[q];simp),←hr'.eq,hi]
  ·have h:=jac h;obtain rfl:i=n:=by omega
   exact hf r ⟨by rw[Int.toNat_natCast,List.drop_eq_nil_of_le (by omega)];simp⟩
def V4_2:U×Nat×Nat×Nat×Nat×Bool×Int×RwF×Int×Int→U:=fun(c,ty,off,n,cap,b,r,o,z,j)=> [.slice (some ⟨0,off,some 1⟩) n cap,B b,I r,o.v 300,I z,I j]
def B4_2:U×Nat×Nat×Nat×Nat×Bool×Int×RwF×Int×Int→F:=fun(c,ty,off,n,cap,b,r,o,z,j)=> [some ⟨c,ty,false⟩,o.b]
def S4_2:LSpecA (U×Nat×Nat×Nat×Nat×Bool×Int×RwF×Int×Int) where
 live:=[0,4,5,14,130,131]
 mid:=[0,300]
 n:=320
 ap:=[(.tmp 14,300)]
 dec vs bs:=match vs,bs with
  | [.slice (some ⟨0,off,some 1⟩) n cap,.bool b,.int .i64 r,.slice none 0 0,.int .i64 z,.int .i64 j],[some ⟨c,ty,false⟩,none]=>some (c,ty,off,n,cap,b,r,.nil,z,j)
  | [.slice (some ⟨0,off,some 1⟩) n cap,.bool b,.int .i64 r,.slice (some ⟨300,0,some 1⟩) m cp,.int .i64 z,.int .i64 j],[some ⟨c,ty,false⟩,some ⟨d,30,true⟩]=>some (c,ty,off,n,cap,b,r,.own d m cp,z,j)
  | _,_=>none
 pre:=fun(c,ty,off,n,cap,b,r,o,z,j)=>o.ok&& ((o.is || decide (j<z)) && (foOK c off n&& (decide (n≤16∧n≤cap∧0≤j∧j≤z∧z=gN (foA c off n)∧eIt (foA c off n) 0=0) &&foEq o.z (its isD (foA c off n) j.toNat))))
 fin:=fun(c,ty,off,n,cap,b,r,o,z,j) Z=>∀(d':U)(m' cp':Nat),rowF d' m' cp'=true→ItsIs (foA c off n) z d' m'→Z (.exit 2) [.slice (some ⟨0,off,some 1⟩) n cap,B b,I r,(.slice (some ⟨300,0,some 1⟩) m' cp'),I z,I z] [some ⟨c,ty,false⟩,some ⟨d',30,true⟩]
def jz(k:Bool)(e:Exit→U→F→Prop)(l:Int)(c d m:U)(a b f g i j:Nat):Prop:=∀h:U,a0 h a b 4→bw (er [(336,300)] c (d++h)) e [some (.mk (rlbL [(336,300)] c) f false),some (.mk (rlbL [(336,300)] (d++h)) 30 true)] (Fg.K42.aw g i j:: .bool k::ak l::m)
def g8(a b c:Nat):Bool:=decide (a≤1000000∧b≤c)
def j6(e:Int)(c:U)(a b d:Nat):Bool:=g8 a a b&&Fg.okIt (Fg.foA c d a) e
def g0(d:Int)(a:U)(b c e:Nat):Bool:=Fg.foOK a b c&&j6 d a c e b
theorem r4_2n(c:U)(ty:Nat)(off:Nat)(n:Nat)(cap:Nat)(b:Bool)(r:Int)(z:Int)(j:Int)(jk:Tmps)(R:Exit→U→F→Prop):(jb7 Tryz.prog Y0 noL Tryz.f4.ntmps (jbh Tryz.f4 2) (tl S4_2.live (V4_2 (c,ty,off,n,cap,b,r,.nil,z,j)) jk) (ml S4_2.mid (B4_2 (c,ty,off,n,cap,b,r,.nil,z,j))) S4_2.n fun e t' m' _=>S4_2.out R e t' m')=(bif am j z then bif g0 j c off n cap then∀a:List Ff.Fo,∀d:Nat,∀e:Nat,∀f:U,Fg.ItIs (Fg.foA c off n) j a→a.length=d→a0 f e d 4→b8 (gn (a8 a f) 0 d) (jb1 d 40) (d.beq 0) (bw (bm [] c) R [some (.mk (aq c) ty false),none] (Fg.K42.aw off n cap::B b::ak r::bu::dp z j)) (∀g:Nat,jz b R r c (((a8 a f).drop 0).take (d*4)) (b5 z j 300 0 d g) g d ty off n cap)else False else bt (bm [] c) R [some (.mk (aq c) ty false),none] [Fg.K42.aw off n cap,B b,ak r,bu,ak z,ak j] 2):=by kernel_rfl
theorem r4_2o(c:U)(ty:Nat)(off:Nat)(n:Nat)(cap:Nat)(b:Bool)(r:Int)(d:U)(m:Nat)(cp:Nat)(z:Int)(j:Int)(jk:Tmps)(R:Exit→U→F→Prop):(jb7 Tryz.prog Y0 noL Tryz.f4.ntmps (jbh Tryz.f4 2) (tl S4_2.live (V4_2 (c,ty,off,n,cap,b,r,.own d m cp,z,j)) jk) (ml S4_2.mid (B4_2 (c,ty,off,n,cap,b,r,.own d m cp,z,j))) S4_2.n fun e t' m' _=>S4_2.out R e t' m')=(bif am j z then bif g0 j c off n cap then∀a:List Ff.Fo,∀e:Nat,∀f:Nat,∀g:U,Fg.ItIs (Fg.foA c off n) j a→a.length=e→a0 g f e 4→gm (gn (a8 a g) 0 e) d cp 4 m e 40 (∀h:Nat,jz b R r c (d.take (m*4)++((a8 a g).drop 0).take (e*4)) (au 300 0 (m+e) h::dp z j) h (m+e) ty off n cap)else False else bt (er [(300,300)] c d) R [some (.mk (rlbL [(300,300)] c) ty false),c9 d 300 300 30] (Fg.K42.aw off n cap::B b::ak r::bp z j 300 0 m cp) 2):=by kernel_rfl
theorem l4_2:∀t m n K,S4_2.hA t m n K→Ab.Sem Tryz.prog Tryz.f4.ntmps (.loop (jbh Tryz.f4 2)) t m n K:=by
 refine jbz ok_Y0 hmix (by kernel_rfl) (jbo _) S4_2 V4_2 B4_2 (fun(c,ty,off,n,cap,b,r,o,z,j)=>(z-j).toNat) ?_ ?_ ?_
 ·intro vs bs s h;simp only[S4_2]at h;split at h
  all_goals first | (cases h;exact⟨rfl,rfl⟩) | cases h | (split at h<;>first | (rename_i hq;cases h;have hq:=jah hq;subst hq;exact⟨rfl,rfl⟩) | (rename_i hq;cases h;simp only[cnd,jaf,Nat.beq_eq]at hq;obtain⟨rfl,rfl,rfl⟩:=hq;exact⟨rfl,rfl⟩) | cases h)
 ·exact fun⟨c,ty,off,n,cap,b,r,o,z,j⟩ hp=>by
   simp only[S4_2,jaf]at hp;have hq:=jar (jcd hp.2.2.1).2.1;cases o with
   | nil=>simp[V4_2,B4_2,S4_2,jax,jbk,idsL,ids,RwF.v,RwF.b,hq]
   | own d m cap=>simp[V4_2,B4_2,S4_2,jax,jbk,idsL,ids,RwF.v,RwF.b,hq,jar (jdi hp.1)]
 ·intro⟨c,ty,off,n,cap,b,r,o,z,j⟩ jk Z hp hf;simp only[S4_2]at hp hf;simp only[jaf,jae]at hp;obtain⟨hr,his,ho,⟨h1,h2,h3,h4,h5,h6⟩,h7⟩:=hp;obtain⟨hl,hpl,_⟩:=jcd ho;have ec:∀ps,rlbL ps c=c:=fun ps=>rlbL_plain ps hpl
  have gc:∀ps,jau ps c=true:=fun ps=>goodL_plain hpl
  have h7:=jdz.1 h7;have hsz:∀f∈foA c off n,f.s.size≤9223372036854775807:=(jdy.1 ho).2.2.2
  have hE:j<z→eIt (foA c off n) j=0:=fun hj=>by
   have hgl:gN (foA c off n)≤n:=Nat.le_trans (ji9 _) (Nat.le_of_eq hl);unfold eIt at h6 ⊢;split at h6
   ·cases h6
   ·split at h6
    ·cases h6
    ·rename_i u1 u2;rw[if_neg u1,if_neg (by omega)]
  have hI:∀o,ItIs (foA c off n) j o→itL isD (foA c off n) j.toNat=o:=fun o h=>h.eq
  have hmem:∀o,ItIs (foA c off n) j o→ ∀f∈o,f.s.size≤9223372036854775807:=fun o h f hf=>by
   rw[←hI o h]at hf;refine hsz f ?_;rw[←jcc isD (foA c off n)];unfold itL at hf;rcases List.mem_append.1 hf with hf | hf
   ·split at hf
    ·exact List.mem_append_right _ hf
    ·cases hf
   ·refine List.mem_append_left _ (List.mem_flatten.2 ?_);rw[List.getD_eq_getElem?_getD]at hf;cases hg:(grp isD (foA c off n)).1[j.toNat%(grp isD (foA c off n)).1.length]? with
    | none=>rw[hg]at hf;cases hf
    | some g=>rw[hg]at hf;exact⟨g,List.mem_of_getElem? hg,hf⟩
  have hlen:∀o,j<z→ItIs (foA c off n) j o→o.length≤100∧o≠ []:=fun o hj h=>by
   have hg:0<(grp isD (foA c off n)).1.length:=by rw[←gN];omega
   refine⟨?_,by rw[←hI o h];exact jjv hg⟩;have h9:=congrArg List.length (jcc isD (foA c off n));have hk:j.toNat%(grp isD (foA c off n)).1.length<(grp isD (foA c off n)).1.length:=Nat.mod_lt _ hg;have h8:=S_le hk;rw[←hI o h];unfold itL;simp only[List.length_append]at h9 ⊢;split<;>(try simp only[List.length_nil]) <;>omega
  cases o with
  | nil=>
   rw[r4_2n];delta bt ak bu av Fg.K42.aw aq bm b8 bw er a0 jz al dp au b5 a8 gn g8 j6 g0 am;simp only[RwF.z]at h7;have hj:j<z:=by simpa[RwF.is]using his
   refine c_t (jaa hj) (c_t (by rw[ho,jfb,jaa (hE hj)];simp;omega) fun o q cap1 tail hio hq ht=> ?_);subst hq;obtain⟨hol,hne⟩:=hlen o hj hio;have h0:o.length≠0:=fun e=>hne (List.length_eq_zero_iff.1 e)
   obtain⟨u1,u2,u3,u4⟩:=jbl ht
   have et:List.take (o.length*4) (List.drop 0 (fcL o++tail))=fcL o:=by
    rw[List.drop_zero,List.take_append_of_le_length (by rw[jbq];omega),List.take_of_length_le (by rw[jbq];omega)]
   rw[et,jd0];refine c_t ?_ (c_f ?_ fun cap2 tail2 ht2=> ?_)
   ·simp only[jaf,Nat.ble_eq,jb1,List.length_append,jbq];exact⟨⟨by omega,trivial⟩,by omega,by omega⟩
   ·cases hb:Nat.beq o.length 0
    ·rfl
    ·exact absurd (jah hb) h0
   have hr1:=rowF_of ht2 (hmem o hio);have hz1:=jeb o tail2;have gp:=jdi hr1;refine c_t (by simp[gc,goodL_plain gp]) ?_;have hgl:gN (foA c off n)≤n:=Nat.le_trans (ji9 _) (Nat.le_of_eq hl);rw[ec,rlbL_plain _ gp,w64 (by omega)];refine⟨(c,ty,off,n,cap,b,r,.own (fcL o++tail2) o.length cap2,z,j+1),rfl,rfl,?_,by simp only;omega,?_⟩
   ·simp only[S4_2,jaf,jae];refine⟨hr1,rfl,ho,⟨h1,h2,by omega,by omega,h5,h6⟩,jdz.2 ?_⟩;simp only[RwF.z];rw[hz1,show(j+1).toNat=j.toNat+1 by omega,its,←h7,List.nil_append];exact(hI o hio).symm
   ·simp only[S4_2];exact hf
  | own d m cp=>
   rw[r4_2o];delta bt ak av au bp Fg.K42.aw c9 er gm bw a0 jz al dp a8 gn g8 j6 g0 am;simp only[RwF.z]at h7;have hr:rowF d m cp=true:=hr;have hdp:=jdi hr;have ed:∀ps,rlbL ps d=d:=fun ps=>rlbL_plain ps hdp
   have gd:∀ps,jau ps d=true:=fun ps=>goodL_plain hdp
   apply cond_intro<;>intro h
   ·have hj:=jab h;refine c_t (by rw[ho,jfb,jaa (hE hj)];simp;omega) fun o q cap1 tail hio hq ht=> ?_
    subst hq;obtain⟨hol,hne⟩:=hlen o hj hio;obtain⟨u1,u2,u3,u4⟩:=jbl ht;obtain⟨l,rr,rfl,rfl,t1,t2,t3,t4,t5⟩:=jgu.1 hr;rw[t5]at h7
    have et:List.take (o.length*4) (List.drop 0 (fcL o++tail))=fcL o:=by
     rw[List.drop_zero,List.take_append_of_le_length (by rw[jbq];omega),List.take_of_length_le (by rw[jbq];omega)]
    have hll:l.length≤100:=by
     rw[h7];have hgl:j.toNat≤(grp isD (foA c off n)).1.length:=by rw[←gN];omega
     rw[jfs _ hgl];have h9:=congrArg List.length (jcc isD (foA c off n));rw[List.length_append,←List.take_append_drop j.toNat (grp isD (foA c off n)).1,List.flatten_append,List.length_append]at h9;omega
    rw[et,jd0]
    have et2:List.take (l.length*4) (fcL l++rr)=fcL l:=by
     rw[List.take_append_of_le_length (by rw[jbq];omega),List.take_of_length_le (by rw[jbq];omega)]
    refine c_t ?_ fun cap2 tail2 ht2=> ?_
    ·simp only[jaf,Nat.ble_eq,Nat.beq_eq,jb1,List.length_append,jbq];exact⟨⟨⟨⟨by omega,by omega⟩,by omega⟩,by omega,trivial⟩,by omega,by omega⟩
    rw[et2,←jga];have hr1:=rowF_of (l:=l++o) (r:=tail2) (cap:=cap2) (by rw[List.length_append];exact ht2) (fun f hf=>(List.mem_append.1 hf).elim (t4 f) (hmem o hio f));have hz1:=jeb (l++o) tail2;have gp:=jdi hr1;refine c_t (by simp[gc,goodL_plain gp]) ?_;have hgl:gN (foA c off n)≤n:=Nat.le_trans (ji9 _) (Nat.le_of_eq hl);rw[ec,rlbL_plain _ gp,w64 (by omega)];rw[List.length_append]at hr1 hz1;refine⟨(c,ty,off,n,cap,b,r,.own (fcL (l++o)++tail2) (l.length+o.length) cap2,z,j+1),rfl,rfl,?_,by simp only;omega,?_⟩
    ·simp only[S4_2,jaf,jae];refine⟨hr1,rfl,ho,⟨h1,h2,by omega,by omega,h5,h6⟩,jdz.2 ?_⟩;simp only[RwF.z];rw[hz1,show(j+1).toNat=j.toNat+1 by omega,its,←h7];rw[hI o hio]
    ·simp only[S4_2];exact hf
   ·have h:=jac h;obtain rfl:j=z:=by omega
    refine c_t (by simp[gc,gd]) ?_;rw[ec,ed];exact hf d m cp hr ⟨h7⟩
variable [Cs.MaxL] -- 4
def j8(b:U)(a c:Nat):Bool:= !(decide ((a:Int)≤40) && !(Fg.foA b c a).any Fg.jc9)
def j0(g:Int)(a:U)(b c e f:Nat)(h:Prop)(d:Value→Prop):Prop:=bif Fg.foOK a b c&&true&& (j8 a c b || Fg.foOK a b c&&true&&true)then bif j8 a c b || jb a c b !=0 then d (.bool true)else bif bn a 60 then bx (Fg.S4_0.pre (a,(e,(b,(c,(f,(b,(c,(f,(g,(false,((0:Int),(natO c,(0:Int)))))))))))))) h else False else False
def jj(a b:Int):Bool:=a==0 || (am b 0 || true)
def j1(f:Bool)(d e:Int)(a:U)(b c:Nat)(g h:Prop):Prop:=Fg.CnIs a b c 0 0 d→(bif bn a 60 then Tmps→(bif jj d e then bif d==0 || (am e 0 || ar e (br 999 d))then bx f g else bx f h else False)else False)
def j2(c d f:U)(a b e g:Nat):Bool:=decide ((a:Int)=(b:Int)) &&Fg.eqV (c++d) e f g a 0
def d9(a b:Nat):Nat:=du (natO a-natO b)
def jc(a b:Bool)(c:Int):Value:= .bool (bif a then b==true else bif am c 0 then b==true else b==ar c 999)
theorem w4(c:U)(ty:Nat)(off:Nat)(n:Nat)(cap:Nat)(i:Int)(R:Value→Prop):(jbe Tryz.prog Y0 (twoL 0 S4_0.hQ 2 S4_2.hA) Tryz.f4 [.slice (some ⟨0,off,some 1⟩) n cap,I i] (vw c ty) 2 (fun v _ _=>R v))=(j0 i c off n ty cap (∀a:Int,j1 (g0 i c off n cap) a i c off n (∀b:List Ff.Fo,∀d:Nat,∀e:Nat,∀f:U,Fg.ItIs (Fg.foA c off n) i b→b.length=d→a0 f e d 4→b7 (jj a i) (jc (a==0) (0==1) i) R) (∀b:List Ff.Fo,∀d:Nat,∀e:Nat,∀f:U,Fg.ItIs (Fg.foA c off n) i b→b.length=d→a0 f e d 4→(bif g0 (al i a) c off n cap then∀g:List Ff.Fo,∀h:Nat,∀j:Nat,∀k:U,Fg.ItIs (Fg.foA c off n) (al i a) g→g.length=h→a0 k j h 4→dl (natO d==0) (am (natO h) (natO d) || b6 (br (natO d) 1) (d:Int) && (Fg.K42.e7 (jap .i64 (a8 b f) (dv d 4+1+1)) (jbt (a8 b f) (dv d 4+1+1+1) &&true) (a8 b f) (dv d 4) && (b6 (br (natO h) 1) (h:Int) && (Fg.K42.e7 (jap .i64 (a8 g k) (dv h 4+1+1)) (jbt (a8 g k) (dv h 4+1+1+1) &&true) (a8 g k) (dv h 4) && (ji (a8 b f) (a8 g k) (dv d 4) (dv h 4) || (bif ar i 0 then Fg.foOK (a8 b f) 0 d&& (Fg.foOK (a8 g k) 0 h&&g8 d h 1000000) &&true else true)))))) (0 !=0 || (0 !=0 || (natO d==0 || (am (natO h) (natO d) || (ji (a8 b f) (a8 g k) (dv d 4) (dv h 4) || ar i 0&& !j2 (Fg.fcL b) f (a8 g k) d h 0 0))))) (R (.bool false)) (bif ig c 320 then bif Fg.S4_2.toLSpec.pre (aq c,(ty,(off,(n,(cap,(false,(a,(Fg.RwF.nil,(a,(0:Int))))))))))then∀l:U,∀m:Nat,∀o:Nat,Fg.rowF l m o=true→Fg.ItsIs (Fg.foA (aq c) off n) a l m→im (g0 a (aq c) off n cap) (aq c) l 320 (∀p:List Ff.Fo,∀q:Nat,∀r:Nat,∀s:U,Fg.ItIs (Fg.foA (aq c) off n) a p→p.length=q→a0 s r q 4→(bif g0 0 (aq c) off n cap then∀t:List Ff.Fo,∀u:Nat,∀v:Nat,∀w:U,Fg.ItIs (Fg.foA (aq c) off n) 0 t→t.length=u→a0 w v u 4→(bif 0 !=0 || (0 !=0 || am (natO q) (natO u))then R (.bool false)else bif ck 0 (br (natO q) (natO u)) r then gm (gn (a8 p s) (gz r 0 0) (d9 q u-0)) l o 4 m (d9 q u-0) 40 (∀x:Nat,∀y:U,a0 y x (m+(d9 q u-0)) 4→b8 (Fg.foOK (l.take (m*4)++((a8 p s).drop (gz r 0 0)).take ((d9 q u-0)*4)++y) 0 (m+(d9 q u-0))) (Fg.foOK (aq c) off n&&g8 (m+(d9 q u-0)) n 1000000) (j2 (l.take (m*4)++((a8 p s).drop (gz r 0 0)).take ((d9 q u-0)*4)) y (aq c) (m+(d9 q u-0)) n 0 off) (bif ck (br (natO q) (natO u)) (q:Int) r then b7 (Fg.foOK (a8 p s) (ip r (d9 q u) 0) (q-d9 q u) && (Fg.foOK (a8 t w) 0 u&&g8 (q-d9 q u) u 1000000)) (.bool (j2 (Fg.fcL p) s (a8 t w) (q-d9 q u) u (ip r (d9 q u) 0) 0)) R else False) (R (.bool false)))else False)else False))else False else False)else False))) R):=by kernel_rfl
theorem w4e(c:U)(ty:Nat)(off:Nat)(n:Nat)(cap:Nat)(i:Int)(R:Value→Prop):(jbe Tryz.prog Y1 (twoL 0 S4_0.hQ 2 S4_2.hA) Tryz.f4 [.slice (some ⟨0,off,some 1⟩) n cap,I i] (vw c ty) 2 (fun v _ _=>R v))=(j0 i c off n ty cap (∀a:Int,j1 (Fg.foOK c off n&& (g8 n n cap&& !Fg.okIt (Fg.foA c off n) i)) a i c off n (∀b:Int,Fg.ItE (Fg.foA c off n) i b→b≠0→b7 (jj a i) (jc (a==0) (b==1) i) R) (∀b:Int,Fg.ItE (Fg.foA c off n) i b→b≠0→False)) R):=by kernel_rfl
theorem w4n(i:Int)(R:Value→Prop):(jbe Tryz.prog Y1 noL Tryz.f4 [.slice none 0 0,I i] (fun _=>none) 2 (fun v _ _=>R v))=(bif am 0 (natO 0)then False else R (jc (0==0) (1==1) i)):=by kernel_rfl
end Go.Fg
end
noncomputable section
set_option maxHeartbeats 6400000
set_option maxRecDepth 100000
namespace Go.Fg
open Go Go.Ab Go.Proofs Go.Shelf Go.Px Go.Cv Go.Cx Go.Ff
variable [Cs.MaxL] -- 4
theorem w4n_ok{i:Int}:jbe Tryz.prog Y1 noL Tryz.f4 [.slice none 0 0,I i] (fun _=>none) 2 (fun v _ _=>v=B true):=by
 rw[w4n i (fun v=>v=B true)];delta ar am jc;rw[ja1];rfl
theorem bad_of{L:List Fo}{n:Nat}(hl:L.length=n)(h:((bif decide (16<(n:Int)) || L.any pBad then(130:Int)else 0) !=0)=false):¬(16<L.length∨L.any pBad=true):=by
 intro q
 have:(decide (16<(n:Int)) || L.any pBad)=true:=by
  rw[Bool.or_eq_true,jae];exact q.imp (fun x=>by omega) id
 rw[this]at h;cases h
theorem cn_all{c:U}{off n:Nat}{r:Int}(h:CnIs c off n 0 0 r):r=gN (foA c off n):=by
 rw[←h.eq,gN,jeu];simp
theorem w4e_ok{c:U}{ty off n cap:Nat}{i:Int}(ho:foOK c off n=true)(hc:n≤cap)(he:eIt (foA c off n) i≠0):
  jbe Tryz.prog Y1 (twoL 0 S4_0.hQ 2 S4_2.hA) Tryz.f4 [.slice (some ⟨0,off,some 1⟩) n cap,I i] (vw c ty) 2 (fun v _ _=>v=B true):=by
 obtain⟨hl,hpl,_⟩:=jcd ho;rw[w4e c ty off n cap i (fun v=>v=B true)];delta bx bn am jb j8 j0 ar br jj j1 b7 jc g8;rw[ja1];have hid:jax 60 c=true:=jbv hpl;refine c_t (by rw[ho];simp) (cond_intro (fun _=>rfl) (fun h=>c_t (by rw[hid];rfl) ?_));simp only[Bool.or_eq_false_iff]at h;have hb:=bad_of hl h.2;refine c_t ?_ fun r' hr=>c_t (by rw[hid];rfl) fun _=>c_t (by simp) ?_
 ·simp only[S4_0,jaf,jae];exact⟨ho,by omega,trivial,trivial,trivial,trivial,by omega,by omega,by omega,by omega⟩
 have hr:=cn_all hr;have hg:=ji9 (foA c off n)
 have e1:eIt (foA c off n) i=1∧(i<0∨999<i∨gN (foA c off n)=0):=by
  unfold eIt at he ⊢;rw[if_neg hb]at he ⊢;by_cases q:i<0∨999<i∨gN (foA c off n)=0
  ·rw[if_pos q];exact⟨rfl,q⟩
  ·rw[if_neg q]at he;exact absurd rfl he
 rw[w64 (n:=999-r') (by omega)];refine c_t (by simp;omega) (c_t (by rw[ho,jfb,jad he];simp;omega) fun e hie hne=>c_t (by simp) ?_);have:e=1:=by rw[←hie.eq];exact e1.1
 subst this;by_cases q0:r'=0
 ·rw[q0];rfl
 ·rw[show(r'==0)=false by simpa using q0,cond_false];by_cases q1:i<0
  ·rw[jaa q1];rfl
  ·rw[jad q1,jaa (show i>999 by omega)];rfl
theorem its_len{L:List Fo}{k:Nat}(h:k≤gN L):(its isD L k).length≤L.length:=by
 rw[jfs _ h];have h9:=congrArg List.length (jcc isD L);rw[List.length_append,←List.take_append_drop k (grp isD L).1,List.flatten_append,List.length_append]at h9;omega
theorem jg4{L:List Fo}{i:Nat}(hg:0<gN L):(itL isD L i).length≤2*L.length:=by
 have h9:=congrArg List.length (jcc isD L);have hk:i%(grp isD L).1.length<(grp isD L).1.length:=Nat.mod_lt _ hg;have h8:=S_le hk;unfold itL;simp only[List.length_append]at h9 ⊢;split<;>(try simp only[List.length_nil]) <;>omega
theorem jio{L:List Fo}{i:Nat}:∀f∈itL isD L i,f∈L:=fun f hf=>by
 rw[←jcc isD L];unfold itL at hf;rcases List.mem_append.1 hf with hf | hf
 ·split at hf
  ·exact List.mem_append_right _ hf
  ·cases hf
 ·refine List.mem_append_left _ (List.mem_flatten.2 ?_);rw[List.getD_eq_getElem?_getD]at hf;cases hg:(grp isD L).1[i%(grp isD L).1.length]? with
  | none=>rw[hg]at hf;cases hf
  | some g=>rw[hg]at hf;exact⟨g,List.mem_of_getElem? hg,hf⟩
theorem last_load{o:List Fo}{tail:U}{q:Nat}(hq:o.length=q)(h1:1≤q)(hp:jas tail=true)(hs:∀f∈o,f.s.size≤9223372036854775807):∃f,o[o.length-1]?=some f∧
  (jap .i64 (fcL o++tail) (0+Int.toNat ((q-1:Nat):Int)*4) && (jap .i64 (fcL o++tail) (0+Int.toNat ((q-1:Nat):Int)*4+1) && (jap .i64 (fcL o++tail) (0+Int.toNat ((q-1:Nat):Int)*4+1+1) && (jbt (fcL o++tail) (0+Int.toNat ((q-1:Nat):Int)*4+1+1+1) &&true))))=true∧
  jaj (fcL o++tail) (0+Int.toNat ((q-1:Nat):Int)*4)=f.k∧jaj (fcL o++tail) (0+Int.toNat ((q-1:Nat):Int)*4+1)=f.w∧jaj (fcL o++tail) (0+Int.toNat ((q-1:Nat):Int)*4+1+1)=f.d∧jck (fcL o++tail) (0+Int.toNat ((q-1:Nat):Int)*4+1+1+1)=f.s:=by
 subst hq;have hlt:o.length-1<o.length:=by omega
 refine⟨o[o.length-1],List.getElem?_eq_getElem hlt,?_⟩;exact fo_load (jdx hp hs) (a:=Int.toNat ((o.length-1:Nat):Int)) (by rw[jeb];exact List.getElem?_eq_getElem hlt)
theorem w4_ok{c:U}{ty off n cap:Nat}{i:Int}(ho:foOK c off n=true)(hc:n≤cap)(he:eIt (foA c off n) i=0):
  jbe Tryz.prog Y0 (twoL 0 S4_0.hQ 2 S4_2.hA) Tryz.f4 [.slice (some ⟨0,off,some 1⟩) n cap,I i] (vw c ty) 2 (fun v _ _=>v=B true):=by
 obtain⟨hl,hpl,_⟩:=jcd ho;have hsz:=(jdy.1 ho).2.2.2;rw[w4 c ty off n cap i (fun v=>v=B true)];delta bx bn am jb j8 j0 ar br jj j1 dl im gm b8 b7 j2 ip du d9 a8 g8 ck aq gz a0 gn j6 g0 dm bm ig gl ji dv Fg.K42.e7 b6 al jc;rw[ja1,rlbL_plain [] hpl];have hid:jax 60 c=true:=jbv hpl;have hid2:jax 320 c=true:=jbv hpl;refine c_t (by rw[ho];simp) (cond_intro (fun _=>rfl) (fun h=>c_t (by rw[hid];rfl) ?_));simp only[Bool.or_eq_false_iff]at h;have hb:=bad_of hl h.2;refine c_t ?_ fun r' hr=>c_t (by rw[hid];rfl) fun _=>c_t (by simp) ?_
 ·simp only[S4_0,jaf,jae];exact⟨ho,by omega,trivial,trivial,trivial,trivial,by omega,by omega,by omega,by omega⟩
 have hr:=cn_all hr;have hgl:=ji9 (foA c off n);have hn16:n≤16:=by omega
 have hir:0≤i∧i≤999∧0<gN (foA c off n):=by
  unfold eIt at he;rw[if_neg hb]at he;by_cases q:i<0∨999<i∨gN (foA c off n)=0
  ·rw[if_pos q]at he;cases he
  ·omega
 have hok:∀j:Int,0≤j→j≤999→okIt (foA c off n) j=true:=fun j h1 h2=>by
  rw[jfb,jae];unfold eIt;rw[if_neg hb,if_neg (by omega)]
 have hcd:∀j:Int,0≤j→j≤999→(foOK c off n&& (decide (n≤1000000∧n≤cap) &&okIt (foA c off n) j))=true:=fun j h1 h2=>by
  rw[ho,hok j h1 h2];simp;omega
 generalize hL:foA c off n=L at*;have hg:0<gN L:=hir.2.2;rw[w64 (n:=999-r') (by omega)];apply cond_intro<;>intro hq
 ·refine c_t (hcd i hir.1 hir.2.1) fun o q cap1 tail hio hlen ht=>c_t (by simp) ?_
  rw[show(r'==0)=false by simp;omega,jad (show¬i<0 by omega),jad (show¬i>999 by omega)];rfl
 simp only[Bool.or_eq_false_iff,decide_eq_false_iff_not]at hq;have hir':i+r'≤999:=by omega
 rw[w64 (n:=i+r') (by omega)];refine c_t (hcd i hir.1 hir.2.1) fun o q cap1 tail hio hlen ht=>c_t (hcd (i+r') (by omega) (by omega)) fun o1 q1 cap2 tail1 hio1 hlen1 ht1=> ?_
 rw[ja1,ja1];obtain⟨tp,_⟩:=jbl ht;obtain⟨tp1,_⟩:=jbl ht1;have hi1:(i+r').toNat=i.toNat+(grp isD L).1.length:=by rw[hr,gN];omega
 have eo:=hio.eq;have eo1:=hio1.eq;rw[hi1]at eo1;have hne:o≠ []:=by rw[←eo];exact jjv hg
 have hq1:1≤q:=by have:=List.length_pos_iff.2 hne;omega
 have hlen2:q≤q1:=by rw[←hlen,←hlen1,←eo,←eo1];exact it_len
 have hlast:=it_last (l:=L) (d:=isD) (i:=i.toNat) hg;rw[eo,eo1]at hlast;have hss:∀f∈o,f.s.size≤9223372036854775807:=fun f hf=>hsz f (jio f (eo▸hf))
 have hss1:∀f∈o1,f.s.size≤9223372036854775807:=fun f hf=>hsz f (jio f (eo1▸hf))
 have hsm:q≤2*n:=by rw[←hlen,←eo,←hl];exact jg4 hg
 have hsm1:q1≤2*n:=by rw[←hlen1,←eo1,←hl];exact jg4 hg
 rw[show IntKind.wrap .i64 ((q:Int)-1)=((q-1:Nat):Int)by rw[w64 (by omega)];omega,show IntKind.wrap .i64 ((q1:Int)-1)=((q1-1:Nat):Int)by rw[w64 (by omega)];omega];obtain⟨f,hf,g1,g2,g3,g4,g5⟩:=last_load hlen hq1 tp hss;obtain⟨f1,hf1,k1,k2,k3,k4,k5⟩:=last_load hlen1 (by omega) tp1 hss1;rw[hf,hf1]at hlast;cases hlast;rw[g1,g2,g3,g4,g5,k1,k2,k3,k4,k5];have hself:(f.k==f.k&& (f.w==f.w&& (f.d==f.d&& (f.s.toList==f.s.toList&&true))))=true:=by simp
 rw[hself];have hfo:foOK (fcL o++tail) 0 q=true:=hlen▸jdx tp hss;have hfo1:foOK (fcL o1++tail1) 0 q1=true:=hlen1▸jdx tp1 hss1;rw[hfo,hfo1];refine c_t ?_ (c_f ?_ (c_t (by rw[goodL_plain hpl,hid2];rfl) (c_t ?_ fun d' m' cp' hrow hits=> ?_)))
 ·simp;omega
 ·have e0:((q:Int)==0)=false:=by simp;omega
  rw[e0,jad (show¬(q1:Int)<q by omega)];by_cases h0:i>0
  ·have:o1=o:=by rw[←eo,←eo1];exact it_same (by omega)
   subst this;have hqq:q1=q:=by omega
   subst hqq
   have:eqV (fcL o1++tail) 0 (fcL o1++tail1) 0 q1 0=true:=by
    rw[eqV,jdz,←hlen,jeb,jeb]
   rw[this];simp
  ·rw[jad h0];rfl
 ·simp only[S4_2,jaf,jae];refine⟨rfl,by simp[RwF.is];omega,ho,⟨hn16,hc,by omega,by omega,?_,?_⟩,?_⟩
  ·rw[hL];exact hr
  ·rw[hL];unfold eIt;rw[if_neg hb,if_neg (by omega)]
  ·rfl
 obtain⟨l,rr,rfl,rfl,u1,u2,u3,u4,u5⟩:=jgu.1 hrow;have hl':=hits.eq;rw[u5]at hl';have hrn:r'.toNat=gN L:=by omega
 rw[hrn]at hl';refine c_t (by rw[hid2,jbv (jdi hrow)];rfl) fun _=>c_t (hcd r' (by omega) (by omega)) fun x qx capx tailx hix hlx htx=>c_t (hcd 0 (by omega) (by omega)) fun y qy capy taily hiy hly hty=> ?_
 have ex:=hix.eq;have ey:=hiy.eq;rw[hrn]at ex;rw[Int.toNat_zero]at ey;obtain⟨txp,tx2,tx3,tx4⟩:=jbl htx;obtain⟨typ,_⟩:=jbl hty;have hney:y≠ []:=by rw[←ey];exact jjv hg
 have hqy:1≤qy:=by have:=List.length_pos_iff.2 hney;omega
 have hxy:qy≤qx:=by
  rw[←hly,←hlx,←ey,←ex];have:=it_len (d:=isD) (l:=L) (i:=0);rw[Nat.zero_add]at this;exact this
 have hsmx:qx≤2*n:=by rw[←hlx,←ex,←hl];exact jg4 hg
 have hsx:∀f∈x,f.s.size≤9223372036854775807:=fun f hf=>hsz f (jio f (ex▸hf))
 have hsy:∀f∈y,f.s.size≤9223372036854775807:=fun f hf=>hsz f (jio f (ey▸hf))
 have hll:l.length≤n:=by rw[hl',←hl];exact its_len (Nat.le_refl _)
 rw[ja1,ja1];refine c_f (by simp;omega) ?_;have ew:IntKind.wrap .i64 ((qx:Int)-qy)=((qx-qy:Nat):Int):=by rw[w64 (by omega)];omega
 rw[ew];rw[show Int.toNat ((qx-qy:Nat):Int)-0=qx-qy from rfl,show Int.toNat ((qx-qy:Nat):Int)=qx-qy from rfl];have hall:=its_all (d:=isD) (l:=L) hg;have hrest:=its_rest (d:=isD) (l:=L) hg;have ex':itL isD L (grp isD L).1.length=x:=ex;have hl'':its isD L (grp isD L).1.length=l:=hl'.symm;rw[ex',ey,hl'',hlx,hly]at hall;rw[ex',ey,hlx,hly]at hrest;have ez:(bif Nat.beq capx 0 then 0 else 0+0*4)=0:=by cases Nat.beq capx 0<;>rfl
 rw[ez,List.drop_zero]
 have et:List.take ((qx-qy)*4) (fcL x++tailx)=fcL (x.take (qx-qy)):=by
  rw[List.take_append_of_le_length (by rw[jbq];omega),jha]
 have et2:List.take (l.length*4) (fcL l++rr)=fcL l:=by
  rw[List.take_append_of_le_length (by rw[jbq];omega),List.take_of_length_le (by rw[jbq];omega)]
 rw[et,et2,jd0,←jga,hall]
 have hlm:l.length+(qx-qy)=n:=by
  have:=congrArg List.length hall;rw[List.length_append,List.length_take]at this;omega
 refine c_t (jaa (by omega)) (c_t ?_ fun cap3 tail3 ht3=> ?_)
 ·simp only[jaf,Nat.ble_eq,Nat.beq_eq,jb1,List.length_append,jbq];exact⟨⟨⟨⟨by omega,by omega⟩,by omega⟩,by omega,trivial⟩,by omega,by omega⟩
 rw[hlm]at ht3 ⊢;obtain⟨t3p,_⟩:=jbl ht3;have hfL:foOK (fcL L++tail3) 0 n=true:=hl▸jdx t3p hsz
 have hfA:foA (fcL L++tail3) 0 n=L:=by
  have:=jeb L tail3;rw[hl]at this;exact this
 rw[hfL,ho]
 have hbq:Nat.beq capx (qx-qy)=false:=by
  cases hb:Nat.beq capx (qx-qy)
  ·rfl
  ·have:=jah hb;omega
 rw[hbq,cond_false]
 have hdx:(fcL x++tailx).drop (0+(qx-qy)*4)=fcL y++tailx:=by
  rw[Nat.zero_add,List.drop_append_of_le_length (by rw[jbq];omega),jhb,hrest]
 have hqd:qx-(qx-qy)=qy:=by omega
 have hfx:foOK (fcL x++tailx) (0+(qx-qy)*4) qy=true:=by
  have:=foOK_of hdx (jf2 (jdo _) txp) hsy;rw[hly]at this;exact this
 have hAx:foA (fcL x++tailx) (0+(qx-qy)*4) qy=y:=by
  have:=jja hdx;rw[hly]at this;exact this
 have hAy:foA (fcL y++taily) 0 qy=y:=by
  have:=jeb y taily;rw[hly]at this;exact this
 have hfy:foOK (fcL y++taily) 0 qy=true:=hly▸jdx typ hsy;rw[hqd,hfx,hfy]
 have hev:eqV (fcL L++tail3) 0 c off n 0=true:=by
  rw[eqV,jdz,hfA,hL]
 have hev2:eqV (fcL x++tailx) (0+(qx-qy)*4) (fcL y++taily) 0 qy 0=true:=by
  rw[eqV,jdz,hAx,hAy]
 rw[hev,hev2];refine c_t (by simp;omega) (c_t (by simp) (c_t (jaa (by omega)) (c_t (by simp;omega) ?_)));simp
end Go.Fg
end
noncomputable section
namespace Go.Px
open Go Go.Ab Go.Proofs Go.Shelf Go.ChangeMaps Go.ChangeShapes Go.WideShapes Go.ChangeAt Go.RowKit Go.Joins
open Go.Proofs.YtoofiemfbldebaaGreatDoor
theorem maxlen_of{W:World}(h:W.ShapedOpen Tryz.prog):1<W.heap.size∧ ∃m ty fr,W.heap[1]?=some (.cells ⟨[.int .i64 m]⟩ ty fr):=by
 have h0:((begin Tryz.prog (fun _ _=>0) default).world.heap[1]?).bind Obj.row?=some (#[.int .i64 0],3):=by kernel_rfl
 have hg:1<Tryz.prog.globals.size:=jag;obtain⟨m,hm⟩:=cell_of_shapedOpen_int h hg h0 rfl (by kernel_rfl) (by kernel_rfl) Tryz.underlying3;obtain⟨cs,hh,hs,_⟩:=h.1 1 _ 3 hg h0;refine⟨(Array.getElem?_eq_some_iff.1 hh).1,m,3,(0,0),?_⟩;have h1:cs.size=1:=hs
 obtain⟨c0,rfl⟩:∃c0,cs= #[c0]:=by
  obtain⟨l⟩:=cs
  match l,h1 with
  | [c0],_=>exact⟨c0,rfl⟩
 rw[World.cell?,hh]at hm;have:c0= .int .i64 m:=by simpa using hm
 rw[hh,this]
theorem tabsR_of [Cs.MaxL]{W:World}{ty:TypeId}{fr:Nat×Nat}(h: @TabsIn tabs W.heap.size W)(h1:1<W.heap.size)(hm:W.heap[1]?=some (.cells ⟨[.int .i64 Cs.MaxL.mx]⟩ ty fr)): @TabsIn Ff.tabsR W.heap.size W:=by
 intro b r hb;have hb:Cs.rowsC b=some r:=hb;unfold Cs.rowsC at hb;split at hb
 ·rename_i q;cases hb;obtain rfl:=jah q;exact⟨h1,ty,fr,hm⟩
 ·exact h b r hb
theorem handed_shaped{H:Type}{enc:TypeId×Value→H}{a:Assume}{C:Checked}{os:Os}{f:FuncId}{fn:Func}{s:ChangeSpec}{conds:List PathCond}{apart fresh handsOn again:Bool}{X:World→Array Value→Prop}
  (hX:∀(w w':World)(args:Array Value),w.heap=w'.heap→X w args→X w' args)
  (own:ownKnob C.prog.godebug=none) (started:os.Started) (noInit:C.prog.inits.idxOf? f=none) (hfn:C.prog.funcs[f]?=some fn)
  (witness : ∃ (w : World) (tape : Tape) (i : Input), w.os = os ∧ (w.forCall tape i).Shaped C.prog ∧ i.vars = [] ∧ Input.okWide C.prog (w.forCall tape i) .any w.heap.size f i ∧
   ((s.pre enc C.prog fn conds apart (w.forCall tape i).memory i.args∧X (w.forCall tape i).memory i.args)∧sizedMet enc C.prog fn (OpenSpec.ofChange s) apart (w.forCall tape i).memory i.args)∧a.holds C.prog (lone (Frame.enter C.prog f i.args .normal) [] (w.forCall tape i)))
  (contract : ∀ (W : World) (base : Nat) (args : Array Value) (ds gs : List (DataW H)) (before : List MemPlace),
   (∀(j:Nat) t v,fn.params[j]?=some t→args[j]?=some v→Value.okWide C.prog W .any base t v)→
   DataW.Whole enc C.prog fn.params.toList s.vars apart W args.toList ds gs before→W.ShapedOpen C.prog→X W args→
   Calls C.prog f args W fun e W'=>∃v,e= .returned v∧s.post enc C.prog fn apart fresh handsOn again W args v W'):
  ReturnsInHanded a C os f .any (fun w args=>(s.pre enc C.prog fn conds apart w args∧X w args)∧sizedMet enc C.prog fn (OpenSpec.ofChange s) apart w args) (s.post enc C.prog fn apart fresh handsOn again):=by
 refine returnsInHanded_of_calls own started noInit witness ?_;intro w tape i _ hsh _ hok hpre _;obtain⟨_,_,_,fn',hfn',_,_,_,_,hval⟩:=hok;have e:fn'=fn:=Option.some.inj (hfn'.symm.trans hfn);subst e;obtain⟨⟨⟨ds,gs,before,hw,_⟩,hx⟩,_⟩:=hpre;have hw':=DataW.Whole.of_heap (w':=w.forCall tape i) (by rfl) hw;refine(contract (w.forCall tape i) w.heap.size i.args ds gs before hval hw' hsh (hX _ _ _ (by rfl) hx)).mono fun e W' ⟨v,he,hp⟩=> ?_
 subst he;exact ChangeSpec.post_blind hp
end Go.Px
end
noncomputable section
namespace Go.Px
open Go Go.Ab Go.Proofs Go.Shelf Go.Cx Go.RowKit Go.Ff Go.Fg
theorem ren_I(a:Int)(ι:Nm):ren ι (I a)=I a:=jaz _ rfl
theorem ids_I(a:Int):ids (I a)=[]:=ja2 rfl
theorem vwF_lk{w:World}{b off:Nat}{c:U}{ty:TypeId}(hb:b<w.heap.size)(hc:∀i x,c[i]?=some x→w.cell? ⟨b,off+i,none⟩=some x∧plain x=true):
  ∀k bl,vw c ty k=some bl→k<2∧bl.own=false∧jas bl.c=true∧(((fun _=>(b,off)):Nm) k).1<w.heap.size∧ ∀i v,bl.c[i]?=some v→w.cell? ⟨(((fun _=>(b,off)):Nm) k).1,(((fun _=>(b,off)):Nm) k).2+i,none⟩=some v:=by
 intro k bl hk;obtain⟨rfl,rfl⟩:=vw_get hk;refine⟨by omega,rfl,jaw.2 fun v hv=> ?_,hb,fun i v hv=>(hc i v hv).1⟩;obtain⟨i,hi⟩:=List.getElem?_of_mem hv;exact(hc i v hi).2
theorem lokf_twoT [Tabs]{P:Program}{fn:Func}{i j:Nat}{h h':jbg}(hij:Nat.beq j i=false)(hb:(match fn.body with | some c=>blks (twoL i h j h') c | none=> [])=[(i,.loop (jbh fn i)),(j,.loop (jbh fn j))])
  (hs:∀t m n K,h t m n K→Ab.Sem P fn.ntmps (.loop (jbh fn i)) t m n K) (hs':∀t m n K,h' t m n K→Ab.Sem P fn.ntmps (.loop (jbh fn j)) t m n K):LOKf P (twoL i h j h') fn:=by
 unfold LOKf;split
 ·rename_i c hc;simp only[hc]at hb;refine jfk c fun p hp k hk=> ?_
  rw[hb]at hp;simp only[List.mem_cons,List.not_mem_nil,or_false]at hp;have e:Nat.beq i i=true:=by simp
  have e':Nat.beq j j=true:=by simp
  rcases hp with rfl | rfl
  ·simp only[twoL,e,Option.some.injEq]at hk;subst hk;exact hs
  ·simp only[twoL,hij,e',Option.some.injEq]at hk;subst hk;exact hs'
 ·trivial
section
variable [Cs.MaxL] {W : World} -- 4
theorem fn4:Fn1 Tryz.prog 4 Tryz.f4:= .m Tryz.func4
theorem lok4:LOKf Tryz.prog (twoL 0 S4_0.hQ 2 S4_2.hA) Tryz.f4:=lokf_twoT (by kernel_rfl) (by kernel_rfl) l4_0 l4_2
theorem at4{G:Env}(hG: @jao tabsR Tryz.prog G)(ht: @TabsIn tabsR W.heap.size W)(i:Int){b off n cap:Nat}{c:U}(hb:b<W.heap.size)(hc:∀i x,c[i]?=some x→W.cell? ⟨b,off+i,none⟩=some x∧plain x=true)
  (h: @jbe tabsR Tryz.prog G (twoL 0 S4_0.hQ 2 S4_2.hA) Tryz.f4 [.slice (some ⟨0,0,some 1⟩) n cap,I i] (vw c 30) 2 (fun v _ _=>v=B true)):
  Calls Tryz.prog 4 [.slice (some ⟨b,off,none⟩) n cap,I i].toArray W fun e w'=>e= .returned (.bool true)∧Below W.heap.size W w':=by
 have q:= @calls_top tabsR Tryz.prog G (twoL 0 S4_0.hQ 2 S4_2.hA) 4 Tryz.f4 hG hmix fn4 lok4 [.slice (some ⟨0,0,some 1⟩) n cap,I i] (vw c 30) (B true) jag (by rw[jjo];with_reducible exact h) rfl W (fun _=>(b,off)) ht (vwF_lk hb hc)
  (fun v hv j hj=>by simp only[List.mem_cons,List.not_mem_nil,or_false]at hv;rcases hv with rfl | rfl<;>first | (rw[ids_I]at hj;cases hj) | (simp[ids]at hj;omega))
 have e:([.slice (some ⟨0,0,some 1⟩) n cap,I i].map (ren fun _=>(b,off))).toArray=[.slice (some ⟨b,off,none⟩) n cap,I i].toArray:=by
  simp only[List.map_cons,List.map_nil,ren_I];simp[ren,ren1]
 rw[e]at q;exact q
theorem key4(ht: @TabsIn tabsR W.heap.size W)(i:Int){v:Value}(hv:SlF W v):Calls Tryz.prog 4 [v,I i].toArray W fun e w'=>e= .returned (.bool true)∧Below W.heap.size W w':=by
 rcases hv with rfl | ⟨b,off,cap,l,rfl,hb,hlc,hs,hcell⟩
 ·have q:= @calls_top tabsR Tryz.prog Y1 noL 4 Tryz.f4 ok_Y1 hmix fn4 jai [.slice none 0 0,I i] (fun _=>none) (B true) jag (by rw[jjo];with_reducible exact w4n_ok) rfl W (fun _=>(0,0)) ht (fun _ _ h=>by cases h)
   (fun v hv j hj=>by simp only[List.mem_cons,List.not_mem_nil,or_false]at hv;rcases hv with rfl | rfl<;>first | (rw[ids_I]at hj;cases hj) | (simp[ids]at hj))
  have e:([.slice none 0 0,I i].map (ren fun _=>(0,0))).toArray=[.slice none 0 0,I i].toArray:=by
   simp only[List.map_cons,List.map_nil,ren_I];simp[ren]
  rw[e]at q;exact q
 ·have ho:foOK (fcL l) 0 l.length=true:=by
   have:=jdx (l:=l) (r:=[]) rfl hs;rwa [List.append_nil]at this
  by_cases he:eIt (foA (fcL l) 0 l.length) i=0
  ·exact at4 ok_Y0 ht i hb hcell (w4_ok ho hlc he)
  ·exact at4 ok_Y1 ht i hb hcell (w4e_ok ho hlc he)
end
end Go.Px
end
section

end
