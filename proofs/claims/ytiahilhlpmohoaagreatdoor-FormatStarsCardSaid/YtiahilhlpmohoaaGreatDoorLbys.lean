/-
  The contracts of the library at this dump: each laying a table of numbers and its facts; each contract one application.
-/
import Derived.Shelf.Strings.Replace
import Derived.Shelf.Strings.BuilderF
import Derived.Test.YtiahilhlpmohoaaGreatDoorProg
namespace Go.Proofs
open Go.Shelf
open Tryz
theorem zG {n : Nat} {f g : Func} (h : Tryz.prog.funcs[n]? = some f) (e : f = g := by kernel_rfl) : Tryz.prog.funcs[n]? = some g := h.trans (congrArg some e)
def Tryz.lays155_ren : Go.Shelf.Ren := ⟨fun | 155 => 151 | 154 => 220 | 138 => 253 | 165 => 165 | 143 => 254 | 166 => 166 | 197 => 224 | 169 => 66 | 195 => 298 | 218 => 299 | 240 => 157 | 241 => 229 | 219 => 274 | 260 => 275 | 276 => 223 | 277 => 276 | 217 => 273 | 225 => 272 | 224 => 271 | 267 => 303 | 266 => 302 | 314 => 314 | n => n, fun | 9 => 9 | 3 => 3 | 4 => 4 | 72 => 109 | 0 => 0 | 76 => 205 | 105 => 246 | 21 => 21 | 5 => 5 | 70 => 107 | 20 => 20 | 37 => 77 | 75 => 157 | 127 => 165 | 164 => 238 | 46 => 202 | 119 => 327 | 139 => 330 | 138 => 329 | 146 => 250 | 51 => 249 | 80 => 38 | n => n, fun | 1 => 1 | 3 => 4 | 4 => 5 | n => n⟩
theorem Tryz.lays155 : Go.Proofs.Lays.n155 Tryz.prog Tryz.lays155_ren := ⟨by kernel_rfl,zG func253,zG func254,zG func220,zG func151,zG func165,zG func166,zG func66,zG func298,zG func224,zG func273,zG func299,zG func274,zG func271,zG func272,zG func157,zG func229,zG func275,zG func302,zG func303,zG func223,zG func276,zG func314,underlying0,isAgg0,sizeOf0,zeroValue0,underlying3,isAgg3,sizeOf3,zeroValue3,underlying4,isAgg4,sizeOf4,zeroValue4,underlying5,isAgg5,sizeOf5,zeroValue5,underlying9,isAgg9,sizeOf9,zeroValue9,underlying20,isAgg20,sizeOf20,zeroValue20,underlying21,isAgg21,sizeOf21,zeroValue21,underlying77,isAgg77,sizeOf77,zeroValue77,underlying202,isAgg202,sizeOf202,zeroValue202,underlying249,isAgg249,sizeOf249,zeroValue249,underlying107,isAgg107,sizeOf107,zeroValue107,underlying109,isAgg109,sizeOf109,zeroValue109,underlying157,isAgg157,sizeOf157,zeroValue157,underlying205,isAgg205,sizeOf205,zeroValue205,underlying246,isAgg246,sizeOf246,zeroValue246,underlying327,isAgg327,sizeOf327,underlying165,isAgg165,sizeOf165,zeroValue165,underlying329,isAgg329,sizeOf329,zeroValue329,underlying330,isAgg330,sizeOf330,zeroValue330,underlying250,isAgg250,sizeOf250,zeroValue250,underlying238,isAgg238,sizeOf238,zeroValue238,by kernel_rfl,by kernel_rfl,by kernel_rfl⟩
end Go.Proofs
