/-
  The contracts of the library at this dump: each laying a table of numbers and its facts; each contract one application.
-/
import Derived.Shelf.Strings.Trim
import Derived.Shelf.Strings.SlTrimAscii
import Derived.Shelf.Small.Strs
import Derived.Shelf.Strings.BuilderF
import Derived.Shelf.Strconv.Atoi
import Derived.Shelf.Strconv.Itoa2
import Derived.Shelf.Strings.Search3
import Derived.Shelf.Strings.Count
import Derived.Shelf.Strings.LastIndex
import Derived.Shelf.Strings.Prefix
import Derived.Shelf.Strings.IndexAnyAll
import Derived.Shelf.Strings.Repeat
import Derived.Shelf.Strconv.Itoa3
import Derived.Test.YtiahilhlpmohoaaGreatDoorProg
namespace Go.Proofs
open Go.Shelf
open Tryz
theorem zF {n : Nat} {f g : Func} (h : Tryz.prog.funcs[n]? = some f) (e : f = g := by kernel_rfl) : Tryz.prog.funcs[n]? = some g := h.trans (congrArg some e)
def Tryz.lays137_ren : Go.Shelf.Ren := ⟨fun | 137 => 221 | 217 => 273 | 266 => 302 | n => n, fun | 9 => 9 | 5 => 5 | 3 => 3 | n => n, fun | n => n⟩
theorem Tryz.lays137 : Go.Proofs.Lays.n137 Tryz.prog Tryz.lays137_ren := ⟨by kernel_rfl,zF func221,zF func273,zF func302,underlying3,isAgg3,sizeOf3,zeroValue3,underlying5,isAgg5,sizeOf5,zeroValue5,underlying9,isAgg9,sizeOf9,zeroValue9⟩
def Tryz.lays138_ren : Go.Shelf.Ren := ⟨fun | 138 => 253 | 195 => 298 | 218 => 299 | 143 => 254 | 219 => 274 | 217 => 273 | 225 => 272 | 224 => 271 | 267 => 303 | 266 => 302 | 314 => 314 | n => n, fun | 9 => 9 | 3 => 3 | 4 => 4 | 5 => 5 | 0 => 0 | 46 => 202 | 146 => 250 | 51 => 249 | n => n, fun | 1 => 1 | n => n⟩
theorem Tryz.lays138 : Go.Proofs.Lays.n138 Tryz.prog Tryz.lays138_ren := ⟨by kernel_rfl,zF func253,zF func254,zF func298,zF func273,zF func299,zF func274,zF func271,zF func272,zF func302,zF func303,zF func314,underlying0,isAgg0,sizeOf0,zeroValue0,underlying3,isAgg3,sizeOf3,zeroValue3,underlying4,isAgg4,sizeOf4,zeroValue4,underlying5,isAgg5,sizeOf5,zeroValue5,underlying9,isAgg9,sizeOf9,zeroValue9,underlying202,isAgg202,sizeOf202,zeroValue202,underlying249,isAgg249,sizeOf249,zeroValue249,underlying250,isAgg250,sizeOf250,zeroValue250,by kernel_rfl⟩
def Tryz.lays100_ren : Go.Shelf.Ren := ⟨fun | 100 => 187 | 207 => 252 | n => n, fun | 9 => 9 | 4 => 4 | 3 => 3 | n => n, fun | n => n⟩
theorem Tryz.lays100 : Go.Proofs.Lays.n100 Tryz.prog Tryz.lays100_ren := ⟨by kernel_rfl,zF func187,zF func252,underlying3,isAgg3,sizeOf3,zeroValue3,underlying4,isAgg4,sizeOf4,zeroValue4,underlying9,isAgg9,sizeOf9,zeroValue9⟩
def Tryz.lays144_ren : Go.Shelf.Ren := ⟨fun | 144 => 189 | 143 => 254 | 219 => 274 | 217 => 273 | 225 => 272 | 224 => 271 | 267 => 303 | 266 => 302 | 314 => 314 | n => n, fun | 9 => 9 | 4 => 4 | 3 => 3 | 5 => 5 | 46 => 202 | 146 => 250 | 51 => 249 | n => n, fun | 1 => 1 | n => n⟩
theorem Tryz.lays144 : Go.Proofs.Lays.n144 Tryz.prog Tryz.lays144_ren := ⟨by kernel_rfl,zF func254,zF func189,zF func273,zF func274,zF func271,zF func272,zF func302,zF func303,zF func314,underlying3,isAgg3,sizeOf3,zeroValue3,underlying4,isAgg4,sizeOf4,zeroValue4,underlying5,isAgg5,sizeOf5,zeroValue5,underlying9,isAgg9,sizeOf9,zeroValue9,underlying202,isAgg202,sizeOf202,zeroValue202,underlying249,isAgg249,sizeOf249,zeroValue249,underlying250,isAgg250,sizeOf250,zeroValue250,by kernel_rfl⟩
def Tryz.lays150_ren : Go.Shelf.Ren := ⟨fun | 150 => 128 | 153 => 146 | 152 => 216 | 226 => 217 | 227 => 160 | 228 => 218 | 137 => 221 | 119 => 270 | 224 => 271 | 225 => 272 | 217 => 273 | 266 => 302 | n => n, fun | 9 => 9 | 4 => 4 | 3 => 3 | 5 => 5 | 21 => 21 | 117 => 198 | 116 => 197 | 0 => 0 | 46 => 202 | 124 => 201 | n => n, fun | n => n⟩
theorem Tryz.lays150 : Go.Proofs.Lays.n150 Tryz.prog Tryz.lays150_ren := ⟨by kernel_rfl,zF func270,zF func221,zF func128,zF func216,zF func146,zF func273,zF func271,zF func272,zF func217,zF func160,zF func218,zF func302,underlying0,isAgg0,sizeOf0,zeroValue0,underlying3,isAgg3,sizeOf3,zeroValue3,underlying4,isAgg4,sizeOf4,zeroValue4,underlying5,isAgg5,sizeOf5,zeroValue5,underlying9,isAgg9,sizeOf9,zeroValue9,underlying21,isAgg21,sizeOf21,zeroValue21,underlying202,isAgg202,sizeOf202,zeroValue202,underlying197,isAgg197,sizeOf197,underlying198,isAgg198,sizeOf198,zeroValue198,underlying201,isAgg201,sizeOf201,zeroValue201⟩
def Tryz.lays149_ren : Go.Shelf.Ren := ⟨fun | 149 => 118 | 222 => 175 | n => n, fun | 9 => 9 | 5 => 5 | 3 => 3 | 4 => 4 | n => n, fun | n => n⟩
theorem Tryz.lays149 : Go.Proofs.Lays.n149 Tryz.prog Tryz.lays149_ren := ⟨by kernel_rfl,zF func118,zF func175,underlying3,isAgg3,sizeOf3,zeroValue3,underlying4,isAgg4,sizeOf4,zeroValue4,underlying5,isAgg5,sizeOf5,zeroValue5,underlying9,isAgg9,sizeOf9,zeroValue9⟩
def Tryz.lays160_ren : Go.Shelf.Ren := ⟨fun | 160 => 124 | 232 => 178 | 231 => 159 | 227 => 160 | 234 => 179 | 233 => 161 | 236 => 180 | 235 => 162 | 228 => 218 | 271 => 242 | 151 => 225 | 197 => 224 | 120 => 290 | 152 => 216 | 260 => 275 | 137 => 221 | 119 => 270 | 224 => 271 | 225 => 272 | 217 => 273 | 266 => 302 | n => n, fun | 9 => 9 | 4 => 4 | 3 => 3 | 5 => 5 | 117 => 198 | 116 => 197 | 0 => 0 | 124 => 201 | 21 => 21 | 105 => 246 | 46 => 202 | 119 => 327 | 139 => 330 | 138 => 329 | n => n, fun | 3 => 4 | 4 => 5 | n => n⟩
theorem Tryz.lays160 : Go.Proofs.Lays.n160 Tryz.prog Tryz.lays160_ren := ⟨by kernel_rfl,zF func270,zF func290,zF func221,zF func225,zF func216,zF func124,zF func224,zF func273,zF func271,zF func272,zF func160,zF func218,zF func159,zF func178,zF func161,zF func179,zF func162,zF func180,zF func275,zF func302,zF func242,underlying0,isAgg0,sizeOf0,zeroValue0,underlying3,isAgg3,sizeOf3,zeroValue3,underlying4,isAgg4,sizeOf4,zeroValue4,underlying5,isAgg5,sizeOf5,zeroValue5,underlying9,isAgg9,sizeOf9,zeroValue9,underlying21,isAgg21,sizeOf21,zeroValue21,underlying202,isAgg202,sizeOf202,zeroValue202,underlying246,isAgg246,sizeOf246,zeroValue246,underlying197,isAgg197,sizeOf197,underlying198,isAgg198,sizeOf198,zeroValue198,underlying327,isAgg327,sizeOf327,underlying201,isAgg201,sizeOf201,zeroValue201,underlying329,isAgg329,sizeOf329,zeroValue329,underlying330,isAgg330,sizeOf330,zeroValue330,by kernel_rfl,by kernel_rfl⟩
def Tryz.lays161_ren : Go.Shelf.Ren := ⟨fun | 161 => 110 | 231 => 159 | 227 => 160 | 233 => 161 | 235 => 162 | 228 => 218 | 197 => 224 | 151 => 225 | 260 => 275 | 152 => 216 | 137 => 221 | 119 => 270 | 224 => 271 | 225 => 272 | 217 => 273 | 266 => 302 | n => n, fun | 9 => 9 | 4 => 4 | 3 => 3 | 5 => 5 | 117 => 198 | 116 => 197 | 0 => 0 | 124 => 201 | 105 => 246 | 21 => 21 | 119 => 327 | 46 => 202 | 139 => 330 | 138 => 329 | n => n, fun | 3 => 4 | 4 => 5 | n => n⟩
theorem Tryz.lays161 : Go.Proofs.Lays.n161 Tryz.prog Tryz.lays161_ren := ⟨by kernel_rfl,zF func270,zF func221,zF func225,zF func216,zF func110,zF func224,zF func273,zF func271,zF func272,zF func160,zF func218,zF func159,zF func161,zF func162,zF func275,zF func302,underlying0,isAgg0,sizeOf0,zeroValue0,underlying3,isAgg3,sizeOf3,zeroValue3,underlying4,isAgg4,sizeOf4,zeroValue4,underlying5,isAgg5,sizeOf5,zeroValue5,underlying9,isAgg9,sizeOf9,zeroValue9,underlying21,isAgg21,sizeOf21,zeroValue21,underlying202,isAgg202,sizeOf202,zeroValue202,underlying246,isAgg246,sizeOf246,zeroValue246,underlying197,isAgg197,sizeOf197,underlying198,isAgg198,sizeOf198,zeroValue198,underlying327,isAgg327,sizeOf327,underlying201,isAgg201,sizeOf201,zeroValue201,underlying329,isAgg329,sizeOf329,zeroValue329,underlying330,isAgg330,sizeOf330,zeroValue330,by kernel_rfl,by kernel_rfl⟩
def Tryz.lays172_ren : Go.Shelf.Ren := ⟨fun | 172 => 183 | 244 => 244 | 245 => 245 | 247 => 291 | 279 => 292 | 280 => 293 | 281 => 294 | 282 => 295 | 287 => 311 | 316 => 312 | 171 => 130 | 205 => 313 | 321 => 317 | 322 => 318 | 243 => 193 | 246 => 256 | 283 => 194 | 284 => 195 | 285 => 196 | 286 => 197 | 129 => 258 | 317 => 257 | 318 => 259 | 319 => 260 | 320 => 261 | 337 => 300 | 338 => 301 | n => n, fun | 9 => 9 | 3 => 3 | 75 => 157 | 76 => 205 | 4 => 4 | 5 => 5 | 167 => 319 | 37 => 77 | 0 => 0 | 85 => 320 | 2 => 2 | 168 => 322 | 53 => 137 | 175 => 334 | 46 => 202 | 210 => 337 | 127 => 165 | 145 => 344 | 143 => 342 | 21 => 21 | 171 => 222 | 173 => 225 | 212 => 287 | 51 => 249 | 20 => 20 | 213 => 288 | 232 => 339 | 233 => 340 | 80 => 38 | n => n, fun | 15 => 6 | 16 => 7 | 17 => 2 | 18 => 8 | 19 => 9 | n => n⟩
theorem Tryz.lays172 : Go.Proofs.Lays.n172 Tryz.prog Tryz.lays172_ren := ⟨by kernel_rfl,zF func258,zF func130,zF func183,zF func313,zF func193,zF func244,zF func245,zF func256,zF func291,zF func292,zF func293,zF func294,zF func295,zF func194,zF func195,zF func196,zF func197,zF func311,zF func312,zF func257,zF func259,zF func260,zF func261,zF func317,zF func318,zF func300,zF func301,underlying0,isAgg0,sizeOf0,zeroValue0,underlying2,isAgg2,sizeOf2,zeroValue2,underlying3,isAgg3,sizeOf3,zeroValue3,underlying4,isAgg4,sizeOf4,zeroValue4,underlying5,isAgg5,sizeOf5,zeroValue5,underlying9,isAgg9,sizeOf9,zeroValue9,underlying20,isAgg20,sizeOf20,zeroValue20,underlying21,isAgg21,sizeOf21,zeroValue21,underlying77,isAgg77,sizeOf77,zeroValue77,underlying202,isAgg202,sizeOf202,zeroValue202,underlying249,isAgg249,sizeOf249,zeroValue249,underlying137,isAgg137,sizeOf137,zeroValue137,underlying157,isAgg157,sizeOf157,zeroValue157,underlying205,isAgg205,sizeOf205,zeroValue205,underlying320,isAgg320,sizeOf320,zeroValue320,underlying165,isAgg165,sizeOf165,zeroValue165,underlying342,isAgg342,sizeOf342,zeroValue342,underlying344,isAgg344,sizeOf344,zeroValue344,underlying319,isAgg319,sizeOf319,zeroValue319,underlying322,isAgg322,sizeOf322,zeroValue322,underlying222,isAgg222,sizeOf222,zeroValue222,underlying225,isAgg225,sizeOf225,zeroValue225,underlying334,isAgg334,sizeOf334,zeroValue334,underlying337,isAgg337,sizeOf337,zeroValue337,underlying287,isAgg287,sizeOf287,zeroValue287,underlying288,isAgg288,sizeOf288,underlying339,isAgg339,sizeOf339,zeroValue339,underlying340,isAgg340,sizeOf340,zeroValue340,by kernel_rfl,by kernel_rfl,by kernel_rfl,by kernel_rfl,by kernel_rfl⟩
def Tryz.lays285_ren : Go.Shelf.Ren := ⟨fun | 285 => 196 | n => n, fun | 37 => 77 | 53 => 137 | 3 => 3 | 4 => 4 | 51 => 249 | 9 => 9 | 5 => 5 | 0 => 0 | n => n, fun | n => n⟩
theorem Tryz.lays285 : Go.Proofs.Lays.n285 Tryz.prog Tryz.lays285_ren := ⟨by kernel_rfl,zF func196,underlying0,isAgg0,sizeOf0,zeroValue0,underlying3,isAgg3,sizeOf3,zeroValue3,underlying4,isAgg4,sizeOf4,zeroValue4,underlying5,isAgg5,sizeOf5,zeroValue5,underlying9,isAgg9,sizeOf9,zeroValue9,underlying77,isAgg77,sizeOf77,zeroValue77,underlying249,isAgg249,sizeOf249,zeroValue249,underlying137,isAgg137,sizeOf137,zeroValue137⟩
def Tryz.lays162_ren : Go.Shelf.Ren := ⟨fun | 162 => 289 | 232 => 178 | 227 => 160 | 234 => 179 | 236 => 180 | 228 => 218 | 271 => 242 | 151 => 225 | 120 => 290 | 197 => 224 | 152 => 216 | 260 => 275 | 137 => 221 | 119 => 270 | 224 => 271 | 225 => 272 | 217 => 273 | 266 => 302 | n => n, fun | 9 => 9 | 4 => 4 | 3 => 3 | 5 => 5 | 117 => 198 | 116 => 197 | 0 => 0 | 124 => 201 | 21 => 21 | 105 => 246 | 46 => 202 | 119 => 327 | 139 => 330 | 138 => 329 | n => n, fun | 3 => 4 | 4 => 5 | n => n⟩
theorem Tryz.lays162 : Go.Proofs.Lays.n162 Tryz.prog Tryz.lays162_ren := ⟨by kernel_rfl,zF func270,zF func290,zF func221,zF func225,zF func216,zF func289,zF func224,zF func273,zF func271,zF func272,zF func160,zF func218,zF func178,zF func179,zF func180,zF func275,zF func302,zF func242,underlying0,isAgg0,sizeOf0,zeroValue0,underlying3,isAgg3,sizeOf3,zeroValue3,underlying4,isAgg4,sizeOf4,zeroValue4,underlying5,isAgg5,sizeOf5,zeroValue5,underlying9,isAgg9,sizeOf9,zeroValue9,underlying21,isAgg21,sizeOf21,zeroValue21,underlying202,isAgg202,sizeOf202,zeroValue202,underlying246,isAgg246,sizeOf246,zeroValue246,underlying197,isAgg197,sizeOf197,underlying198,isAgg198,sizeOf198,zeroValue198,underlying327,isAgg327,sizeOf327,underlying201,isAgg201,sizeOf201,zeroValue201,underlying329,isAgg329,sizeOf329,zeroValue329,underlying330,isAgg330,sizeOf330,zeroValue330,by kernel_rfl,by kernel_rfl⟩
def Tryz.laysM171_ren : Go.Shelf.Ren := ⟨fun | 171 => 130 | 243 => 193 | 246 => 256 | 283 => 194 | 284 => 195 | 285 => 196 | 286 => 197 | 129 => 258 | 317 => 257 | 318 => 259 | 319 => 260 | 320 => 261 | 337 => 300 | 338 => 301 | n => n, fun | 3 => 3 | 9 => 9 | 2 => 2 | 4 => 4 | 171 => 222 | 0 => 0 | 53 => 137 | 37 => 77 | 5 => 5 | 173 => 225 | 212 => 287 | 51 => 249 | 20 => 20 | 213 => 288 | 46 => 202 | 232 => 339 | 233 => 340 | n => n, fun | 17 => 2 | 18 => 8 | 19 => 9 | n => n⟩
theorem Tryz.laysM171 : Go.Proofs.LaysM.n171 Tryz.prog Tryz.laysM171_ren := {
  mixed := by kernel_rfl
  f129 := zF func258
  f171 := zF func130
  f243 := zF func193
  f246 := zF func256
  f283 := zF func194
  f284 := zF func195
  f285 := zF func196
  f286 := zF func197
  f317 := zF func257
  f318 := zF func259
  f319 := zF func260
  f320 := zF func261
  f337 := zF func300
  f338 := zF func301
  t0 := underlying0
  a0 := isAgg0
  z0 := sizeOf0
  v0 := zeroValue0
  t2 := underlying2
  a2 := isAgg2
  z2 := sizeOf2
  v2 := zeroValue2
  t3 := underlying3
  a3 := isAgg3
  z3 := sizeOf3
  v3 := zeroValue3
  t4 := underlying4
  a4 := isAgg4
  z4 := sizeOf4
  v4 := zeroValue4
  t5 := underlying5
  a5 := isAgg5
  z5 := sizeOf5
  v5 := zeroValue5
  t9 := underlying9
  a9 := isAgg9
  z9 := sizeOf9
  v9 := zeroValue9
  t20 := underlying20
  a20 := isAgg20
  z20 := sizeOf20
  v20 := zeroValue20
  t37 := underlying77
  a37 := isAgg77
  z37 := sizeOf77
  v37 := zeroValue77
  t46 := underlying202
  a46 := isAgg202
  z46 := sizeOf202
  v46 := zeroValue202
  t51 := underlying249
  a51 := isAgg249
  z51 := sizeOf249
  v51 := zeroValue249
  t53 := underlying137
  a53 := isAgg137
  z53 := sizeOf137
  v53 := zeroValue137
  t171 := underlying222
  a171 := isAgg222
  z171 := sizeOf222
  v171 := zeroValue222
  t173 := underlying225
  a173 := isAgg225
  z173 := sizeOf225
  v173 := zeroValue225
  t212 := underlying287
  a212 := isAgg287
  z212 := sizeOf287
  v212 := zeroValue287
  t213 := underlying288
  a213 := isAgg288
  z213 := sizeOf288
  t232 := underlying339
  a232 := isAgg339
  z232 := sizeOf339
  v232 := zeroValue339
  t233 := underlying340
  a233 := isAgg340
  z233 := sizeOf340
  v233 := zeroValue340
  g17 := by kernel_rfl
  g18 := by kernel_rfl
  g19 := by kernel_rfl
  i0 := by kernel_rfl
  i2 := by kernel_rfl
  i3 := by kernel_rfl
  i4 := by kernel_rfl
  i5 := by kernel_rfl
  i9 := by kernel_rfl
  i20 := by kernel_rfl
  i37 := by kernel_rfl
  i46 := by kernel_rfl
  i51 := by kernel_rfl
  i53 := by kernel_rfl
  i171 := by kernel_rfl
  i173 := by kernel_rfl
  i212 := by kernel_rfl
  i232 := by kernel_rfl
  i233 := by kernel_rfl
  m17 := by kernel_rfl
  m18 := by kernel_rfl
  m19 := by kernel_rfl }
def Tryz.lays99_ren : Go.Shelf.Ren := ⟨fun | 99 => 164 | 206 => 228 | n => n, fun | 9 => 9 | 4 => 4 | 3 => 3 | n => n, fun | n => n⟩
theorem Tryz.lays99 : Go.Proofs.Lays.n99 Tryz.prog Tryz.lays99_ren := ⟨by kernel_rfl,zF func164,zF func228,underlying3,isAgg3,sizeOf3,zeroValue3,underlying4,isAgg4,sizeOf4,zeroValue4,underlying9,isAgg9,sizeOf9,zeroValue9⟩
def Tryz.lays105_ren : Go.Shelf.Ren := ⟨fun | 105 => 114 | 212 => 163 | 99 => 164 | 165 => 165 | 166 => 166 | 170 => 65 | 169 => 66 | 263 => 226 | 264 => 227 | 206 => 228 | 240 => 157 | 241 => 229 | 276 => 223 | 277 => 276 | n => n, fun | 9 => 9 | 3 => 3 | 4 => 4 | 20 => 20 | 0 => 0 | 46 => 202 | 109 => 203 | 5 => 5 | 72 => 109 | 76 => 205 | 51 => 249 | 146 => 250 | 53 => 137 | 148 => 252 | 70 => 107 | 37 => 77 | 75 => 157 | 127 => 165 | 164 => 238 | 80 => 38 | n => n, fun | n => n⟩
theorem Tryz.lays105 : Go.Proofs.Lays.n105 Tryz.prog Tryz.lays105_ren := ⟨by kernel_rfl,zF func164,zF func114,zF func165,zF func166,zF func66,zF func65,zF func228,zF func163,zF func157,zF func229,zF func226,zF func227,zF func223,zF func276,underlying0,isAgg0,sizeOf0,zeroValue0,underlying3,isAgg3,sizeOf3,zeroValue3,underlying4,isAgg4,sizeOf4,zeroValue4,underlying5,isAgg5,sizeOf5,zeroValue5,underlying9,isAgg9,sizeOf9,zeroValue9,underlying20,isAgg20,sizeOf20,zeroValue20,underlying77,isAgg77,sizeOf77,zeroValue77,underlying202,isAgg202,sizeOf202,zeroValue202,underlying249,isAgg249,sizeOf249,zeroValue249,underlying137,isAgg137,sizeOf137,zeroValue137,underlying107,isAgg107,sizeOf107,zeroValue107,underlying109,isAgg109,sizeOf109,zeroValue109,underlying157,isAgg157,sizeOf157,zeroValue157,underlying205,isAgg205,sizeOf205,zeroValue205,underlying203,isAgg203,sizeOf203,zeroValue203,underlying165,isAgg165,sizeOf165,zeroValue165,underlying250,isAgg250,sizeOf250,zeroValue250,underlying252,isAgg252,sizeOf252,zeroValue252,underlying238,isAgg238,sizeOf238,zeroValue238⟩
theorem Tryz.Builder_Extra_105 : Builder.Extra Tryz.prog Tryz.lays105_ren := {
  sizeBuilder := by kernel_rfl
  liesBuilder := by kernel_rfl
  t5 := underlying5
  a5 := isAgg5
  z5 := sizeOf5
  v5 := zeroValue5
  infoByte := by kernel_rfl
  cellsByte := by kernel_rfl
  sizeByte := by kernel_rfl
  neB5 := by decide }
end Go.Proofs
