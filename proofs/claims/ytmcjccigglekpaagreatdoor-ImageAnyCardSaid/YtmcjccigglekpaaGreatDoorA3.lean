/- Texts of this seat, joined. -/
import Derived.Shelf.LaysM
import Derived.Shelf.LaysC
import Derived.Shelf.Strconv.Itoa4
import Derived.Shelf.Strconv.ParseIntPublic10
import Derived.Shelf.Strings.Split
import Derived.Shelf.Strings.Cut
import Derived.Test.YtmcjccigglekpaaGreatDoorProg
import Derived.Test.YtmcjccigglekpaaGreatDoorA0
import Derived.Lib.LaidTab
import Derived.Lib.AppendIntMem
import Derived.Lib.ItoaMem
import Derived.Lib.ItoaLen
import Derived.Lib.Hide
import Derived.Test.YtmcjccigglekpaaGreatDoorA2
import Derived.Deep.RegionHeld3
import Derived.OrdersHeld
namespace Go.Proofs
open Go.Shelf
def Tryz.itoaM_ren : Go.Shelf.Ren := ⟨fun | 171 => 62 | 243 => 101 | 246 => 102 | 283 => 146 | 284 => 147 | 285 => 148 | 286 => 149 | 129 => 195 | 317 => 194 | 318 => 196 | 319 => 197 | 320 => 198 | 337 => 241 | 338 => 242 | n => n, fun | 3 => 3 | 9 => 9 | 2 => 2 | 4 => 4 | 171 => 222 | 0 => 0 | 53 => 88 | 37 => 48 | 5 => 5 | 173 => 225 | 212 => 277 | 51 => 278 | 20 => 20 | 213 => 279 | 46 => 229 | 232 => 345 | 233 => 346 | n => n, fun | 17 => 0 | 18 => 6 | 19 => 7 | n => n⟩
theorem Tryz.itoaM : Go.Proofs.LaysM.n171 Tryz.prog Tryz.itoaM_ren := {
 mixed := by kernel_rfl
 f129 := Tryz.func195.trans (congrArg some (by kernel_rfl))
 f171 := Tryz.func62.trans (congrArg some (by kernel_rfl))
 f243 := Tryz.func101.trans (congrArg some (by kernel_rfl))
 f246 := Tryz.func102.trans (congrArg some (by kernel_rfl))
 f283 := Tryz.func146.trans (congrArg some (by kernel_rfl))
 f284 := Tryz.func147.trans (congrArg some (by kernel_rfl))
 f285 := Tryz.func148.trans (congrArg some (by kernel_rfl))
 f286 := Tryz.func149.trans (congrArg some (by kernel_rfl))
 f317 := Tryz.func194.trans (congrArg some (by kernel_rfl))
 f318 := Tryz.func196.trans (congrArg some (by kernel_rfl))
 f319 := Tryz.func197.trans (congrArg some (by kernel_rfl))
 f320 := Tryz.func198.trans (congrArg some (by kernel_rfl))
 f337 := Tryz.func241.trans (congrArg some (by kernel_rfl))
 f338 := Tryz.func242.trans (congrArg some (by kernel_rfl))
 t0 := Tryz.underlying0
 a0 := Tryz.isAgg0
 z0 := Tryz.sizeOf0
 v0 := Tryz.zeroValue0
 t2 := Tryz.underlying2
 a2 := Tryz.isAgg2
 z2 := Tryz.sizeOf2
 v2 := Tryz.zeroValue2
 t3 := Tryz.underlying3
 a3 := Tryz.isAgg3
 z3 := Tryz.sizeOf3
 v3 := Tryz.zeroValue3
 t4 := Tryz.underlying4
 a4 := Tryz.isAgg4
 z4 := Tryz.sizeOf4
 v4 := Tryz.zeroValue4
 t5 := Tryz.underlying5
 a5 := Tryz.isAgg5
 z5 := Tryz.sizeOf5
 v5 := Tryz.zeroValue5
 t9 := Tryz.underlying9
 a9 := Tryz.isAgg9
 z9 := Tryz.sizeOf9
 v9 := Tryz.zeroValue9
 t20 := Tryz.underlying20
 a20 := Tryz.isAgg20
 z20 := Tryz.sizeOf20
 v20 := Tryz.zeroValue20
 t37 := Tryz.underlying48
 a37 := Tryz.isAgg48
 z37 := Tryz.sizeOf48
 v37 := Tryz.zeroValue48
 t46 := Tryz.underlying229
 a46 := Tryz.isAgg229
 z46 := Tryz.sizeOf229
 v46 := Tryz.zeroValue229
 t51 := Tryz.underlying278
 a51 := Tryz.isAgg278
 z51 := Tryz.sizeOf278
 v51 := Tryz.zeroValue278
 t53 := Tryz.underlying88
 a53 := Tryz.isAgg88
 z53 := Tryz.sizeOf88
 v53 := Tryz.zeroValue88
 t171 := Tryz.underlying222
 a171 := Tryz.isAgg222
 z171 := Tryz.sizeOf222
 v171 := Tryz.zeroValue222
 t173 := Tryz.underlying225
 a173 := Tryz.isAgg225
 z173 := Tryz.sizeOf225
 v173 := Tryz.zeroValue225
 t212 := Tryz.underlying277
 a212 := Tryz.isAgg277
 z212 := Tryz.sizeOf277
 v212 := Tryz.zeroValue277
 t213 := Tryz.underlying279
 a213 := Tryz.isAgg279
 z213 := Tryz.sizeOf279
 t232 := Tryz.underlying345
 a232 := Tryz.isAgg345
 z232 := Tryz.sizeOf345
 v232 := Tryz.zeroValue345
 t233 := Tryz.underlying346
 a233 := Tryz.isAgg346
 z233 := Tryz.sizeOf346
 v233 := Tryz.zeroValue346
 g17 := by kernel_rfl
 g18 := by kernel_rfl
 g19 := by kernel_rfl
 i0 := by kernel_rfl
 i2 := by kernel_rfl
 i3 := by kernel_rfl
 i4 := by kernel_rfl
 i5 := by kernel_rfl
 i9 := by kernel_rfl
 i20 := by kernel_rfl
 i37 := by kernel_rfl
 i46 := by kernel_rfl
 i51 := by kernel_rfl
 i53 := by kernel_rfl
 i171 := by kernel_rfl
 i173 := by kernel_rfl
 i212 := by kernel_rfl
 i232 := by kernel_rfl
 i233 := by kernel_rfl
 m17 := by kernel_rfl
 m18 := by kernel_rfl
 m19 := by kernel_rfl }
def Tryz.fmtM_ren : Go.Shelf.Ren := ⟨fun | 173 => 63 | 246 => 102 | 283 => 146 | 284 => 147 | 285 => 148 | 286 => 149 | 129 => 195 | 317 => 194 | 318 => 196 | 319 => 197 | 320 => 198 | 337 => 241 | 338 => 242 | n => n, fun | 2 => 2 | 3 => 3 | 9 => 9 | 4 => 4 | 171 => 222 | 0 => 0 | 53 => 88 | 37 => 48 | 5 => 5 | 173 => 225 | 212 => 277 | 51 => 278 | 20 => 20 | 213 => 279 | 46 => 229 | 232 => 345 | 233 => 346 | n => n, fun | 17 => 0 | 18 => 6 | 19 => 7 | n => n⟩
theorem Tryz.fmtM : Go.Proofs.LaysM.n173 Tryz.prog Tryz.fmtM_ren := {
 mixed := by kernel_rfl
 f129 := Tryz.func195.trans (congrArg some (by kernel_rfl))
 f173 := Tryz.func63.trans (congrArg some (by kernel_rfl))
 f246 := Tryz.func102.trans (congrArg some (by kernel_rfl))
 f283 := Tryz.func146.trans (congrArg some (by kernel_rfl))
 f284 := Tryz.func147.trans (congrArg some (by kernel_rfl))
 f285 := Tryz.func148.trans (congrArg some (by kernel_rfl))
 f286 := Tryz.func149.trans (congrArg some (by kernel_rfl))
 f317 := Tryz.func194.trans (congrArg some (by kernel_rfl))
 f318 := Tryz.func196.trans (congrArg some (by kernel_rfl))
 f319 := Tryz.func197.trans (congrArg some (by kernel_rfl))
 f320 := Tryz.func198.trans (congrArg some (by kernel_rfl))
 f337 := Tryz.func241.trans (congrArg some (by kernel_rfl))
 f338 := Tryz.func242.trans (congrArg some (by kernel_rfl))
 t0 := Tryz.underlying0
 a0 := Tryz.isAgg0
 z0 := Tryz.sizeOf0
 v0 := Tryz.zeroValue0
 t2 := Tryz.underlying2
 a2 := Tryz.isAgg2
 z2 := Tryz.sizeOf2
 v2 := Tryz.zeroValue2
 t3 := Tryz.underlying3
 a3 := Tryz.isAgg3
 z3 := Tryz.sizeOf3
 v3 := Tryz.zeroValue3
 t4 := Tryz.underlying4
 a4 := Tryz.isAgg4
 z4 := Tryz.sizeOf4
 v4 := Tryz.zeroValue4
 t5 := Tryz.underlying5
 a5 := Tryz.isAgg5
 z5 := Tryz.sizeOf5
 v5 := Tryz.zeroValue5
 t9 := Tryz.underlying9
 a9 := Tryz.isAgg9
 z9 := Tryz.sizeOf9
 v9 := Tryz.zeroValue9
 t20 := Tryz.underlying20
 a20 := Tryz.isAgg20
 z20 := Tryz.sizeOf20
 v20 := Tryz.zeroValue20
 t37 := Tryz.underlying48
 a37 := Tryz.isAgg48
 z37 := Tryz.sizeOf48
 v37 := Tryz.zeroValue48
 t46 := Tryz.underlying229
 a46 := Tryz.isAgg229
 z46 := Tryz.sizeOf229
 v46 := Tryz.zeroValue229
 t51 := Tryz.underlying278
 a51 := Tryz.isAgg278
 z51 := Tryz.sizeOf278
 v51 := Tryz.zeroValue278
 t53 := Tryz.underlying88
 a53 := Tryz.isAgg88
 z53 := Tryz.sizeOf88
 v53 := Tryz.zeroValue88
 t171 := Tryz.underlying222
 a171 := Tryz.isAgg222
 z171 := Tryz.sizeOf222
 v171 := Tryz.zeroValue222
 t173 := Tryz.underlying225
 a173 := Tryz.isAgg225
 z173 := Tryz.sizeOf225
 v173 := Tryz.zeroValue225
 t212 := Tryz.underlying277
 a212 := Tryz.isAgg277
 z212 := Tryz.sizeOf277
 v212 := Tryz.zeroValue277
 t213 := Tryz.underlying279
 a213 := Tryz.isAgg279
 z213 := Tryz.sizeOf279
 t232 := Tryz.underlying345
 a232 := Tryz.isAgg345
 z232 := Tryz.sizeOf345
 v232 := Tryz.zeroValue345
 t233 := Tryz.underlying346
 a233 := Tryz.isAgg346
 z233 := Tryz.sizeOf346
 v233 := Tryz.zeroValue346
 g17 := by kernel_rfl
 g18 := by kernel_rfl
 g19 := by kernel_rfl
 i0 := by kernel_rfl
 i2 := by kernel_rfl
 i3 := by kernel_rfl
 i4 := by kernel_rfl
 i5 := by kernel_rfl
 i9 := by kernel_rfl
 i20 := by kernel_rfl
 i37 := by kernel_rfl
 i46 := by kernel_rfl
 i51 := by kernel_rfl
 i53 := by kernel_rfl
 i171 := by kernel_rfl
 i173 := by kernel_rfl
 i212 := by kernel_rfl
 i232 := by kernel_rfl
 i233 := by kernel_rfl
 m17 := by kernel_rfl
 m18 := by kernel_rfl
 m19 := by kernel_rfl }
def Tryz.pintC_ren : Go.Shelf.Ren := ⟨fun | 174 => 90 | 247 => 122 | 245 => 123 | 287 => 158 | 279 => 159 | 280 => 160 | 281 => 161 | 282 => 162 | 321 => 204 | 322 => 205 | 316 => 206 | 171 => 62 | 205 => 207 | 243 => 101 | 246 => 102 | 283 => 146 | 284 => 147 | 285 => 148 | 286 => 149 | 129 => 195 | 317 => 194 | 318 => 196 | 319 => 197 | 320 => 198 | 337 => 241 | 338 => 242 | n => n, fun | 9 => 9 | 3 => 3 | 2 => 2 | 75 => 137 | 85 => 157 | 4 => 4 | 167 => 234 | 5 => 5 | 53 => 88 | 175 => 235 | 46 => 229 | 168 => 237 | 37 => 48 | 0 => 0 | 210 => 284 | 21 => 21 | 127 => 146 | 145 => 315 | 143 => 313 | 171 => 222 | 173 => 225 | 212 => 277 | 51 => 278 | 20 => 20 | 213 => 279 | 232 => 345 | 233 => 346 | 80 => 83 | n => n, fun | 15 => 2 | 16 => 3 | 17 => 0 | 18 => 6 | 19 => 7 | n => n⟩
theorem Tryz.pintC : Go.Proofs.LaysC.n174 Tryz.prog Tryz.pintC_ren := {
 mixed := by kernel_rfl
 f129 := Tryz.func195.trans (congrArg some (by kernel_rfl))
 f171 := Tryz.func62.trans (congrArg some (by kernel_rfl))
 f174 := Tryz.func90.trans (congrArg some (by kernel_rfl))
 f205 := Tryz.func207.trans (congrArg some (by kernel_rfl))
 f243 := Tryz.func101.trans (congrArg some (by kernel_rfl))
 f245 := Tryz.func123.trans (congrArg some (by kernel_rfl))
 f246 := Tryz.func102.trans (congrArg some (by kernel_rfl))
 f247 := Tryz.func122.trans (congrArg some (by kernel_rfl))
 f279 := Tryz.func159.trans (congrArg some (by kernel_rfl))
 f280 := Tryz.func160.trans (congrArg some (by kernel_rfl))
 f281 := Tryz.func161.trans (congrArg some (by kernel_rfl))
 f282 := Tryz.func162.trans (congrArg some (by kernel_rfl))
 f283 := Tryz.func146.trans (congrArg some (by kernel_rfl))
 f284 := Tryz.func147.trans (congrArg some (by kernel_rfl))
 f285 := Tryz.func148.trans (congrArg some (by kernel_rfl))
 f286 := Tryz.func149.trans (congrArg some (by kernel_rfl))
 f287 := Tryz.func158.trans (congrArg some (by kernel_rfl))
 f316 := Tryz.func206.trans (congrArg some (by kernel_rfl))
 f317 := Tryz.func194.trans (congrArg some (by kernel_rfl))
 f318 := Tryz.func196.trans (congrArg some (by kernel_rfl))
 f319 := Tryz.func197.trans (congrArg some (by kernel_rfl))
 f320 := Tryz.func198.trans (congrArg some (by kernel_rfl))
 f321 := Tryz.func204.trans (congrArg some (by kernel_rfl))
 f322 := Tryz.func205.trans (congrArg some (by kernel_rfl))
 f337 := Tryz.func241.trans (congrArg some (by kernel_rfl))
 f338 := Tryz.func242.trans (congrArg some (by kernel_rfl))
 t0 := Tryz.underlying0
 a0 := Tryz.isAgg0
 z0 := Tryz.sizeOf0
 v0 := Tryz.zeroValue0
 t2 := Tryz.underlying2
 a2 := Tryz.isAgg2
 z2 := Tryz.sizeOf2
 v2 := Tryz.zeroValue2
 t3 := Tryz.underlying3
 a3 := Tryz.isAgg3
 z3 := Tryz.sizeOf3
 v3 := Tryz.zeroValue3
 t4 := Tryz.underlying4
 a4 := Tryz.isAgg4
 z4 := Tryz.sizeOf4
 v4 := Tryz.zeroValue4
 t5 := Tryz.underlying5
 a5 := Tryz.isAgg5
 z5 := Tryz.sizeOf5
 v5 := Tryz.zeroValue5
 t9 := Tryz.underlying9
 a9 := Tryz.isAgg9
 z9 := Tryz.sizeOf9
 v9 := Tryz.zeroValue9
 t20 := Tryz.underlying20
 a20 := Tryz.isAgg20
 z20 := Tryz.sizeOf20
 v20 := Tryz.zeroValue20
 t21 := Tryz.underlying21
 a21 := Tryz.isAgg21
 z21 := Tryz.sizeOf21
 v21 := Tryz.zeroValue21
 t37 := Tryz.underlying48
 a37 := Tryz.isAgg48
 z37 := Tryz.sizeOf48
 v37 := Tryz.zeroValue48
 t46 := Tryz.underlying229
 a46 := Tryz.isAgg229
 z46 := Tryz.sizeOf229
 v46 := Tryz.zeroValue229
 t51 := Tryz.underlying278
 a51 := Tryz.isAgg278
 z51 := Tryz.sizeOf278
 v51 := Tryz.zeroValue278
 t53 := Tryz.underlying88
 a53 := Tryz.isAgg88
 z53 := Tryz.sizeOf88
 v53 := Tryz.zeroValue88
 t75 := Tryz.underlying137
 a75 := Tryz.isAgg137
 z75 := Tryz.sizeOf137
 v75 := Tryz.zeroValue137
 t85 := Tryz.underlying157
 a85 := Tryz.isAgg157
 z85 := Tryz.sizeOf157
 v85 := Tryz.zeroValue157
 t127 := Tryz.underlying146
 a127 := Tryz.isAgg146
 z127 := Tryz.sizeOf146
 v127 := Tryz.zeroValue146
 t143 := Tryz.underlying313
 a143 := Tryz.isAgg313
 z143 := Tryz.sizeOf313
 v143 := Tryz.zeroValue313
 t145 := Tryz.underlying315
 a145 := Tryz.isAgg315
 z145 := Tryz.sizeOf315
 v145 := Tryz.zeroValue315
 t167 := Tryz.underlying234
 a167 := Tryz.isAgg234
 z167 := Tryz.sizeOf234
 v167 := Tryz.zeroValue234
 t168 := Tryz.underlying237
 a168 := Tryz.isAgg237
 z168 := Tryz.sizeOf237
 v168 := Tryz.zeroValue237
 t171 := Tryz.underlying222
 a171 := Tryz.isAgg222
 z171 := Tryz.sizeOf222
 v171 := Tryz.zeroValue222
 t173 := Tryz.underlying225
 a173 := Tryz.isAgg225
 z173 := Tryz.sizeOf225
 v173 := Tryz.zeroValue225
 t175 := Tryz.underlying235
 a175 := Tryz.isAgg235
 z175 := Tryz.sizeOf235
 v175 := Tryz.zeroValue235
 t210 := Tryz.underlying284
 a210 := Tryz.isAgg284
 z210 := Tryz.sizeOf284
 v210 := Tryz.zeroValue284
 t212 := Tryz.underlying277
 a212 := Tryz.isAgg277
 z212 := Tryz.sizeOf277
 v212 := Tryz.zeroValue277
 t213 := Tryz.underlying279
 a213 := Tryz.isAgg279
 z213 := Tryz.sizeOf279
 t232 := Tryz.underlying345
 a232 := Tryz.isAgg345
 z232 := Tryz.sizeOf345
 v232 := Tryz.zeroValue345
 t233 := Tryz.underlying346
 a233 := Tryz.isAgg346
 z233 := Tryz.sizeOf346
 v233 := Tryz.zeroValue346
 g15 := by kernel_rfl
 g16 := by kernel_rfl
 g17 := by kernel_rfl
 g18 := by kernel_rfl
 g19 := by kernel_rfl
 t80 := Tryz.underlying83
 a80 := Tryz.isAgg83
 z80 := Tryz.sizeOf83
 v80 := Tryz.zeroValue83
 i0 := by kernel_rfl
 i2 := by kernel_rfl
 i3 := by kernel_rfl
 i4 := by kernel_rfl
 i5 := by kernel_rfl
 i9 := by kernel_rfl
 i20 := by kernel_rfl
 i21 := by kernel_rfl
 i37 := by kernel_rfl
 i46 := by kernel_rfl
 i51 := by kernel_rfl
 i53 := by kernel_rfl
 i75 := by kernel_rfl
 i80 := by kernel_rfl
 i85 := by kernel_rfl
 i127 := by kernel_rfl
 i143 := by kernel_rfl
 i145 := by kernel_rfl
 i167 := by kernel_rfl
 i168 := by kernel_rfl
 i171 := by kernel_rfl
 i173 := by kernel_rfl
 i175 := by kernel_rfl
 i210 := by kernel_rfl
 i212 := by kernel_rfl
 i232 := by kernel_rfl
 i233 := by kernel_rfl
 m15 := by kernel_rfl
 m16 := by kernel_rfl
 m17 := by kernel_rfl
 m18 := by kernel_rfl
 m19 := by kernel_rfl
 c0 := by kernel_rfl
 c2 := by kernel_rfl
 c3 := by kernel_rfl
 c4 := by kernel_rfl
 c5 := by kernel_rfl
 c9 := by kernel_rfl
 c20 := by kernel_rfl
 c21 := by kernel_rfl
 c37 := by kernel_rfl
 c46 := by kernel_rfl
 c51 := by kernel_rfl
 c53 := by kernel_rfl
 c75 := by kernel_rfl
 c80 := by kernel_rfl
 c85 := by kernel_rfl
 c127 := by kernel_rfl
 c143 := by kernel_rfl
 c145 := by kernel_rfl
 c167 := by kernel_rfl
 c168 := by kernel_rfl
 c171 := by kernel_rfl
 c173 := by kernel_rfl
 c175 := by kernel_rfl
 c210 := by kernel_rfl
 c212 := by kernel_rfl
 c213 := by kernel_rfl
 c232 := by kernel_rfl
 c233 := by kernel_rfl }
def Tryz.splitL_ren : Go.Shelf.Ren := ⟨fun | 146 => 46 | 221 => 89 | 268 => 119 | 138 => 120 | 143 => 121 | 195 => 155 | 197 => 156 | 218 => 157 | 219 => 154 | 260 => 203 | 217 => 199 | 225 => 200 | 224 => 201 | 267 => 202 | 266 => 243 | 314 => 244 | n => n, fun | 9 => 9 | 31 => 103 | 3 => 3 | 4 => 4 | 0 => 0 | 105 => 231 | 21 => 21 | 5 => 5 | 46 => 229 | 119 => 309 | 139 => 312 | 138 => 311 | 146 => 307 | 51 => 278 | n => n, fun | 1 => 1 | 3 => 4 | 4 => 5 | n => n⟩
theorem Tryz.splitL : Go.Proofs.Lays.n146 Tryz.prog Tryz.splitL_ren := {
 mixed := by kernel_rfl
 f138 := Tryz.func120.trans (congrArg some (by kernel_rfl))
 f143 := Tryz.func121.trans (congrArg some (by kernel_rfl))
 f146 := Tryz.func46.trans (congrArg some (by kernel_rfl))
 f195 := Tryz.func155.trans (congrArg some (by kernel_rfl))
 f197 := Tryz.func156.trans (congrArg some (by kernel_rfl))
 f217 := Tryz.func199.trans (congrArg some (by kernel_rfl))
 f218 := Tryz.func157.trans (congrArg some (by kernel_rfl))
 f219 := Tryz.func154.trans (congrArg some (by kernel_rfl))
 f221 := Tryz.func89.trans (congrArg some (by kernel_rfl))
 f224 := Tryz.func201.trans (congrArg some (by kernel_rfl))
 f225 := Tryz.func200.trans (congrArg some (by kernel_rfl))
 f260 := Tryz.func203.trans (congrArg some (by kernel_rfl))
 f266 := Tryz.func243.trans (congrArg some (by kernel_rfl))
 f267 := Tryz.func202.trans (congrArg some (by kernel_rfl))
 f268 := Tryz.func119.trans (congrArg some (by kernel_rfl))
 f314 := Tryz.func244.trans (congrArg some (by kernel_rfl))
 t0 := Tryz.underlying0
 a0 := Tryz.isAgg0
 z0 := Tryz.sizeOf0
 v0 := Tryz.zeroValue0
 t3 := Tryz.underlying3
 a3 := Tryz.isAgg3
 z3 := Tryz.sizeOf3
 v3 := Tryz.zeroValue3
 t4 := Tryz.underlying4
 a4 := Tryz.isAgg4
 z4 := Tryz.sizeOf4
 v4 := Tryz.zeroValue4
 t5 := Tryz.underlying5
 a5 := Tryz.isAgg5
 z5 := Tryz.sizeOf5
 v5 := Tryz.zeroValue5
 t9 := Tryz.underlying9
 a9 := Tryz.isAgg9
 z9 := Tryz.sizeOf9
 v9 := Tryz.zeroValue9
 t21 := Tryz.underlying21
 a21 := Tryz.isAgg21
 z21 := Tryz.sizeOf21
 v21 := Tryz.zeroValue21
 t31 := Tryz.underlying103
 a31 := Tryz.isAgg103
 z31 := Tryz.sizeOf103
 v31 := Tryz.zeroValue103
 t46 := Tryz.underlying229
 a46 := Tryz.isAgg229
 z46 := Tryz.sizeOf229
 v46 := Tryz.zeroValue229
 t51 := Tryz.underlying278
 a51 := Tryz.isAgg278
 z51 := Tryz.sizeOf278
 v51 := Tryz.zeroValue278
 t105 := Tryz.underlying231
 a105 := Tryz.isAgg231
 z105 := Tryz.sizeOf231
 v105 := Tryz.zeroValue231
 t119 := Tryz.underlying309
 a119 := Tryz.isAgg309
 z119 := Tryz.sizeOf309
 t138 := Tryz.underlying311
 a138 := Tryz.isAgg311
 z138 := Tryz.sizeOf311
 v138 := Tryz.zeroValue311
 t139 := Tryz.underlying312
 a139 := Tryz.isAgg312
 z139 := Tryz.sizeOf312
 v139 := Tryz.zeroValue312
 t146 := Tryz.underlying307
 a146 := Tryz.isAgg307
 z146 := Tryz.sizeOf307
 v146 := Tryz.zeroValue307
 g1 := by kernel_rfl
 g3 := by kernel_rfl
 g4 := by kernel_rfl }
def Tryz.cutL_ren : Go.Shelf.Ren := ⟨fun | 145 => 88 | 220 => 118 | 219 => 154 | 217 => 199 | 225 => 200 | 224 => 201 | 267 => 202 | 266 => 243 | 314 => 244 | n => n, fun | 9 => 9 | 4 => 4 | 59 => 154 | 3 => 3 | 5 => 5 | 46 => 229 | 146 => 307 | 51 => 278 | n => n, fun | 1 => 1 | n => n⟩
theorem Tryz.cutL : Go.Proofs.Lays.n145 Tryz.prog Tryz.cutL_ren := {
 mixed := by kernel_rfl
 f145 := Tryz.func88.trans (congrArg some (by kernel_rfl))
 f217 := Tryz.func199.trans (congrArg some (by kernel_rfl))
 f219 := Tryz.func154.trans (congrArg some (by kernel_rfl))
 f220 := Tryz.func118.trans (congrArg some (by kernel_rfl))
 f224 := Tryz.func201.trans (congrArg some (by kernel_rfl))
 f225 := Tryz.func200.trans (congrArg some (by kernel_rfl))
 f266 := Tryz.func243.trans (congrArg some (by kernel_rfl))
 f267 := Tryz.func202.trans (congrArg some (by kernel_rfl))
 f314 := Tryz.func244.trans (congrArg some (by kernel_rfl))
 t3 := Tryz.underlying3
 a3 := Tryz.isAgg3
 z3 := Tryz.sizeOf3
 v3 := Tryz.zeroValue3
 t4 := Tryz.underlying4
 a4 := Tryz.isAgg4
 z4 := Tryz.sizeOf4
 v4 := Tryz.zeroValue4
 t5 := Tryz.underlying5
 a5 := Tryz.isAgg5
 z5 := Tryz.sizeOf5
 v5 := Tryz.zeroValue5
 t9 := Tryz.underlying9
 a9 := Tryz.isAgg9
 z9 := Tryz.sizeOf9
 v9 := Tryz.zeroValue9
 t46 := Tryz.underlying229
 a46 := Tryz.isAgg229
 z46 := Tryz.sizeOf229
 v46 := Tryz.zeroValue229
 t51 := Tryz.underlying278
 a51 := Tryz.isAgg278
 z51 := Tryz.sizeOf278
 v51 := Tryz.zeroValue278
 t59 := Tryz.underlying154
 a59 := Tryz.isAgg154
 z59 := Tryz.sizeOf154
 v59 := Tryz.zeroValue154
 t146 := Tryz.underlying307
 a146 := Tryz.isAgg307
 z146 := Tryz.sizeOf307
 v146 := Tryz.zeroValue307
 g1 := by kernel_rfl }
end Go.Proofs
namespace Go.Proofs.YtmcjccigglekpaaGreatDoor.Given
open Go Go.RowKit Go.Proofs Go.Proofs.YtmcjccigglekpaaGreatDoorW.PrintWords Go.Lib Go.Sort

/-- A cell holds an error, or none. -/
def ErrCell (w : World) (g : Nat) : Prop := ∃ ev, w.cell? ⟨g, 0, none⟩ = some ev ∧ (ev = .nilIface ∨ ∃ te pe, ev = .iface te pe)
/-- The library's variables: the table of powers, the two errors, a number. -/
def GL (w : World) : Prop := Lib.TabIs Tryz.prog w "internal/strconv.uint64pow10" .u64 Lib.pow10Tab ∧ ErrCell w 2 ∧ ErrCell w 3 ∧ ∃ m, w.cell? ⟨1, 0, none⟩ = some (.int .i64 m)
theorem cell_on {w w' : World} {g : Nat} {v : Value} (h : w.cell? ⟨g, 0, none⟩ = some v) (hb : Below w.heap.size w w') : w'.cell? ⟨g, 0, none⟩ = some v := (hb.cell (World.block_lt_of_cell? w _ h)).trans h
theorem ErrCell.below {w w' : World} {g : Nat} (h : ErrCell w g) (hb : Below w.heap.size w w') : ErrCell w' g := h.elim fun ev hv => ⟨ev, cell_on hv.1 hb, hv.2⟩
theorem GL.below {w w' : World} (h : GL w) (hb : Below w.heap.size w w') : GL w' :=
 ⟨((Lib.tabBelow_of_tabIs h.1).on hb).here, h.2.1.below hb, h.2.2.1.below hb, h.2.2.2.elim fun m hm => ⟨m, cell_on hm hb⟩⟩
theorem below_grow (w : World) (k : Nat) (os : Array Obj) : Below w.heap.size w (grow (w.drewN k) os) :=
 ⟨rfl, rfl, rfl, by simp [grow, World.drewN], fun i hi => by simp [grow, World.drewN, Array.getElem?_append_left hi]⟩
theorem below_drewN (w : World) (k : Nat) : Below w.heap.size w (w.drewN k) := ⟨rfl, rfl, rfl, by simp [World.drewN], fun _ _ => rfl⟩

/-- A number of 64 bits. -/
def R64 (n : Int) : Prop := -9223372036854775808 ≤ n ∧ n ≤ 9223372036854775807
/-- A number as text. -/
def itoS (n : Int) : ByteArray := ⟨(Lib.itoa n).toArray⟩
theorem itoa_calls (n : Int) (hn : R64 n) (w : World) (hG : GL w) : Calls Tryz.prog 62 #[.int .i64 n] w fun e w' => e = .returned (.string (itoS n)) ∧ Below w.heap.size w w' := by
 refine Calls.mono (Any.strconv_Itoa Tryz.itoaM n hn.1 hn.2 w hG.1) ?_
 rintro e w' ⟨rfl, k, os, rfl⟩
 exact ⟨rfl, below_grow w k os⟩
theorem fmt_calls (n : Int) (hn : R64 n) (w : World) (hG : GL w) : Calls Tryz.prog 63 #[.int .i64 n, .int .i64 10] w fun e w' => e = .returned (.string (itoS n)) ∧ Below w.heap.size w w' := by
 refine Calls.mono (Any.strconv_FormatInt_10 Tryz.fmtM n hn.1 hn.2 w hG.1) ?_
 rintro e w' ⟨rfl, k, os, rfl⟩
 exact ⟨rfl, below_grow w k os⟩

/-- What strings.Cut tells. -/
def cutA (s sep : ByteArray) : ByteArray := ⟨(Lib.cut s.data.toList sep.data.toList).1.toArray⟩
def cutB (s sep : ByteArray) : ByteArray := ⟨(Lib.cut s.data.toList sep.data.toList).2.1.toArray⟩
def cutC (s sep : ByteArray) : Bool := (Lib.cut s.data.toList sep.data.toList).2.2
theorem cut_calls (s sep : ByteArray) (hs : s.size ≤ 1000000) (w : World) (hG : GL w) : Calls Tryz.prog 88 #[.string s, .string sep] w fun e w' => e = .returned (.tuple #[.string (cutA s sep), .string (cutB s sep), .bool (cutC s sep)]) ∧ ∃ n, w' = w.drewN n := by
 obtain ⟨_, _, _, m, hm⟩ := hG
 exact Any.strings_Cut Tryz.cutL s sep m w (by omega) hm

/-- The space. -/
def sp : ByteArray := ⟨#[32]⟩
/-- The pieces of a text. -/
def piecesB (s : ByteArray) : List ByteArray := Lib.splitB sp 0 (Lib.countB s sp) s
theorem split_calls (s : ByteArray) (hs : s.size ≤ 1000000) (w : World) (hG : GL w) : Calls Tryz.prog 46 #[.string s, .string ⟨#[32]⟩] w fun e w' =>
  e = .returned (.slice (some ⟨w.heap.size, 0, none⟩) (piecesB s).length (piecesB s).length) ∧ w' = w.alloc (.cells ((piecesB s).map Value.string).toArray 9) := by
 obtain ⟨_, _, _, m, hm⟩ := hG
 have hl : (piecesB s).length = Lib.countB s sp + 1 := Lib.splitB_all sp (by decide) 0 _ s rfl
 have h := Any.strings_Split Tryz.splitL (by kernel_rfl) s sp m w (by omega) hm (by decide)
 rw [hl]
 exact h
end Go.Proofs.YtmcjccigglekpaaGreatDoor.Given
namespace Go.Proofs.YtmcjccigglekpaaGreatDoor.Given
open Go Go.RowKit Go.Proofs Go.Proofs.YtmcjccigglekpaaGreatDoorW.PrintWords Go.Proofs.YtmcjccigglekpaaGreatDoorW.PrintLast Go.Proofs.YtmcjccigglekpaaGreatDoorW.PrintMore Go.Proofs.YtmcjccigglekpaaGreatDoor.P

/-- The library's variables, whatever is done from B on. -/
def GLB (B : Nat) (w : World) : Prop := ∀ w', Below B w w' → GL w'
theorem GLB.on {B : Nat} {w w' : World} (h : GLB B w) (hb : Below B w w') : GLB B w' := fun _ h2 => h _ (hb.trans h2)
theorem GLB.here {B : Nat} {w : World} (h : GLB B w) : GL w := h w (Below.refl _ _)
theorem GLB.of {w : World} (h : GL w) : GLB w.heap.size w := fun _ hb => h.below hb

/-- A pen that holds t, and what it needs. -/
structure Pw (B b : Nat) (t : ByteArray) (w : World) : Prop where
 pen : Pen B b t w
 base : B ≤ w.heap.size
 gl : GLB B w
theorem Pw.below {B b : Nat} {t : ByteArray} {w w' : World} (h : Pw B b t w) (hb : Below w.heap.size w w') : Pw B b t w' :=
 ⟨h.pen.below hb, Nat.le_trans h.base hb.size, h.gl.on (hb.mono h.base)⟩
/-- What a pen's method leaves. -/
def PPost (B b : Nat) (t : ByteArray) (v : Value) (w : World) (e : Ending) (w' : World) : Prop := e = .returned v ∧ Pw B b t w' ∧ Below B w w' ∧ Kept b w w'
theorem pw_step {B b : Nat} {t : ByteArray} {w w' : World} (h : Pw B b t w) {t' : ByteArray} (hp : Pen B b t' w') (hb : Below B w w') : Pw B b t' w' :=
 ⟨hp, Nat.le_trans h.base hb.size, h.gl.on hb⟩

theorem pfin {B b : Nat} {w w1 w2 w3 : World} (hB : B ≤ w1.heap.size) (hb1 : Below B w w1) (hk1 : Kept b w w1) (hb2 : Below w1.drew.heap.size w1.drew w2) (hb3 : Below B w2 w3) (hk3 : Kept b w2 w3) : Below B w w3 ∧ Kept b w w3 :=
 have hd : Below w1.heap.size w1 w2 := ((Below.refl _ _).drew).trans hb2
 ⟨(hb1.trans (hd.mono hB)).trans hb3, (hk1.below hd).trans hk3⟩

theorem wByte (B b : Nat) (t : ByteArray) (c : UInt8) (w : World) (h : Pw B b t w) (hlen : t.size + 1 ≤ 140737488355328) :
  Calls Tryz.prog 61 #[.pointer (some ⟨b, 0, none⟩), .int .u8 c.toNat] w (PPost B b (t ++ ⟨#[c]⟩) .nilIface w) := by
 refine (pen_WriteByte B b t c w h.pen hlen h.base).mono ?_
 rintro e w' ⟨rfl, h1, h2, h3⟩
 exact ⟨rfl, pw_step h h1 h2, h2, h3⟩
theorem wString (B b : Nat) (t s : ByteArray) (w : World) (h : Pw B b t w) (hlen : t.size + s.size ≤ 140737488355328) :
  Calls Tryz.prog 60 #[.pointer (some ⟨b, 0, none⟩), .string s] w (PPost B b (t ++ s) (.tuple #[.int .i64 s.size, .nilIface]) w) := by
 refine (pen_WriteString B b t s w h.pen hlen h.base).mono ?_
 rintro e w' ⟨rfl, h1, h2, h3⟩
 exact ⟨rfl, pw_step h h1 h2, h2, h3⟩

set_option maxHeartbeats 400000 in
theorem pen_word (B b : Nat) (t s : ByteArray) (w : World) (h : Pw B b t w) (hlen : t.size + s.size ≤ 140737488355328) :
  Calls Tryz.prog 21 #[.pointer (some ⟨b, 0, none⟩), .string s] w (PPost B b (t ++ s) (.pointer (some ⟨b, 0, none⟩)) w) := by
 have D := Lib.hid (wString B b t s w h hlen)
 clear h hlen
 go_enter Tryz.func21, Tryz.ntmps21
 go_wp2_with (go_at_call 60; (with_reducible refine D.out.mono ?_); clear D; rintro e w1 ⟨rfl, h1⟩)
 go_ret
 exact ⟨rfl, h1⟩

set_option maxHeartbeats 400000 in
theorem pen_end (B b : Nat) (t : ByteArray) (w : World) (h : Pw B b t w) (hlen : t.size + 1 ≤ 140737488355328) :
  Calls Tryz.prog 23 #[.pointer (some ⟨b, 0, none⟩)] w (PPost B b (t ++ ⟨#[10]⟩) (.tuple #[]) w) := by
 have D := Lib.hid (show Calls Tryz.prog 61 #[.pointer (some ⟨b, 0, none⟩), .int .u8 10] w (PPost B b (t ++ ⟨#[10]⟩) .nilIface w) from wByte B b t 10 w h hlen)
 clear h hlen
 go_enter Tryz.func23, Tryz.ntmps23
 go_wp2_with (go_at_call 61; (with_reducible refine D.out.mono ?_); clear D; rintro e w1 ⟨rfl, h1⟩)
 go_end0
 exact ⟨rfl, h1⟩

set_option maxHeartbeats 400000 in
theorem pen_wide (B b : Nat) (t : ByteArray) (n : Int) (hn : R64 n) (w : World) (h : Pw B b t w) (hlen : t.size + (1 + (itoS n).size) ≤ 140737488355328) :
  Calls Tryz.prog 24 #[.pointer (some ⟨b, 0, none⟩), .int .i64 n] w (PPost B b (t ++ (⟨#[32]⟩ ++ itoS n)) (.pointer (some ⟨b, 0, none⟩)) w) := by
 have D := Lib.hid (show Calls Tryz.prog 61 #[.pointer (some ⟨b, 0, none⟩), .int .u8 32] w (PPost B b (t ++ ⟨#[32]⟩) .nilIface w) from wByte B b t 32 w h (by omega))
 have D1 : Hid (∀ w', Pw B b (t ++ ⟨#[32]⟩) w' → Calls Tryz.prog 63 #[.int .i64 n, .int .i64 10] w' fun e w'' => e = .returned (.string (itoS n)) ∧ Below w'.heap.size w' w'') := Lib.hid fun w' h' => fmt_calls n hn w' h'.gl.here
 have D2 : Hid (∀ w', Pw B b (t ++ ⟨#[32]⟩) w' → Calls Tryz.prog 60 #[.pointer (some ⟨b, 0, none⟩), .string (itoS n)] w' (PPost B b (t ++ ⟨#[32]⟩ ++ itoS n) (.tuple #[.int .i64 (itoS n).size, .nilIface]) w')) := Lib.hid fun w' h' => wString B b (t ++ ⟨#[32]⟩) (itoS n) w' h' (by rw [ByteArray.size_append]; have : (⟨#[32]⟩ : ByteArray).size = 1 := rfl; omega)
 rw [← ByteArray.append_assoc]
 clear h hlen
 generalize itoS n = s at *
 go_enter Tryz.func24, Tryz.ntmps24
 go_wp2_with (go_at_call 61; (with_reducible refine D.out.mono ?_); clear D; rintro e w1 ⟨rfl, h1, hb1, hk1⟩)
 go_region_held3 (fun _ => True) (exact trivial) (first | (go_at_call 63; (with_reducible refine (D1.out _ ?_).mono ?_); clear D1; (exact h1.below (Below.refl _ _).drew); rintro e w2 ⟨rfl, hb2⟩) | (go_at_call 60; (with_reducible refine (D2.out _ ?_).mono ?_); clear D2; (exact (h1.below (Below.refl _ _).drew).below hb2); rintro e w3 ⟨rfl, h3, hb3, hk3⟩))
 go_wp2
 go_ret
 exact ⟨rfl, h3, pfin h1.base hb1 hk1 hb2 hb3 hk3⟩

/-- Numbers, a space ahead of each. -/
def numsT : List Int → ByteArray
 | [] => ⟨#[]⟩
 | n :: l => ⟨#[32]⟩ ++ itoS n ++ numsT l
theorem numsT_append (l : List Int) (n : Int) : numsT (l ++ [n]) = numsT l ++ (⟨#[32]⟩ ++ itoS n) := by
 induction l with
 | nil => show ⟨#[32]⟩ ++ itoS n ++ ⟨#[]⟩ = ⟨#[]⟩ ++ (⟨#[32]⟩ ++ itoS n); exact (ByteArray.append_empty).trans (ByteArray.empty_append).symm
 | cons m l ih =>
  show ⟨#[32]⟩ ++ itoS m ++ numsT (l ++ [n]) = ⟨#[32]⟩ ++ itoS m ++ numsT l ++ (⟨#[32]⟩ ++ itoS n)
  rw [ih, ByteArray.append_assoc (b := numsT l)]
theorem numsT_take (l : List Int) (k : Nat) (hk : k < l.length) : numsT (l.take (k + 1)) = numsT (l.take k) ++ (⟨#[32]⟩ ++ itoS l[k]) := by
 rw [List.take_succ_eq_append_getElem hk, numsT_append]
theorem numsT_take_size (l : List Int) (k : Nat) : (numsT (l.take k)).size ≤ (numsT l).size := by
 induction l generalizing k with
 | nil => rw [List.take_nil]; exact Nat.le_refl _
 | cons m l ih =>
  cases k with
  | zero => exact Nat.zero_le _
  | succ k =>
   show (⟨#[32]⟩ ++ itoS m ++ numsT (l.take k)).size ≤ (⟨#[32]⟩ ++ itoS m ++ numsT l).size
   rw [ByteArray.size_append, ByteArray.size_append (b := numsT l)]
   exact Nat.add_le_add_left (ih k) _

/-- A row that stays to be read. -/
def RowStays (B b : Nat) (A : Option Addr) (l : List Int) (w : World) : Prop := ∀ w', Below B w w' → Kept b w w' → ∀ (j : Nat) (hj : j < l.length), ∃ ad, A = some ad ∧ w'.cell? (ad.add j) = some (.int .i64 l[j])

set_option maxRecDepth 100000 in
set_option maxHeartbeats 1000000 in
theorem pen_number (B b : Nat) (t : ByteArray) (A : Option Addr) (c : Nat) (l : List Int) (hl : ∀ n ∈ l, R64 n) (w : World) (h : Pw B b t w) (hr : RowStays B b A l w) (hm : l.length ≤ 9223372036854775807) (hlen : t.size + (numsT l).size ≤ 140737488355328) :
  Calls Tryz.prog 22 #[.pointer (some ⟨b, 0, none⟩), .slice A l.length c] w (PPost B b (t ++ numsT l) (.pointer (some ⟨b, 0, none⟩)) w) := by
 have HR := Lib.hid hr
 have HH := Lib.hid h
 have HN := Lib.hid hl
 have HM := Lib.hid hlen
 clear h hr hl hlen
 go_enter Tryz.func22, Tryz.ntmps22
 go_wp2
 go_loopw [9] (fun v wr => ∃ k : Nat, k ≤ l.length ∧ v = .int .i64 k ∧ Hid (Pw B b (t ++ numsT (l.take k)) wr) ∧ Below B w wr ∧ Kept b w wr) (fun v _ => l.length - (intOf v).toNat)
 case atStart => exact ⟨0, Nat.zero_le _, rfl, Lib.hid (by have e : t ++ numsT (l.take 0) = t := ByteArray.append_empty; rw [e]; exact HH.out), Below.refl _ _, Kept.refl _ _⟩
 case round =>
  obtain ⟨k, hk, rfl, hp, hB, hK⟩ := hrel
  by_cases hlt : k < l.length
  ·have hd : decide ((k : Int) < (l.length : Int)) = true := decide_eq_true (by omega)
   have i2 : decide (0 ≤ (k : Int)) = true := decide_eq_true (by omega)
   have j2 : decide (k < l.length) = true := decide_eq_true hlt
   obtain ⟨ad, rfl, hx⟩ := HR.out wr hB hK k hlt
   have h64 := HN.out l[k] (List.getElem_mem hlt)
   have hsz := numsT_take_size l (k + 1)
   rw [numsT_take l k hlt, ByteArray.size_append, ByteArray.size_append] at hsz
   have h1s : (⟨#[32]⟩ : ByteArray).size = 1 := rfl
   have hM := HM.out
   have hts := numsT_take l k hlt
   have D1 : ∀ w', GL w' → Calls Tryz.prog 62 #[.int .i64 l[k]] w' fun e w'' => e = .returned (.string (itoS l[k])) ∧ Below w'.heap.size w' w'' := fun w' h' => itoa_calls l[k] h64 w' h'
   generalize numsT (l.take k) = q at *
   generalize itoS l[k] = s at *
   have D := Lib.hid (show Calls Tryz.prog 61 #[.pointer (some ⟨b, 0, none⟩), .int .u8 32] wr (PPost B b (t ++ q ++ ⟨#[32]⟩) .nilIface wr) from wByte B b (t ++ q) 32 wr hp.out (by rw [ByteArray.size_append]; omega))
   have D2 : Hid (∀ w', Pw B b (t ++ q ++ ⟨#[32]⟩) w' → Calls Tryz.prog 60 #[.pointer (some ⟨b, 0, none⟩), .string s] w' (PPost B b (t ++ q ++ ⟨#[32]⟩ ++ s) (.tuple #[.int .i64 s.size, .nilIface]) w')) := Lib.hid fun w' h' => wString B b _ s w' h' (by rw [ByteArray.size_append, ByteArray.size_append]; omega)
   have D1 := Lib.hid D1
   have HT : Hid (numsT (l.take (k + 1)) = q ++ (⟨#[32]⟩ ++ s)) := Lib.hid hts
   clear hM hsz hts h64 h1s
   go_wp2_with (go_at_call 61; (with_reducible refine D.out.mono ?_); clear D; rintro e w1 ⟨rfl, h1, hb1, hk1⟩)
   go_region_held3 (fun _ => True) (exact trivial) (first | (go_at_call 62; (with_reducible refine (D1.out _ ?_).mono ?_); clear D1; (exact (h1.below (Below.refl _ _).drew).gl.here); rintro e w2 ⟨rfl, hb2⟩) | (go_at_call 60; (with_reducible refine (D2.out _ ?_).mono ?_); clear D2; (exact (h1.below (Below.refl _ _).drew).below hb2); rintro e w3 ⟨rfl, h3, hb3, hk3⟩))
   go_wp2
   have hf := pfin h1.base hb1 hk1 hb2 hb3 hk3
   refine ⟨⟨k + 1, hlt, rfl, ?_, hB.trans hf.1, hK.trans hf.2⟩, ?_⟩
   ·rw [HT.out, ← ByteArray.append_assoc, ← ByteArray.append_assoc]
    exact Lib.hid h3
   ·show l.length - ((k : Int) + 1).toNat < l.length - ((k : Int)).toNat
    omega
  ·have hd : decide ((k : Int) < (l.length : Int)) = false := decide_eq_false (by omega)
   obtain rfl : k = l.length := by omega
   rw [List.take_length] at hp
   go_wp2
   go_ret
   exact ⟨rfl, hp.out, hB, hK⟩
end Go.Proofs.YtmcjccigglekpaaGreatDoor.Given
namespace Go.Proofs.YtmcjccigglekpaaGreatDoor.Given
open Go Go.RowKit
section
variable {P : Program} {ops : Array Oper} {Q : Exit → Act → World → Prop} {md : Region.Mode} {S : World → Prop}
/-- Behind all but the last: the last. -/
def lastQ (P : Program) (ops : Array Oper) (Q : Exit → Act → World → Prop) (m : Nat) : Exit → Act → World → Prop
 | .normal, a, w => wpOp P ops Q m (Q .normal) a w
 | e, a, w => Q e a w
theorem wpOp_lastQ {m i : Nat} {K : Act → World → Prop} {a : Act} {w : World} (h : wpOp P ops (lastQ P ops Q m) i K a w) : wpOp P ops Q i K a w := by
 unfold wpOp at *
 split
 ·rename_i hi; rw [hi] at h; exact h
 ·rename_i o hi
  rw [hi] at h
  dsimp only at h
  split
  ·rename_i hw
   rw [if_pos hw] at h
   refine h.imp (fun h => ?_) (fun h => ⟨h.1, h.2⟩)
   unfold Oper.wp at *
   generalize (execOp a.eval o).run P w = r at *
   cases r with
   | ok n w' =>
    cases n <;> simp only [Oper.upon] at h ⊢
    case value v => exact h
    case skip => exact h
    case defer d => exact h
    case enter f args =>
     refine Calls.mono h fun e w'' he => ?_
     cases e <;> exact he
    case row row args => exact h
   | halt x w' => cases x <;> simp only [Oper.upon] at h ⊢; exact h
  ·rename_i hw
   rw [if_neg hw] at h
   exact h
/-- Is m the last operation, and does it wait for all others? -/
def peelB (md : Region.Mode) (ops : Array Oper) (m : Nat) : Bool :=
 ops.size == m + 1 && ((List.range ops.size).all fun i => match ops[i]? with
  | some o => o.after.all (fun e => !Region.binds md e || decide (e.on < i))
  | none => true) && (List.range m).all fun j => (List.range ops.size).any fun i => match ops[i]? with
  | some o => o.after.any fun e => Region.binds md e && e.on == j
  | none => false
/-- What is listed has all listed that it waits for. -/
def Closed (md : Region.Mode) (ops : Array Oper) (listed : Array Bool) : Prop := ∀ (i : Nat) (o : Oper), ops[i]? = some o → listed.getD i true = true → ∀ e ∈ o.after, Region.binds md e = true → listed.getD e.on false = true
theorem least_false (listed : Array Bool) (m : Nat) (h : ∃ j, j < m ∧ listed.getD j true = false) : ∃ j, j < m ∧ listed.getD j true = false ∧ ∀ i, i < j → listed.getD i true = true := by
 induction m with
 | zero => obtain ⟨j, hj, _⟩ := h; omega
 | succ m ih =>
  by_cases hm : ∃ j, j < m ∧ listed.getD j true = false
  ·obtain ⟨j, h1, h2, h3⟩ := ih hm
   exact ⟨j, by omega, h2, h3⟩
  ·obtain ⟨j, h1, h2⟩ := h
   have hjm : j = m := by
    rcases Nat.lt_or_ge j m with h' | h'
    ·exact absurd ⟨j, h', h2⟩ hm
    ·omega
   subst hjm
   refine ⟨j, h1, h2, fun i hi => ?_⟩
   cases hl : listed.getD i true with
   | true => rfl
   | false => exact absurd ⟨i, hi, hl⟩ hm
theorem getD_set_true' {listed : Array Bool} {i : Nat} (hi : i < listed.size) : (listed.setIfInBounds i true).getD i false = true := by simp [hi]
theorem getD_tf {listed : Array Bool} {i : Nat} (hi : i < listed.size) (d d' : Bool) : listed.getD i d = listed.getD i d' := by
 rw [Array.getD_eq_getD_getElem?, Array.getD_eq_getD_getElem?, Array.getElem?_eq_getElem hi]; rfl
theorem closed_set {listed : Array Bool} {i : Nat} (h : Closed md ops listed) (hi : i ∈ Region.ready md ops listed) : Closed md ops (listed.setIfInBounds i true) := by
 intro j o ho hl e he hb
 by_cases hij : i = j
 ·subst hij
  obtain ⟨_, o', ho', hall⟩ := mem_ready.1 hi
  rw [ho] at ho'
  obtain rfl := Option.some.inj ho'
  exact getD_set_true (hall e he hb)
 ·rw [getD_set_ne true hij] at hl
  exact getD_set_true (h j o ho hl e he hb)
theorem wpAny_last {m : Nat} (hB : peelB md ops m = true) : ∀ (fuel : Nat) (listed : Array Bool) (a : Act) (w : World), listed.size = ops.size → Closed md ops listed → listed.getD m true = false →
  wpAny P md ops (lastQ P ops Q m) fuel (listed.setIfInBounds m true) a w → wpAny P md ops Q (fuel + 1) listed a w := by
 unfold peelB at hB
 simp only [Bool.and_eq_true, beq_iff_eq, List.all_eq_true, List.mem_range] at hB
 obtain ⟨⟨hsz, hall⟩, hsucc⟩ := hB
 have hac : ∀ i o, ops[i]? = some o → ∀ e ∈ o.after, Region.binds md e = true → e.on < i := by
  intro i o ho e he hb
  have h := hall i (Array.getElem?_eq_some_iff.1 ho).1
  rw [ho] at h
  dsimp only at h
  rw [Array.all_eq_true_iff_forall_mem] at h
  have := h e he
  rw [hb] at this
  simpa using this
 have hla : ∀ j, j < m → ∃ (i : Nat) (o : Oper), ops[i]? = some o ∧ ∃ e ∈ o.after, Region.binds md e = true ∧ e.on = j := by
  intro j hj
  have h := hsucc j hj
  rw [List.any_eq_true] at h
  obtain ⟨i, hi, h⟩ := h
  have hlt := List.mem_range.1 hi
  rw [Array.getElem?_eq_getElem hlt] at h
  dsimp only at h
  obtain ⟨e, he, hb⟩ := Array.any_eq_true'.1 h
  simp only [Bool.and_eq_true, beq_iff_eq] at hb
  exact ⟨i, _, Array.getElem?_eq_getElem hlt, e, he, hb⟩
 obtain ⟨om, hom⟩ : ∃ o, ops[m]? = some o := ⟨ops[m], Array.getElem?_eq_getElem (by omega)⟩
 have rdy : ∀ (listed : Array Bool), listed.size = ops.size → ∀ i, i ≠ m → (i ∈ Region.ready md ops (listed.setIfInBounds m true) ↔ i ∈ Region.ready md ops listed) := by
  intro listed hl i him
  rw [mem_ready, mem_ready, getD_set_ne true (Ne.symm him)]
  refine and_congr_right fun _ => exists_congr fun o => and_congr_right fun ho => ?_
  have him' : i < m := by have := (Array.getElem?_eq_some_iff.1 ho).1; omega
  refine forall_congr' fun e => forall_congr' fun he => forall_congr' fun hb => ?_
  have := hac i o ho e he hb
  rw [getD_set_ne false (by omega)]
 have lastR : ∀ (listed : Array Bool), listed.size = ops.size → Closed md ops listed → listed.getD m true = false → (m ∈ Region.ready md ops listed ↔ ∀ j, j < m → listed.getD j true = true) := by
  intro listed hl hcl hm
  constructor
  ·intro hr
   have hrd := (mem_ready.1 hr).2
   have key : ∀ n j, j + n = m → j < m → listed.getD j true = true := by
    intro n
    induction n using Nat.strongRecOn with
    | ind n ih =>
     intro j hjn hj
     obtain ⟨i, o, ho, e, he, hb, rfl⟩ := hla j hj
     have h1 := hac i o ho e he hb
     have h2 := (Array.getElem?_eq_some_iff.1 ho).1
     rw [getD_tf (by omega) true false]
     by_cases him : i = m
     ·subst him
      obtain ⟨o', ho', h⟩ := hrd
      rw [ho] at ho'
      obtain rfl := Option.some.inj ho'
      exact h e he hb
     ·exact hcl i o ho (ih (m - i) (by omega) i (by omega) (by omega)) e he hb
   exact fun j hj => key (m - j) j (by omega) hj
  ·intro h
   rw [mem_ready]
   refine ⟨hm, om, hom, fun e he hb => ?_⟩
   have hlt := hac m om hom e he hb
   rw [getD_tf (by omega) false true]
   exact h _ hlt
 have allL : ∀ (listed : Array Bool), listed.size = ops.size → (∀ i, i < m → i ∉ Region.ready md ops listed) → ∀ j, j < m → listed.getD j true = true := by
  intro listed hl hn j hj
  cases hlj : listed.getD j true with
  | true => rfl
  | false =>
   exfalso
   obtain ⟨i, h1, h2, h3⟩ := least_false listed m ⟨j, hj, hlj⟩
   refine hn i h1 (mem_ready.2 ⟨h2, ops[i]'(by omega), Array.getElem?_eq_getElem (by omega), fun e he hb => ?_⟩)
   have := hac i _ (Array.getElem?_eq_getElem (by omega)) e he hb
   rw [getD_tf (by omega) false true]
   exact h3 _ this
 have fin : ∀ (listed : Array Bool), listed.size = ops.size → listed.getD m true = false → (∀ j, j < m → listed.getD j true = true) → Region.ready md ops (listed.setIfInBounds m true) = [] := by
  intro listed hl hm h
  apply List.eq_nil_iff_forall_not_mem.2
  intro i hi
  obtain ⟨h0, o, ho, _⟩ := mem_ready.1 hi
  have hlt := (Array.getElem?_eq_some_iff.1 ho).1
  by_cases him : i = m
  ·subst him
   rw [getD_tf (d' := false) (by simp; omega), getD_set_true'] at h0
   ·cases h0
   ·omega
  ·rw [getD_set_ne true (Ne.symm him), h i (by omega)] at h0
   cases h0
 intro fuel
 induction fuel with
 | zero =>
  intro listed a w hl hcl hm h
  have hno : ∀ i, i < m → i ∉ Region.ready md ops listed := fun i hi hr => by
   have := (rdy listed hl i (by omega)).2 hr
   rw [h.1] at this
   cases this
  have hmr := (lastR listed hl hcl hm).2 (allL listed hl hno)
  refine ⟨fun h0 => (by rw [h0] at hmr; cases hmr), fun i hi => ?_⟩
  have him : i = m := by
   have := (Array.getElem?_eq_some_iff.1 (mem_ready.1 hi).2.choose_spec.1).1
   rcases Nat.lt_or_ge i m with h' | h'
   ·exact absurd hi (hno i h')
   ·omega
  subst him
  exact wpOp_mono (fun a w hq => ⟨h.1, hq⟩) h.2
 | succ fuel ih =>
  intro listed a w hl hcl hm h
  refine ⟨fun h0 => ?_, fun i hi => ?_⟩
  ·have hmr := (lastR listed hl hcl hm).2 (allL listed hl (fun i _ hr => by rw [h0] at hr; cases hr))
   rw [h0] at hmr
   cases hmr
  ·by_cases him : i = m
   ·subst him
    have he := fin listed hl hm ((lastR listed hl hcl hm).1 hi)
    exact wpOp_mono (fun a w hq => wpAny_done he hq _) (h.1 he)
   ·have h1 := wpOp_lastQ (h.2 i ((rdy listed hl i him).2 hi))
    refine wpOp_mono (fun a' w' hk => ih _ a' w' (by simpa using hl) (closed_set hcl hi) (by rw [getD_set_ne true him]; exact hm) ?_) h1
    rwa [Array.setIfInBounds_comm _ _ (Ne.symm him)] at hk
/-- The operations in an order of one's own: (false, i): it only reads; (true, i): it comes up alone. -/
def wpSch (P : Program) (ops : Array Oper) (Q : Exit → Act → World → Prop) (S : World → Prop) : List (Bool × Nat) → Act → World → Prop
 | [], a, w => Q .normal a w
 | (false, i) :: r, a, w => ∃ o v, ops[i]? = some o ∧ YieldsIf P ops S o v a ∧ wpSch P ops Q S r (a.put o.dst v) w
 | (true, i) :: r, a, w => wpOp P ops Q i (fun a' w' => S w' ∧ wpSch P ops Q S r a' w') a w
def schOk (md : Region.Mode) (ops : Array Oper) : List (Bool × Nat) → Array Bool → Bool
 | [], listed => (Region.ready md ops listed).isEmpty
 | (false, i) :: r, listed => (Region.ready md ops listed).contains i && Region.free md ops listed i && schOk md ops r (listed.setIfInBounds i true)
 | (true, i) :: r, listed => (Region.ready md ops listed == [i]) && schOk md ops r (listed.setIfInBounds i true)
theorem sch_held (hs : Region.noSelect ops = true) (hQ : ∀ c (a : Act) d v w, Q (.panic c) (a.put d v) w → Q (.panic c) a w) : ∀ (sch : List (Bool × Nat)) (listed : Array Bool) (a : Act) (w : World), schOk md ops sch listed = true → S w → wpSch P ops Q S sch a w → wpAnyH P md ops Q S sch.length listed a w := by
 intro sch
 induction sch with
 | nil =>
  intro listed a w hB hS h
  exact ⟨List.isEmpty_iff.1 hB, h⟩
 | cons x r ih =>
  intro listed a w hB hS h
  obtain ⟨b, i⟩ := x
  cases b with
  | false =>
   simp only [schOk, Bool.and_eq_true] at hB
   obtain ⟨⟨h1, h2⟩, h3⟩ := hB
   obtain ⟨o, v, ho, hy, hr⟩ := h
   exact wpAnyH_take ho hs h2 h1 (fun c a w hp => hQ c a _ _ w hp) hy hS (ih _ _ _ h3 hS hr)
  | true =>
   simp only [schOk, Bool.and_eq_true, beq_iff_eq] at hB
   obtain ⟨h1, h3⟩ := hB
   refine ⟨fun h0 => (by rw [h1] at h0; cases h0), fun j hj => ?_⟩
   rw [h1] at hj
   obtain rfl := List.mem_singleton.1 hj
   exact wpOp_mono (fun a' w' hk => ⟨hk.1, ih _ a' w' h3 hk.1 hk.2⟩) h
/-- **The region: all but the last by the order given, then the last.** -/
theorem wp_region_sch {id : Nat} {a : Act} {w : World} {l : List Oper} (S : World → Prop) (m : Nat) (sch : List (Bool × Nat)) (hm : P.follows .mixedOrders = true)
  (hB : (peelB .any l.toArray m && (sch.length == m) && Region.noSelect l.toArray && schOk .any l.toArray sch ((Array.replicate l.toArray.size false).setIfInBounds m true)) = true)
  (hQ : ∀ c (a : Act) d v w, Q (.panic c) (a.put d v) w → Q (.panic c) a w) (wd : World) (hwd : w.drew = wd) (hS : S wd)
  (h : wpSch P l.toArray (lastQ P l.toArray Q m) S sch a wd) : (Code.region id l.toArray true).wp P Q a w := by
 subst hwd
 simp only [Bool.and_eq_true, beq_iff_eq] at hB
 obtain ⟨⟨⟨h1, h2⟩, h3⟩, h4⟩ := hB
 have hsz : l.toArray.size = m + 1 := by
  unfold peelB at h1
  simp only [Bool.and_eq_true, beq_iff_eq] at h1
  exact h1.1.1
 refine wp_region_any hm ?_
 have hx := wpAny_last (P := P) (Q := Q) h1 sch.length (Array.replicate l.toArray.size false) a w.drew (by simp) (fun i o ho hl => absurd hl (by rw [Array.getD_eq_getD_getElem?, Array.getElem?_replicate, if_pos (Array.getElem?_eq_some_iff.1 ho).1]; simp)) (by rw [Array.getD_eq_getD_getElem?, Array.getElem?_replicate, if_pos (by omega)]; rfl) (wpAny_of_held _ _ _ _ (sch_held (Q := lastQ P l.toArray Q m) h3 (fun c a d v w hp => hQ c a d v w hp) sch _ _ _ h4 hS h))
 rw [h2, ← hsz] at hx
 exact hx
/-- One that only reads. -/
theorem sch_pure {i : Nat} {r : List (Bool × Nat)} {a : Act} {w : World} {o : Oper} {l : List Oper} {v : Value} (ho : l[i]? = some o) (hw : Region.wanted o (yielded l.toArray a.tmps) = true) (hy : ∀ w, S w → (execOp a.eval o).run P w = .ok (.value v) w)
  (h : wpSch P l.toArray Q S r (a.put o.dst v) w) : wpSch P l.toArray Q S ((false, i) :: r) a w := ⟨o, v, by simpa using ho, .inl ⟨hw, hy⟩, h⟩
/-- One whose guard strikes it out. -/
theorem sch_skip {i : Nat} {r : List (Bool × Nat)} {a : Act} {w : World} {o : Oper} {l : List Oper} (ho : l[i]? = some o) (hw : Region.wanted o (yielded l.toArray a.tmps) = false)
  (h : wpSch P l.toArray Q S r (a.put o.dst undef) w) : wpSch P l.toArray Q S ((false, i) :: r) a w := ⟨o, undef, by simpa using ho, .inr ⟨hw, rfl⟩, h⟩
/-- One that comes up alone. -/
theorem sch_alone {i : Nat} {r : List (Bool × Nat)} {a : Act} {w : World} {o : Oper} {l : List Oper} (ho : l[i]? = some o)
  (h : ∀ K : Act → World → Prop, Hid (∀ a' w', S w' → wpSch P l.toArray Q S r a' w' → K a' w') → if Region.wanted o (yielded l.toArray a.tmps) = true then Oper.wp P o a w K Q else K (a.put o.dst undef) w) : wpSch P l.toArray Q S ((true, i) :: r) a w := by
 show wpOp P l.toArray Q i (fun a' w' => S w' ∧ wpSch P l.toArray Q S r a' w') a w
 have h' := h (fun a' w' => S w' ∧ wpSch P l.toArray Q S r a' w') (Lib.hid fun a' w' h1 h2 => ⟨h1, h2⟩)
 unfold wpOp
 rw [show l.toArray[i]? = some o by simpa using ho]
 dsimp only
 split
 ·rename_i hw; rw [if_pos hw] at h'; exact .inl h'
 ·rename_i hw; rw [if_neg hw] at h'; exact h'
/-- The last. -/
theorem sch_last {m : Nat} {a : Act} {w : World} {o : Oper} {l : List Oper} (ho : l[m]? = some o)
  (h : ∀ K : Act → World → Prop, Hid (∀ a' w', Q .normal a' w' → K a' w') → if Region.wanted o (yielded l.toArray a.tmps) = true then Oper.wp P o a w K Q else K (a.put o.dst undef) w) : wpSch P l.toArray (lastQ P l.toArray Q m) S [] a w := by
 show wpOp P l.toArray Q m (Q .normal) a w
 have h' := h (Q .normal) (Lib.hid fun _ _ hq => hq)
 unfold wpOp
 rw [show l.toArray[m]? = some o by simpa using ho]
 dsimp only
 split
 ·rename_i hw; rw [if_pos hw] at h'; exact .inl h'
 ·rename_i hw; rw [if_neg hw] at h'; exact h'
end
end Go.Proofs.YtmcjccigglekpaaGreatDoor.Given
namespace Go.Proofs.YtmcjccigglekpaaGreatDoor.Given
open Go Go.RowKit Go.Proofs Go.Proofs.YtmcjccigglekpaaGreatDoorW.PrintWords Go.Proofs.YtmcjccigglekpaaGreatDoorW.PrintLast Go.Proofs.YtmcjccigglekpaaGreatDoorW.PrintMore Go.Proofs.YtmcjccigglekpaaGreatDoor.P

def SPost (r : Bool) (w : World) (e : Ending) (w' : World) : Prop := e = .returned (.bool r) ∧ Below w.heap.size w w'
theorem rdBr (xs : List S76) (k : Nat) (hk : k < xs.length) : rd_T76 xs (k : Int) = xs[k] := by
 unfold rd_T76
 rw [Int.toNat_natCast, List.getD_eq_getElem?_getD, List.getElem?_eq_getElem hk]
 rfl
set_option maxRecDepth 100000 in
set_option maxHeartbeats 2000000 in
theorem treeSame_calls (A0 A1 : Option Addr) (c0 c1 : Nat) (a b : List S76) (w : World) (hr0 : Kd.C k76 w A0 a.length a) (hr1 : Kd.C k76 w A1 b.length b) :
  Calls Tryz.prog 55 #[.slice A0 a.length c0, .slice A1 b.length c1] w (SPost (decide (a = b)) w) := by
 by_cases hl : a.length = b.length
 ·have i1 : ((a.length : Int) != (b.length : Int)) = false := by simp [hl]
  have i9 : (a.length == b.length) = true := by simp [hl]
  have HR0 := Lib.hid hr0
  have HR1 := Lib.hid hr1
  have HL := Lib.hid hl
  have hbnd : a.length ≤ 9223372036854775807 := hr0.2.1
  have HN := Lib.hid hbnd
  clear hbnd
  clear hr0 hr1 hl
  go_enter Tryz.func55, Tryz.ntmps55
  go_wp2
  clear i1 i9
  go_loopw [5] (fun v wr => ∃ k : Nat, k ≤ a.length ∧ v = .int .i64 k ∧ Hid (a.take k = b.take k) ∧ ∃ m, wr = w.drewN m) (fun v _ => a.length - (intOf v).toNat)
  case atStart => exact ⟨0, Nat.zero_le _, rfl, Lib.hid rfl, 0, rfl⟩
  case round =>
   obtain ⟨k, hk, rfl, he, m, rfl⟩ := hrel
   by_cases hlt : k < a.length
   ·have hlt' : k < b.length := HL.out ▸ hlt
    have hd : decide ((k : Int) < (a.length : Int)) = true := decide_eq_true (by omega)
    have i2 : decide (0 ≤ (k : Int)) = true := decide_eq_true (by omega)
    have j2 : decide (k < a.length) = true := decide_eq_true hlt
    have j3 : decide (k < b.length) = true := decide_eq_true hlt'
    obtain ⟨ad, e1, hv0, hv1, hv2, hv3⟩ := at_T76 HR0.out (k : Int) (by omega) (by omega)
    obtain ⟨bd, e2, hu0, hu1, hu2, hu3⟩ := at_T76 HR1.out (k : Int) (by omega) (by omega)
    subst e1 e2
    rw [rdBr _ k hlt, Int.toNat_natCast] at hv0 hv1 hv2 hv3
    rw [rdBr _ k hlt', Int.toNat_natCast] at hu0 hu1 hu2 hu3
    by_cases hx : a[k] = b[k]
    ·have hmore := Lib.hid (take_more he.out hlt hlt' hx)
     rw [← hx] at hu0 hu1 hu2 hu3
     clear hx he
     generalize a[k] = x at *
     go_wp2
     obtain ⟨wd, hwd⟩ : ∃ wd, (w.drewN m).drew = wd := ⟨_, rfl⟩
     have cw : ∀ {a v}, w.cell? a = some v → wd.cell? a = some v := fun h => by rw [← hwd]; exact h
     replace hv0 := cw hv0; replace hv1 := cw hv1; replace hv2 := cw hv2; replace hv3 := cw hv3
     replace hu0 := cw hu0; replace hu1 := cw hu1; replace hu2 := cw hu2; replace hu3 := cw hu3
     refine wp_region_sch (fun w' => w' = wd) 8 [(false, 0), (false, 1), (false, 2), (false, 3), (false, 4), (false, 5), (false, 6), (false, 7)] (by kernel_rfl) (by kernel_rfl) (fun _ a d _ _ h => by cases d <;> exact h) wd hwd rfl ?_
     try dsimp only
     repeat (refine' sch_pure rfl rfl ?_ ?_; rotate_left; · (rintro w' rfl; go_simp <;> rfl)
             simp only [Act.put, List.setIfInBounds_toArray, List.set_cons_zero, List.set_cons_succ])
     refine sch_last rfl (fun K hK => ?_)
     go_simp
     refine hK.out _ _ ?_
     clear hK K
     go_wp2
     have hw1 : wrap64 ((k : Int) + 1) = ((k + 1 : Nat) : Int) := by have := HN.out; unfold wrap64; omega
     refine ⟨⟨k + 1, hlt, by rw [hw1], hmore, m + 1, hwd.symm⟩, ?_⟩
     rw [hw1]
     show a.length - (((k + 1 : Nat) : Int)).toNat < a.length - ((k : Int)).toNat
     omega
    ·have hno := not_at hlt hlt' hx
     clear he
     generalize a[k] = x at *
     generalize b[k] = y at *
     have HX := Lib.hid hx
     clear hx
     go_wp2
     obtain ⟨wd, hwd⟩ : ∃ wd, (w.drewN m).drew = wd := ⟨_, rfl⟩
     have cw : ∀ {a v}, w.cell? a = some v → wd.cell? a = some v := fun h => by rw [← hwd]; exact h
     replace hv0 := cw hv0; replace hv1 := cw hv1; replace hv2 := cw hv2; replace hv3 := cw hv3
     replace hu0 := cw hu0; replace hu1 := cw hu1; replace hu2 := cw hu2; replace hu3 := cw hu3
     refine wp_region_sch (fun w' => w' = wd) 8 [(false, 0), (false, 1), (false, 2), (false, 3), (false, 4), (false, 5), (false, 6), (false, 7)] (by kernel_rfl) (by kernel_rfl) (fun _ a d _ _ h => by cases d <;> exact h) wd hwd rfl ?_
     try dsimp only
     repeat (refine' sch_pure rfl rfl ?_ ?_; rotate_left; · (rintro w' rfl; go_simp <;> rfl)
             simp only [Act.put, List.setIfInBounds_toArray, List.set_cons_zero, List.set_cons_succ])
     refine sch_last rfl (fun K hK => ?_)
     go_simp
     rw [ifneBranch HX.out]
     refine hK.out _ _ ?_
     clear hK K
     go_wp2
     go_ret
     exact ⟨by rw [decide_eq_false hno]; rfl, hwd ▸ below_drew (below_drewN w m)⟩
   ·have hd : decide ((k : Int) < (a.length : Int)) = false := decide_eq_false (by omega)
    have hyes := Lib.hid (take_done he.out (by omega) HL.out)
    clear he
    go_wp2
    go_ret
    exact ⟨by rw [decide_eq_true hyes.out]; rfl, below_drewN w m⟩
 ·have i1 : ((a.length : Int) != (b.length : Int)) = true := by simp; omega
  have hno : ¬ a = b := fun h => hl (by rw [h])
  go_enter Tryz.func55, Tryz.ntmps55
  go_wp2
  go_ret
  exact ⟨by rw [decide_eq_false hno]; rfl, Below.refl _ _⟩
end Go.Proofs.YtmcjccigglekpaaGreatDoor.Given
namespace Go.Proofs.YtmcjccigglekpaaGreatDoor.Given
open Go Go.RowKit Go.Proofs Go.Proofs.YtmcjccigglekpaaGreatDoorW.PrintWords Go.Proofs.YtmcjccigglekpaaGreatDoorW.PrintLast Go.Proofs.YtmcjccigglekpaaGreatDoorW.PrintMore Go.Proofs.YtmcjccigglekpaaGreatDoor.P

theorem rdInt (xs : List Int) (k : Nat) (hk : k < xs.length) : rd xs (k : Int) = xs[k] := by
 unfold rd
 rw [Int.toNat_natCast, List.getD_eq_getElem?_getD, List.getElem?_eq_getElem hk]
 rfl
set_option maxRecDepth 100000 in
set_option maxHeartbeats 2000000 in
theorem ints_calls (A0 A1 : Option Addr) (c0 c1 : Nat) (a b : List Int) (w : World) (hr0 : Kd.C (Kd.int .i64) w A0 a.length a) (hr1 : Kd.C (Kd.int .i64) w A1 b.length b) :
  Calls Tryz.prog 56 #[.slice A0 a.length c0, .slice A1 b.length c1] w (SPost (decide (a = b)) w) := by
 by_cases hl : a.length = b.length
 ·have i1 : ((a.length : Int) != (b.length : Int)) = false := by simp [hl]
  have hbnd : a.length ≤ 9223372036854775807 := hr0.2.1
  have HN := Lib.hid hbnd
  have HR0 := Lib.hid hr0
  have HR1 := Lib.hid hr1
  have HL := Lib.hid hl
  have HW := Lib.hid (Below.refl w.heap.size w)
  clear hr0 hr1 hl hbnd
  go_enter Tryz.func56, Tryz.ntmps56
  go_wp2
  clear i1
  go_loopw [5] (fun v wr => ∃ k : Nat, k ≤ a.length ∧ v = .int .i64 k ∧ Hid (a.take k = b.take k) ∧ Below w.heap.size w wr) (fun v _ => a.length - (intOf v).toNat)
  case atStart => exact ⟨0, Nat.zero_le _, rfl, Lib.hid rfl, Below.refl _ _⟩
  case round =>
   obtain ⟨k, hk, rfl, he, hB⟩ := hrel
   by_cases hlt : k < a.length
   ·have hlt' : k < b.length := HL.out ▸ hlt
    have hd : decide ((k : Int) < (a.length : Int)) = true := decide_eq_true (by omega)
    have i2 : decide (0 ≤ (k : Int)) = true := decide_eq_true (by omega)
    have j2 : decide (k < a.length) = true := decide_eq_true hlt
    have j3 : decide (k < b.length) = true := decide_eq_true hlt'
    obtain ⟨ad, e1, hv0⟩ := Kd.at_int (Kd.C_below HR0.out hB) (k : Int) (by omega) (by omega)
    obtain ⟨bd, e2, hu0⟩ := Kd.at_int (Kd.C_below HR1.out hB) (k : Int) (by omega) (by omega)
    subst e1 e2
    rw [rdInt _ k hlt, Int.toNat_natCast] at hv0
    rw [rdInt _ k hlt', Int.toNat_natCast] at hu0
    by_cases hx : a[k] = b[k]
    ·have hmore := Lib.hid (take_more he.out hlt hlt' hx)
     rw [← hx] at hu0
     clear hx he
     generalize a[k] = x at *
     go_wp2
     obtain ⟨wd, hwd⟩ : ∃ wd, wr.drew = wd := ⟨_, rfl⟩
     have cw : ∀ {a v}, wr.cell? a = some v → wd.cell? a = some v := fun h => by rw [← hwd]; exact h
     have HBD : Below wr.heap.size wr wd := hwd ▸ below_drew (Below.refl _ _)
     replace hv0 := cw hv0
     replace hu0 := cw hu0
     refine wp_region_sch (fun w' => w' = wd) 8 [(false, 0), (false, 1), (false, 2), (false, 3), (false, 4), (false, 5), (false, 6), (false, 7)] (by kernel_rfl) (by kernel_rfl) (fun _ a d _ _ h => by cases d <;> exact h) wd hwd rfl ?_
     clear hwd
     try dsimp only
     repeat (refine' sch_pure rfl rfl ?_ ?_; rotate_left; · (rintro w' rfl; go_simp <;> rfl)
             simp only [Act.put, List.setIfInBounds_toArray, List.set_cons_zero, List.set_cons_succ])
     refine sch_last rfl (fun K hK => ?_)
     go_simp
     refine hK.out _ _ ?_
     clear hK K
     go_wp2
     have hw1 : wrap64 ((k : Int) + 1) = ((k + 1 : Nat) : Int) := by have := HN.out; unfold wrap64; omega
     refine ⟨⟨k + 1, hlt, by rw [hw1], hmore, hB.trans (HBD.mono hB.size)⟩, ?_⟩
     rw [hw1]
     show a.length - (((k + 1 : Nat) : Int)).toNat < a.length - ((k : Int)).toNat
     omega
    ·have hno := not_at hlt hlt' hx
     clear he
     generalize a[k] = x at *
     generalize b[k] = y at *
     have HX := Lib.hid hx
     go_wp2
     obtain ⟨wd, hwd⟩ : ∃ wd, wr.drew = wd := ⟨_, rfl⟩
     have cw : ∀ {a v}, wr.cell? a = some v → wd.cell? a = some v := fun h => by rw [← hwd]; exact h
     have HBD : Below wr.heap.size wr wd := hwd ▸ below_drew (Below.refl _ _)
     replace hv0 := cw hv0
     replace hu0 := cw hu0
     refine wp_region_sch (fun w' => w' = wd) 8 [(false, 0), (false, 1), (false, 2), (false, 3), (false, 4), (false, 5), (false, 6), (false, 7)] (by kernel_rfl) (by kernel_rfl) (fun _ a d _ _ h => by cases d <;> exact h) wd hwd rfl ?_
     clear hwd
     try dsimp only
     repeat (refine' sch_pure rfl rfl ?_ ?_; rotate_left; · (rintro w' rfl; go_simp <;> rfl)
             simp only [Act.put, List.setIfInBounds_toArray, List.set_cons_zero, List.set_cons_succ])
     refine sch_last rfl (fun K hK => ?_)
     go_simp
     refine hK.out _ _ ?_
     clear hK K
     go_wp2
     go_ret
     exact ⟨by rw [decide_eq_false (hno)]; rfl, HW.out.trans ((hB.trans (HBD.mono hB.size)).mono HW.out.size)⟩
   ·have hd : decide ((k : Int) < (a.length : Int)) = false := decide_eq_false (by omega)
    have hyes := Lib.hid (take_done he.out (by omega) HL.out)
    clear he
    go_wp2
    go_ret
    exact ⟨by rw [decide_eq_true hyes.out]; rfl, hB⟩
 ·have i1 : ((a.length : Int) != (b.length : Int)) = true := by simp; omega
  have hno : ¬ a = b := fun h => hl (by rw [h])
  go_enter Tryz.func56, Tryz.ntmps56
  go_wp2
  go_ret
  exact ⟨by rw [decide_eq_false hno]; rfl, Below.refl _ _⟩
end Go.Proofs.YtmcjccigglekpaaGreatDoor.Given
namespace Go.Proofs.YtmcjccigglekpaaGreatDoor.Given
open Go Go.RowKit Go.Proofs Go.Proofs.YtmcjccigglekpaaGreatDoorW.PrintWords Go.Proofs.YtmcjccigglekpaaGreatDoorW.PrintLast Go.Proofs.YtmcjccigglekpaaGreatDoorW.PrintMore Go.Proofs.YtmcjccigglekpaaGreatDoor.P

theorem all_take_false {α : Type} {f : α → Bool} {l : List α} (k : Nat) (hk : k < l.length) (h : f l[k] = false) : l.all f = false := by
 rw [List.all_eq_false]
 exact ⟨l[k], List.getElem_mem hk, by simp [h]⟩
theorem all_of_get {α : Type} {f : α → Bool} {l : List α} (h : ∀ k (hk : k < l.length), f l[k] = true) : l.all f = true := by
 rw [List.all_eq_true]
 intro x hx
 obtain ⟨k, hk, rfl⟩ := List.mem_iff_getElem.mp hx
 exact h k hk
/-- What the objects' loop has seen. -/
def upO (s : St) (k : Nat) : Prop := ∀ j, j < k → (∀ hj : j < s.no.length, nodeB s.no[j] = true) ∧ (∀ hj : j < s.po.length, portB s.po[j] = true)
def upC (s : St) (k : Nat) : Prop := ∀ j, j < k → (∀ hj : j < s.fr.length, s.fr[j].length ≤ 64) ∧ (∀ hj : j < s.li.length, s.li[j].length ≤ 64) ∧ (∀ hj : j < s.sw.length, keyB s.sw[j].f1 = true)

theorem bcellv {w w' : World} (h : Below w.heap.size w w') {a : Addr} {v : Value} (hc : w.cell? a = some v) : w'.cell? a = some v := by
 rw [h.cell (World.block_lt_of_cell? w a hc)]
 exact hc
theorem belowN {B n : Nat} {a w : World} (h : Below B a w) : Below B a (w.drewN n) := ⟨h.os, h.tape, h.output, h.size, h.block⟩
def CheckPost (r : Int) (w : World) (e : Ending) (w' : World) : Prop := e = .returned (.int .i64 r) ∧ Below w.heap.size w w'

set_option maxRecDepth 100000 in
set_option maxHeartbeats 1600000 in
theorem image_Check_calls (h : Sv) (s : St) (w : World) (hs : h.At s w) :
  Calls Tryz.prog 13 #[.agg (h.cells s)] w fun e w' => e = .returned (.int .i64 (if stateB s = true then 0 else 2)) ∧ Below w.heap.size w w' := by
 show Calls _ _ _ _ (CheckPost _ w)
 have hr : Hid ((if stateB s = true then (0 : Int) else 2) = if stateB s = true then 0 else 2) := Lib.hid rfl
 generalize hq : (if stateB s = true then (0 : Int) else 2) = r at hr ⊢
 clear hr
 have HR := Lib.hid hq
 obtain ⟨A0, A1, A2, A3, A4, A5, A6, A7, c0, c1, c2, c3, c4, c5, c6, c7⟩ := h
 have HS := Lib.hid hs
 clear hq hs
 dsimp only [Sv.cells]
 by_cases d0 : 64 < (s.th.length : Int)
 ·have b0 : decide (64 < (s.th.length : Int)) = true := decide_eq_true d0
  have e0 := HR.out
  rw [if_neg (by unfold stateB sizesB; rw [Bool.and_assoc, Bool.and_assoc, decide_eq_false (by omega)]; simp)] at e0
  subst e0
  clear HR
  go_enter Tryz.func13, Tryz.ntmps13
  go_wp2
  repeat (go_quiet (fail); try go_wp2)
  go_ret
  exact ⟨rfl, belowN ((Below.refl _ _).alloc (Nat.le_refl _) _)⟩
 have b0 : decide (64 < (s.th.length : Int)) = false := decide_eq_false d0
 by_cases d1 : ¬ (s.no.length : Int) = (s.th.length : Int)
 ·have b1 : ((s.no.length : Int) != (s.th.length : Int)) = true := bne_iff_ne.mpr d1
  have e0 := HR.out
  rw [if_neg (by unfold stateB sizesB; rw [Bool.and_assoc, Bool.and_assoc, decide_eq_false (by omega)]; simp)] at e0
  subst e0
  clear HR
  go_enter Tryz.func13, Tryz.ntmps13
  go_wp2
  repeat (go_quiet (fail); try go_wp2)
  go_ret
  exact ⟨rfl, belowN ((Below.refl _ _).alloc (Nat.le_refl _) _)⟩
 replace d1 := Decidable.of_not_not d1
 have b1 : ((s.no.length : Int) != (s.th.length : Int)) = false := bne_eq_false_iff_eq.mpr d1
 by_cases d2 : ¬ (s.po.length : Int) = (s.th.length : Int)
 ·have b2 : ((s.po.length : Int) != (s.th.length : Int)) = true := bne_iff_ne.mpr d2
  have e0 := HR.out
  rw [if_neg (by unfold stateB sizesB; rw [Bool.and_assoc, Bool.and_assoc, decide_eq_false (by omega)]; simp)] at e0
  subst e0
  clear HR
  go_enter Tryz.func13, Tryz.ntmps13
  go_wp2
  repeat (go_quiet (fail); try go_wp2)
  go_ret
  exact ⟨rfl, belowN ((Below.refl _ _).alloc (Nat.le_refl _) _)⟩
 replace d2 := Decidable.of_not_not d2
 have b2 : ((s.po.length : Int) != (s.th.length : Int)) = false := bne_eq_false_iff_eq.mpr d2
 by_cases d3 : 64 < (s.fr.length : Int)
 ·have b3 : decide (64 < (s.fr.length : Int)) = true := decide_eq_true d3
  have e0 := HR.out
  rw [if_neg (by unfold stateB sizesB; rw [Bool.and_assoc, Bool.and_assoc, decide_eq_false (by omega)]; simp)] at e0
  subst e0
  clear HR
  go_enter Tryz.func13, Tryz.ntmps13
  go_wp2
  repeat (go_quiet (fail); try go_wp2)
  go_ret
  exact ⟨rfl, belowN ((Below.refl _ _).alloc (Nat.le_refl _) _)⟩
 have b3 : decide (64 < (s.fr.length : Int)) = false := decide_eq_false d3
 by_cases d4 : ¬ (s.li.length : Int) = (s.fr.length : Int)
 ·have b4 : ((s.li.length : Int) != (s.fr.length : Int)) = true := bne_iff_ne.mpr d4
  have e0 := HR.out
  rw [if_neg (by unfold stateB sizesB; rw [Bool.and_assoc, Bool.and_assoc, decide_eq_false (by omega)]; simp)] at e0
  subst e0
  clear HR
  go_enter Tryz.func13, Tryz.ntmps13
  go_wp2
  repeat (go_quiet (fail); try go_wp2)
  go_ret
  exact ⟨rfl, belowN ((Below.refl _ _).alloc (Nat.le_refl _) _)⟩
 replace d4 := Decidable.of_not_not d4
 have b4 : ((s.li.length : Int) != (s.fr.length : Int)) = false := bne_eq_false_iff_eq.mpr d4
 by_cases d5 : ¬ (s.sw.length : Int) = (s.fr.length : Int)
 ·have b5 : ((s.sw.length : Int) != (s.fr.length : Int)) = true := bne_iff_ne.mpr d5
  have e0 := HR.out
  rw [if_neg (by unfold stateB sizesB; rw [Bool.and_assoc, Bool.and_assoc, decide_eq_false (by omega)]; simp)] at e0
  subst e0
  clear HR
  go_enter Tryz.func13, Tryz.ntmps13
  go_wp2
  repeat (go_quiet (fail); try go_wp2)
  go_ret
  exact ⟨rfl, belowN ((Below.refl _ _).alloc (Nat.le_refl _) _)⟩
 replace d5 := Decidable.of_not_not d5
 have b5 : ((s.sw.length : Int) != (s.fr.length : Int)) = false := bne_eq_false_iff_eq.mpr d5
 by_cases d6 : ¬ (s.ro.length : Int) = (s.fr.length : Int)
 ·have b6 : ((s.ro.length : Int) != (s.fr.length : Int)) = true := bne_iff_ne.mpr d6
  have e0 := HR.out
  rw [if_neg (by unfold stateB sizesB; rw [Bool.and_assoc, Bool.and_assoc, decide_eq_false (by omega)]; simp)] at e0
  subst e0
  clear HR
  go_enter Tryz.func13, Tryz.ntmps13
  go_wp2
  repeat (go_quiet (fail); try go_wp2)
  go_ret
  exact ⟨rfl, belowN ((Below.refl _ _).alloc (Nat.le_refl _) _)⟩
 replace d6 := Decidable.of_not_not d6
 have b6 : ((s.ro.length : Int) != (s.fr.length : Int)) = false := bne_eq_false_iff_eq.mpr d6
 by_cases d7 : 512 < (s.tr.length : Int)
 ·have b7 : decide (512 < (s.tr.length : Int)) = true := decide_eq_true d7
  have e0 := HR.out
  rw [if_neg (by unfold stateB sizesB; rw [Bool.and_assoc, Bool.and_assoc, decide_eq_false (by omega)]; simp)] at e0
  subst e0
  clear HR
  go_enter Tryz.func13, Tryz.ntmps13
  go_wp2
  repeat (go_quiet (fail); try go_wp2)
  go_ret
  exact ⟨rfl, belowN ((Below.refl _ _).alloc (Nat.le_refl _) _)⟩
 have b7 : decide (512 < (s.tr.length : Int)) = false := decide_eq_false d7
 go_enter Tryz.func13, Tryz.ntmps13
 go_wp2
 repeat (go_quiet (fail); try go_wp2)
 have HB : Below w.heap.size w ((w.alloc (Obj.cells #[.slice A0 s.th.length c0, .slice A1 s.fr.length c1, .slice A2 s.no.length c2, .slice A3 s.tr.length c3, .slice A4 s.po.length c4, .slice A5 s.li.length c5, .slice A6 s.ro.length c6, .slice A7 s.sw.length c7] 32)).drewN nq) := belowN ((Below.refl _ _).alloc (Nat.le_refl _) _)
 have HL : w.heap.size < ((w.alloc (Obj.cells #[.slice A0 s.th.length c0, .slice A1 s.fr.length c1, .slice A2 s.no.length c2, .slice A3 s.tr.length c3, .slice A4 s.po.length c4, .slice A5 s.li.length c5, .slice A6 s.ro.length c6, .slice A7 s.sw.length c7] 32)).drewN nq).heap.size := by simp
 have m1 : ((w.alloc (Obj.cells #[.slice A0 s.th.length c0, .slice A1 s.fr.length c1, .slice A2 s.no.length c2, .slice A3 s.tr.length c3, .slice A4 s.po.length c4, .slice A5 s.li.length c5, .slice A6 s.ro.length c6, .slice A7 s.sw.length c7] 32)).drewN nq).cell? ⟨w.heap.size, 1, none⟩ = some (.slice A1 s.fr.length c1) := by simp
 have m2 : ((w.alloc (Obj.cells #[.slice A0 s.th.length c0, .slice A1 s.fr.length c1, .slice A2 s.no.length c2, .slice A3 s.tr.length c3, .slice A4 s.po.length c4, .slice A5 s.li.length c5, .slice A6 s.ro.length c6, .slice A7 s.sw.length c7] 32)).drewN nq).cell? ⟨w.heap.size, 2, none⟩ = some (.slice A2 s.no.length c2) := by simp
 have m3 : ((w.alloc (Obj.cells #[.slice A0 s.th.length c0, .slice A1 s.fr.length c1, .slice A2 s.no.length c2, .slice A3 s.tr.length c3, .slice A4 s.po.length c4, .slice A5 s.li.length c5, .slice A6 s.ro.length c6, .slice A7 s.sw.length c7] 32)).drewN nq).cell? ⟨w.heap.size, 3, none⟩ = some (.slice A3 s.tr.length c3) := by simp
 have m4 : ((w.alloc (Obj.cells #[.slice A0 s.th.length c0, .slice A1 s.fr.length c1, .slice A2 s.no.length c2, .slice A3 s.tr.length c3, .slice A4 s.po.length c4, .slice A5 s.li.length c5, .slice A6 s.ro.length c6, .slice A7 s.sw.length c7] 32)).drewN nq).cell? ⟨w.heap.size, 4, none⟩ = some (.slice A4 s.po.length c4) := by simp
 have m5 : ((w.alloc (Obj.cells #[.slice A0 s.th.length c0, .slice A1 s.fr.length c1, .slice A2 s.no.length c2, .slice A3 s.tr.length c3, .slice A4 s.po.length c4, .slice A5 s.li.length c5, .slice A6 s.ro.length c6, .slice A7 s.sw.length c7] 32)).drewN nq).cell? ⟨w.heap.size, 5, none⟩ = some (.slice A5 s.li.length c5) := by simp
 have m7 : ((w.alloc (Obj.cells #[.slice A0 s.th.length c0, .slice A1 s.fr.length c1, .slice A2 s.no.length c2, .slice A3 s.tr.length c3, .slice A4 s.po.length c4, .slice A5 s.li.length c5, .slice A6 s.ro.length c6, .slice A7 s.sw.length c7] 32)).drewN nq).cell? ⟨w.heap.size, 7, none⟩ = some (.slice A7 s.sw.length c7) := by simp
 generalize ((w.alloc (Obj.cells #[.slice A0 s.th.length c0, .slice A1 s.fr.length c1, .slice A2 s.no.length c2, .slice A3 s.tr.length c3, .slice A4 s.po.length c4, .slice A5 s.li.length c5, .slice A6 s.ro.length c6, .slice A7 s.sw.length c7] 32)).drewN nq) = wb at *
 clear b0 b1 b2 b3 b4 b5 b6 b7
 have hb0 : ∀ w', Below wb.heap.size wb w' → Sv.At ⟨A0, A1, A2, A3, A4, A5, A6, A7, c0, c1, c2, c3, c4, c5, c6, c7⟩ s w' := fun w' hb => HS.out.below (HB.trans (hb.mono (Nat.le_of_lt HL)))
 clear HS
 have HAt := Lib.hid hb0
 clear hb0
 go_loopw [63] (fun v wr => ∃ k : Nat, k ≤ s.th.length ∧ v = .int .i64 k ∧ Hid (upO s k) ∧ Below wb.heap.size wb wr) (fun v _ => s.th.length - (intOf v).toNat)
 case atStart => exact ⟨0, Nat.zero_le _, rfl, Lib.hid (fun j hj => absurd hj (Nat.not_lt_zero j)), Below.refl _ _⟩
 case round =>
  obtain ⟨k, hk, rfl, hup, hB⟩ := hrel
  have n2 := bcellv hB m2
  have n4 := bcellv hB m4
  by_cases hlt : k < s.th.length
  ·have hd : decide ((k : Int) < (s.th.length : Int)) = true := decide_eq_true (by omega)
   have hA := HAt.out _ hB
   obtain ⟨ad, A, c, e1, hx, hlc, hN⟩ := at_row hA.r2 k (by omega)
   obtain ⟨ap, Aq, cq, e2, hy0, hy1, hy2, hlq, hQ⟩ := at_T59 hA.r4 (k : Int) (by omega) (by omega)
   rw [rdPort _ k (by omega)] at hy0 hy1 hy2 hlq hQ
   rw [Int.toNat_natCast] at hy0 hy1 hy2
   dsimp only at e1 e2
   subst e1 e2
   obtain ⟨q0, hq0⟩ : ∃ q, nodeB s.no[k] = q := ⟨_, rfl⟩
   obtain ⟨q1, hq1⟩ : ∃ q, portB s.po[k] = q := ⟨_, rfl⟩
   have C0 := fun w' (hb : Below wr.heap.size wr w') => isNode_calls A c s.no[k] w' (Kd.C_below hN hb)
   have C1 := fun w' (hb : Below wr.heap.size wr w') => isPort_calls s.po[k].f0 s.po[k].f1 Aq cq s.po[k].f2 w' (Kd.C_below hQ hb)
   have hp : (decide (s.po[k].f2.length ≤ 64) && !s.po[k].f2.any waitBad) = q1 := hq1
   rw [hq0] at C0
   rw [hp] at C1
   have HQ0 := Lib.hid hq0
   have HQ1 := Lib.hid hq1
   have D0 := Lib.hid C0
   have D1 := Lib.hid C1
   clear hq0 hq1 C0 C1 hp hA hN hQ
   have i2 : decide (0 ≤ (k : Int)) = true := decide_eq_true (by omega)
   have i3 : decide ((k : Int) < (s.no.length : Int)) = true := decide_eq_true (by omega)
   have i4 : decide ((k : Int) < (s.po.length : Int)) = true := decide_eq_true (by omega)
   have j3 : decide (k < s.no.length) = true := decide_eq_true (by omega)
   have j4 : decide (k < s.po.length) = true := decide_eq_true (by omega)
   cases q0
   ·go_wp2_with (go_at_call 37; (with_reducible refine (D0.out _ ?_).mono ?_); clear D0; (exact Below.refl _ _); rintro e w1 ⟨rfl, hb1⟩)
    go_ret
    have e0 := HR.out
    rw [if_neg (by unfold stateB; rw [all_take_false k (by omega) HQ0.out]; simp)] at e0
    subst e0
    exact ⟨rfl, HB.trans ((hB.trans (hb1.mono hB.size)).mono (Nat.le_of_lt HL))⟩
   ·cases q1
    ·go_wp2_with (first | (go_at_call 37; (with_reducible refine (D0.out _ ?_).mono ?_); clear D0; (exact Below.refl _ _); rintro e w1 ⟨rfl, hb1⟩; have o4 := bcellv hb1 n4; have z0 := bcellv hb1 hy0; have z1 := bcellv hb1 hy1; have z2 := bcellv hb1 hy2) | (go_at_call 38; (with_reducible refine (D1.out _ ?_).mono ?_); clear D1; (exact hb1); rintro e w2 ⟨rfl, hb2⟩))
     go_ret
     have e0 := HR.out
     rw [if_neg (by unfold stateB; rw [all_take_false k (by omega) HQ1.out]; simp)] at e0
     subst e0
     exact ⟨rfl, HB.trans (((hB.trans (hb1.mono hB.size)).trans (hb2.mono (Nat.le_trans hB.size hb1.size))).mono (Nat.le_of_lt HL))⟩
    ·go_wp2_with (first | (go_at_call 37; (with_reducible refine (D0.out _ ?_).mono ?_); clear D0; (exact Below.refl _ _); rintro e w1 ⟨rfl, hb1⟩; have o4 := bcellv hb1 n4; have z0 := bcellv hb1 hy0; have z1 := bcellv hb1 hy1; have z2 := bcellv hb1 hy2) | (go_at_call 38; (with_reducible refine (D1.out _ ?_).mono ?_); clear D1; (exact hb1); rintro e w2 ⟨rfl, hb2⟩))
     refine ⟨⟨k + 1, hlt, rfl, ?_, ?_⟩, ?_⟩
     ·refine Lib.hid (fun j hj => ?_)
      by_cases hjk : j = k
      ·subst hjk
       exact ⟨fun _ => HQ0.out, fun _ => HQ1.out⟩
      ·exact hup.out j (by omega)
     ·exact (hB.trans (hb1.mono hB.size)).trans (hb2.mono (Nat.le_trans hB.size hb1.size))
     ·show s.th.length - ((k : Int) + 1).toNat < s.th.length - ((k : Int)).toNat
      omega
  ·have hd : decide ((k : Int) < (s.th.length : Int)) = false := decide_eq_false (by omega)
   obtain rfl : k = s.th.length := by omega
   have HU := hup
   clear hlt hk hup n2 n4
   go_wp2
   have HB0 := hB
   clear hB
   go_loopw [84] (fun v wr => ∃ k : Nat, k ≤ s.fr.length ∧ v = .int .i64 k ∧ Hid (upC s k) ∧ Below wb.heap.size wb wr) (fun v _ => s.fr.length - (intOf v).toNat)
   case atStart => exact ⟨0, Nat.zero_le _, rfl, Lib.hid (fun j hj => absurd hj (Nat.not_lt_zero j)), HB0⟩
   case round =>
    obtain ⟨k, hk, rfl, hup, hB⟩ := hrel
    have n1 := bcellv hB m1
    have n5 := bcellv hB m5
    have n7 := bcellv hB m7
    by_cases hlt : k < s.fr.length
    ·have hd : decide ((k : Int) < (s.fr.length : Int)) = true := decide_eq_true (by omega)
     have hA := HAt.out _ hB
     obtain ⟨ad, A, c, e1, hx, hlc, _⟩ := at_row hA.r1 k (by omega)
     obtain ⟨ae, A', c', e2, hx', hlc', _⟩ := at_row hA.r5 k (by omega)
     obtain ⟨ap, e3, hy0, hy1, hy2, hy3⟩ := at_T82 hA.r7 (k : Int) (by omega) (by omega)
     rw [rdSweep _ k (by omega)] at hy0 hy1 hy2 hy3
     rw [Int.toNat_natCast] at hy0 hy1 hy2 hy3
     dsimp only at e1 e2 e3
     subst e1 e2 e3
     obtain ⟨q0, hq0⟩ : ∃ q, keyB s.sw[k].f1 = q := ⟨_, rfl⟩
     have C0 := fun w' (_ : Below wr.heap.size wr w') => isKey_calls s.sw[k].f1 w'
     rw [hq0] at C0
     have HQ0 := Lib.hid hq0
     have D0 := Lib.hid C0
     clear hq0 C0 hA
     have i2 : decide (0 ≤ (k : Int)) = true := decide_eq_true (by omega)
     have i3 : decide ((k : Int) < (s.li.length : Int)) = true := decide_eq_true (by omega)
     have i4 : decide ((k : Int) < (s.sw.length : Int)) = true := decide_eq_true (by omega)
     have j2 : decide (k < s.fr.length) = true := decide_eq_true (by omega)
     have j3 : decide (k < s.li.length) = true := decide_eq_true (by omega)
     have j4 : decide (k < s.sw.length) = true := decide_eq_true (by omega)
     by_cases f0 : 64 < (s.fr[k].length : Int)
     ·have g0 : decide (64 < (s.fr[k].length : Int)) = true := decide_eq_true f0
      go_wp2
      go_ret
      have e0 := HR.out
      rw [if_neg (by unfold stateB; rw [all_take_false (f := fun l : List Int => decide (l.length ≤ 64)) (l := s.fr) k (by omega) (decide_eq_false (by omega))]; simp)] at e0
      subst e0
      exact ⟨rfl, HB.trans (hB.mono (Nat.le_of_lt HL))⟩
     ·have g0 : decide (64 < (s.fr[k].length : Int)) = false := decide_eq_false f0
      by_cases f1 : 64 < (s.li[k].length : Int)
      ·have g1 : decide (64 < (s.li[k].length : Int)) = true := decide_eq_true f1
       go_wp2
       go_ret
       have e0 := HR.out
       rw [if_neg (by unfold stateB; rw [all_take_false (f := fun l : List Int => decide (l.length ≤ 64)) (l := s.li) k (by omega) (decide_eq_false (by omega))]; simp)] at e0
       subst e0
       exact ⟨rfl, HB.trans (hB.mono (Nat.le_of_lt HL))⟩
      ·have g1 : decide (64 < (s.li[k].length : Int)) = false := decide_eq_false f1
       cases q0
       ·go_wp2_with (go_at_call 39; (with_reducible refine (D0.out _ ?_).mono ?_); clear D0; (exact Below.refl _ _); rintro e w1 ⟨rfl, hb1⟩)
        go_ret
        have e0 := HR.out
        rw [if_neg (by unfold stateB; rw [all_take_false (f := fun x : S82 => keyB x.f1) (l := s.sw) k (by omega) HQ0.out]; simp)] at e0
        subst e0
        exact ⟨rfl, HB.trans ((hB.trans (hb1.mono hB.size)).mono (Nat.le_of_lt HL))⟩
       ·go_wp2_with (go_at_call 39; (with_reducible refine (D0.out _ ?_).mono ?_); clear D0; (exact Below.refl _ _); rintro e w1 ⟨rfl, hb1⟩)
        refine ⟨⟨k + 1, hlt, rfl, ?_, ?_⟩, ?_⟩
        ·refine Lib.hid (fun j hj => ?_)
         by_cases hjk : j = k
         ·subst hjk
          exact ⟨fun _ => by omega, fun _ => by omega, fun _ => HQ0.out⟩
         ·exact hup.out j (by omega)
        ·exact hB.trans (hb1.mono hB.size)
        ·show s.fr.length - ((k : Int) + 1).toNat < s.fr.length - ((k : Int)).toNat
         omega
    ·have hd : decide ((k : Int) < (s.fr.length : Int)) = false := decide_eq_false (by omega)
     obtain rfl : k = s.fr.length := by omega
     have n3 := bcellv hB m3
     have hA := (HAt.out _ hB).r3
     obtain ⟨q0, hq0⟩ : ∃ q, s.tr.any branchBad = q := ⟨_, rfl⟩
     have C0 := branchBadContains_calls A3 c3 s.tr wr hA
     rw [hq0] at C0
     have e0 : (if q0 = true then (2 : Int) else 0) = r := by
      rw [← HR.out]
      have hsz : sizesB s = true := decide_eq_true (by omega)
      have ha : s.no.all nodeB = true := all_of_get fun j hj => (HU.out j (by omega)).1 hj
      have hb : s.po.all portB = true := all_of_get fun j hj => (HU.out j (by omega)).2 hj
      have hc : s.fr.all (fun l => decide (l.length ≤ 64)) = true := all_of_get fun j hj => decide_eq_true ((hup.out j (by omega)).1 hj)
      have hd : s.li.all (fun l => decide (l.length ≤ 64)) = true := all_of_get fun j hj => decide_eq_true ((hup.out j (by omega)).2.1 hj)
      have he : s.sw.all (fun x => keyB x.f1) = true := all_of_get fun j hj => (hup.out j (by omega)).2.2 hj
      unfold stateB
      rw [hsz, ha, hb, hc, hd, he, hq0]
      cases q0 <;> rfl
     have D0 := Lib.hid C0
     clear C0 hA hq0 HR hlt hk hup n1 n5 n7 HU
     cases q0
     ·obtain rfl : (0 : Int) = r := e0
      go_wp2_with (go_at_call 40; (with_reducible refine D0.out.mono ?_); clear D0; rintro e w1 ⟨rfl, hb1⟩)
      go_ret
      exact ⟨rfl, HB.trans ((hB.trans (hb1.mono hB.size)).mono (Nat.le_of_lt HL))⟩
     ·obtain rfl : (2 : Int) = r := e0
      go_wp2_with (go_at_call 40; (with_reducible refine D0.out.mono ?_); clear D0; rintro e w1 ⟨rfl, hb1⟩)
      go_ret
      exact ⟨rfl, HB.trans ((hB.trans (hb1.mono hB.size)).mono (Nat.le_of_lt HL))⟩

end Go.Proofs.YtmcjccigglekpaaGreatDoor.Given
namespace Go.Proofs.YtmcjccigglekpaaGreatDoor.Given
open Go Go.RowKit Go.Proofs Go.Proofs.YtmcjccigglekpaaGreatDoorW.PrintWords Go.Proofs.YtmcjccigglekpaaGreatDoorW.PrintLast Go.Proofs.YtmcjccigglekpaaGreatDoorW.PrintMore Go.Proofs.YtmcjccigglekpaaGreatDoor.P

theorem blk_at {w : World} {o : Obj} {n : Nat} (h : w.heap.size = n) : (w.alloc o).heap[n]? = some o := h ▸ blk_new w o
theorem rdElWaiter (xs : List S95) (k : Nat) (hk : k < xs.length) : rd_T95 xs (k : Int) = xs[k] := by
 unfold rd_T95
 rw [Int.toNat_natCast, List.getD_eq_getElem?_getD, List.getElem?_eq_getElem hk]
 rfl
set_option maxRecDepth 100000 in
set_option maxHeartbeats 4000000 in
theorem portSame_calls' (A0 A1 : Option Addr) (c0 c1 : Nat) (x0 x1 y0 y1 : Int) (a b : List S95) (w : World) (hr0 : Kd.C k95 w A0 a.length a) (hr1 : Kd.C k95 w A1 b.length b) :
  Calls Tryz.prog 57 #[.agg #[.int .i64 x0, .int .i64 x1, .slice A0 a.length c0], .agg #[.int .i64 y0, .int .i64 y1, .slice A1 b.length c1]] w (SPost (decide ((⟨x0, x1, a⟩ : S59) = ⟨y0, y1, b⟩)) w) := by
 by_cases h0 : x0 = y0
 ·by_cases h1 : x1 = y1
  ·by_cases hl : a.length = b.length
   ·have i1 : ((a.length : Int) != (b.length : Int)) = false := by simp [hl]
    subst h0 h1
    have hbnd : a.length ≤ 9223372036854775807 := hr0.2.1
    have HN := Lib.hid hbnd
    have HL := Lib.hid hl
    clear hl hbnd
    have hbx : ((w.alloc (.cells #[.int .i64 x0, .int .i64 x1, .slice A0 a.length c0] 59)).alloc (.cells #[.int .i64 x0, .int .i64 x1, .slice A1 b.length c1] 59)).heap[w.heap.size]? = some (.cells #[.int .i64 x0, .int .i64 x1, .slice A0 a.length c0] 59 (0, 0)) := blk_alloc (blk_new w _) _
    have hby : ((w.alloc (.cells #[.int .i64 x0, .int .i64 x1, .slice A0 a.length c0] 59)).alloc (.cells #[.int .i64 x0, .int .i64 x1, .slice A1 b.length c1] 59)).heap[w.heap.size + 1]? = some (.cells #[.int .i64 x0, .int .i64 x1, .slice A1 b.length c1] 59 (0, 0)) := blk_at (by simp)
    have hbw : Below w.heap.size w ((w.alloc (.cells #[.int .i64 x0, .int .i64 x1, .slice A0 a.length c0] 59)).alloc (.cells #[.int .i64 x0, .int .i64 x1, .slice A1 b.length c1] 59)) := ((Below.refl _ _).alloc (Nat.le_refl _) _).alloc (by simp) _
    have p0 := (blk_cell hbx 0).trans (show _ = some (.int .i64 x0 : Value) from rfl)
    have p1 := (blk_cell hbx 1).trans (show _ = some (.int .i64 x1 : Value) from rfl)
    have p2 := (blk_cell hbx 2).trans (show _ = some (.slice A0 a.length c0 : Value) from rfl)
    have q0 := (blk_cell hby 0).trans (show _ = some (.int .i64 x0 : Value) from rfl)
    have q1 := (blk_cell hby 1).trans (show _ = some (.int .i64 x1 : Value) from rfl)
    have q2 := (blk_cell hby 2).trans (show _ = some (.slice A1 b.length c1 : Value) from rfl)
    clear hbx hby
    have HR0 := Lib.hid (Kd.C_below hr0 hbw)
    have HR1 := Lib.hid (Kd.C_below hr1 hbw)
    have HW := Lib.hid hbw
    clear hr0 hr1 hbw
    go_enter Tryz.func57, Tryz.ntmps57
    go_wp2
    generalize ((w.alloc (.cells #[.int .i64 x0, .int .i64 x1, .slice A0 a.length c0] 59)).alloc (.cells #[.int .i64 x0, .int .i64 x1, .slice A1 b.length c1] 59)) = W0 at *
    clear i1
    go_loopw [5] (fun v wr => ∃ k : Nat, k ≤ a.length ∧ v = .int .i64 k ∧ Hid (a.take k = b.take k) ∧ Below W0.heap.size W0 wr) (fun v _ => a.length - (intOf v).toNat)
    case atStart => exact ⟨0, Nat.zero_le _, rfl, Lib.hid rfl, Below.refl _ _⟩
    case round =>
     obtain ⟨k, hk, rfl, he, hB⟩ := hrel
     have zp2 := bcellv hB p2
     have zq2 := bcellv hB q2
     by_cases hlt : k < a.length
     ·have hlt' : k < b.length := HL.out ▸ hlt
      have hd : decide ((k : Int) < (a.length : Int)) = true := decide_eq_true (by omega)
      have i2 : decide (0 ≤ (k : Int)) = true := decide_eq_true (by omega)
      have j2 : decide (k < a.length) = true := decide_eq_true hlt
      have j3 : decide (k < b.length) = true := decide_eq_true hlt'
      obtain ⟨ad, e1, hv0, hv1, hv2, hv3, hv4, hv5, hv6, hv7⟩ := at_T95 (Kd.C_below HR0.out hB) (k : Int) (by omega) (by omega)
      obtain ⟨bd, e2, hu0, hu1, hu2, hu3, hu4, hu5, hu6, hu7⟩ := at_T95 (Kd.C_below HR1.out hB) (k : Int) (by omega) (by omega)
      subst e1 e2
      rw [rdElWaiter _ k hlt, Int.toNat_natCast] at hv0 hv1 hv2 hv3 hv4 hv5 hv6 hv7
      rw [rdElWaiter _ k hlt', Int.toNat_natCast] at hu0 hu1 hu2 hu3 hu4 hu5 hu6 hu7
      by_cases hx : a[k] = b[k]
      ·have hmore := Lib.hid (take_more he.out hlt hlt' hx)
       rw [← hx] at hu0 hu1 hu2 hu3 hu4 hu5 hu6 hu7
       clear hx he
       generalize a[k] = x at *
       go_wp2
       obtain ⟨wd, hwd⟩ : ∃ wd, wr.drew = wd := ⟨_, rfl⟩
       have cw : ∀ {a v}, wr.cell? a = some v → wd.cell? a = some v := fun h => by rw [← hwd]; exact h
       have HBD : Below wr.heap.size wr wd := hwd ▸ below_drew (Below.refl _ _)
       replace hv0 := cw hv0
       replace hv1 := cw hv1
       replace hv2 := cw hv2
       replace hv3 := cw hv3
       replace hv4 := cw hv4
       replace hv5 := cw hv5
       replace hv6 := cw hv6
       replace hv7 := cw hv7
       replace hu0 := cw hu0
       replace hu1 := cw hu1
       replace hu2 := cw hu2
       replace hu3 := cw hu3
       replace hu4 := cw hu4
       replace hu5 := cw hu5
       replace hu6 := cw hu6
       replace hu7 := cw hu7
       replace zp2 := cw zp2
       replace zq2 := cw zq2
       refine wp_region_sch (fun w' => w' = wd) 10 [(false, 0), (false, 1), (false, 2), (false, 3), (false, 4), (false, 5), (false, 6), (false, 7), (false, 8), (false, 9)] (by kernel_rfl) (by kernel_rfl) (fun _ a d _ _ h => by cases d <;> exact h) wd hwd rfl ?_
       clear hwd
       try dsimp only
       repeat (refine' sch_pure rfl rfl ?_ ?_; rotate_left; · (rintro w' rfl; go_simp <;> rfl)
               simp only [Act.put, List.setIfInBounds_toArray, List.set_cons_zero, List.set_cons_succ])
       refine sch_last rfl (fun K hK => ?_)
       go_simp
       refine hK.out _ _ ?_
       clear hK K
       go_wp2
       have hw1 : wrap64 ((k : Int) + 1) = ((k + 1 : Nat) : Int) := by have := HN.out; unfold wrap64; omega
       refine ⟨⟨k + 1, hlt, by rw [hw1], hmore, hB.trans (HBD.mono hB.size)⟩, ?_⟩
       rw [hw1]
       show a.length - (((k + 1 : Nat) : Int)).toNat < a.length - ((k : Int)).toNat
       omega
      ·have hno := not_at hlt hlt' hx
       clear he
       generalize a[k] = x at *
       generalize b[k] = y at *
       have HX := Lib.hid hx
       clear hx
       go_wp2
       obtain ⟨wd, hwd⟩ : ∃ wd, wr.drew = wd := ⟨_, rfl⟩
       have cw : ∀ {a v}, wr.cell? a = some v → wd.cell? a = some v := fun h => by rw [← hwd]; exact h
       have HBD : Below wr.heap.size wr wd := hwd ▸ below_drew (Below.refl _ _)
       replace hv0 := cw hv0
       replace hv1 := cw hv1
       replace hv2 := cw hv2
       replace hv3 := cw hv3
       replace hv4 := cw hv4
       replace hv5 := cw hv5
       replace hv6 := cw hv6
       replace hv7 := cw hv7
       replace hu0 := cw hu0
       replace hu1 := cw hu1
       replace hu2 := cw hu2
       replace hu3 := cw hu3
       replace hu4 := cw hu4
       replace hu5 := cw hu5
       replace hu6 := cw hu6
       replace hu7 := cw hu7
       replace zp2 := cw zp2
       replace zq2 := cw zq2
       refine wp_region_sch (fun w' => w' = wd) 10 [(false, 0), (false, 1), (false, 2), (false, 3), (false, 4), (false, 5), (false, 6), (false, 7), (false, 8), (false, 9)] (by kernel_rfl) (by kernel_rfl) (fun _ a d _ _ h => by cases d <;> exact h) wd hwd rfl ?_
       clear hwd
       try dsimp only
       repeat (refine' sch_pure rfl rfl ?_ ?_; rotate_left; · (rintro w' rfl; go_simp <;> rfl)
               simp only [Act.put, List.setIfInBounds_toArray, List.set_cons_zero, List.set_cons_succ])
       refine sch_last rfl (fun K hK => ?_)
       go_simp
       rw [ifneWaiter HX.out]
       refine hK.out _ _ ?_
       clear hK K
       go_wp2
       go_ret
       exact ⟨by rw [decide_eq_false (fun e => hno (by injection e))]; rfl, HW.out.trans ((hB.trans (HBD.mono hB.size)).mono HW.out.size)⟩
     ·have hd : decide ((k : Int) < (a.length : Int)) = false := decide_eq_false (by omega)
      have hyes := Lib.hid (take_done he.out (by omega) HL.out)
      clear he
      go_wp2
      go_ret
      exact ⟨by rw [hyes.out, decide_eq_true rfl]; rfl, HW.out.trans (hB.mono HW.out.size)⟩
   ·subst h0 h1
    have hno : ¬ (⟨x0, x1, a⟩ : S59) = ⟨x0, x1, b⟩ := fun e => hl (by injection e with _ _ e; rw [e])
    have i1 : ((a.length : Int) != (b.length : Int)) = true := by simp; omega
    have hbx : ((w.alloc (.cells #[.int .i64 x0, .int .i64 x1, .slice A0 a.length c0] 59)).alloc (.cells #[.int .i64 x0, .int .i64 x1, .slice A1 b.length c1] 59)).heap[w.heap.size]? = some (.cells #[.int .i64 x0, .int .i64 x1, .slice A0 a.length c0] 59 (0, 0)) := blk_alloc (blk_new w _) _
    have hby : ((w.alloc (.cells #[.int .i64 x0, .int .i64 x1, .slice A0 a.length c0] 59)).alloc (.cells #[.int .i64 x0, .int .i64 x1, .slice A1 b.length c1] 59)).heap[w.heap.size + 1]? = some (.cells #[.int .i64 x0, .int .i64 x1, .slice A1 b.length c1] 59 (0, 0)) := blk_at (by simp)
    have hbw : Below w.heap.size w ((w.alloc (.cells #[.int .i64 x0, .int .i64 x1, .slice A0 a.length c0] 59)).alloc (.cells #[.int .i64 x0, .int .i64 x1, .slice A1 b.length c1] 59)) := ((Below.refl _ _).alloc (Nat.le_refl _) _).alloc (by simp) _
    have p0 := (blk_cell hbx 0).trans (show _ = some (.int .i64 x0 : Value) from rfl)
    have p1 := (blk_cell hbx 1).trans (show _ = some (.int .i64 x1 : Value) from rfl)
    have p2 := (blk_cell hbx 2).trans (show _ = some (.slice A0 a.length c0 : Value) from rfl)
    have q0 := (blk_cell hby 0).trans (show _ = some (.int .i64 x0 : Value) from rfl)
    have q1 := (blk_cell hby 1).trans (show _ = some (.int .i64 x1 : Value) from rfl)
    have q2 := (blk_cell hby 2).trans (show _ = some (.slice A1 b.length c1 : Value) from rfl)
    clear hbx hby
    clear hr0 hr1
    go_enter Tryz.func57, Tryz.ntmps57
    go_wp2
    go_ret
    exact ⟨by rw [decide_eq_false hno]; rfl, hbw⟩
  ·subst h0
   have hno : ¬ (⟨x0, x1, a⟩ : S59) = ⟨x0, y1, b⟩ := fun e => h1 (by injection e)
   have hbx : ((w.alloc (.cells #[.int .i64 x0, .int .i64 x1, .slice A0 a.length c0] 59)).alloc (.cells #[.int .i64 x0, .int .i64 y1, .slice A1 b.length c1] 59)).heap[w.heap.size]? = some (.cells #[.int .i64 x0, .int .i64 x1, .slice A0 a.length c0] 59 (0, 0)) := blk_alloc (blk_new w _) _
   have hby : ((w.alloc (.cells #[.int .i64 x0, .int .i64 x1, .slice A0 a.length c0] 59)).alloc (.cells #[.int .i64 x0, .int .i64 y1, .slice A1 b.length c1] 59)).heap[w.heap.size + 1]? = some (.cells #[.int .i64 x0, .int .i64 y1, .slice A1 b.length c1] 59 (0, 0)) := blk_at (by simp)
   have hbw : Below w.heap.size w ((w.alloc (.cells #[.int .i64 x0, .int .i64 x1, .slice A0 a.length c0] 59)).alloc (.cells #[.int .i64 x0, .int .i64 y1, .slice A1 b.length c1] 59)) := ((Below.refl _ _).alloc (Nat.le_refl _) _).alloc (by simp) _
   have p0 := (blk_cell hbx 0).trans (show _ = some (.int .i64 x0 : Value) from rfl)
   have p1 := (blk_cell hbx 1).trans (show _ = some (.int .i64 x1 : Value) from rfl)
   have p2 := (blk_cell hbx 2).trans (show _ = some (.slice A0 a.length c0 : Value) from rfl)
   have q0 := (blk_cell hby 0).trans (show _ = some (.int .i64 x0 : Value) from rfl)
   have q1 := (blk_cell hby 1).trans (show _ = some (.int .i64 y1 : Value) from rfl)
   have q2 := (blk_cell hby 2).trans (show _ = some (.slice A1 b.length c1 : Value) from rfl)
   clear hbx hby
   clear hr0 hr1
   go_enter Tryz.func57, Tryz.ntmps57
   go_wp2
   go_ret
   exact ⟨by rw [decide_eq_false hno]; rfl, hbw⟩
 ·have hno : ¬ (⟨x0, x1, a⟩ : S59) = ⟨y0, y1, b⟩ := fun e => h0 (by injection e)
  have hbx : ((w.alloc (.cells #[.int .i64 x0, .int .i64 x1, .slice A0 a.length c0] 59)).alloc (.cells #[.int .i64 y0, .int .i64 y1, .slice A1 b.length c1] 59)).heap[w.heap.size]? = some (.cells #[.int .i64 x0, .int .i64 x1, .slice A0 a.length c0] 59 (0, 0)) := blk_alloc (blk_new w _) _
  have hby : ((w.alloc (.cells #[.int .i64 x0, .int .i64 x1, .slice A0 a.length c0] 59)).alloc (.cells #[.int .i64 y0, .int .i64 y1, .slice A1 b.length c1] 59)).heap[w.heap.size + 1]? = some (.cells #[.int .i64 y0, .int .i64 y1, .slice A1 b.length c1] 59 (0, 0)) := blk_at (by simp)
  have hbw : Below w.heap.size w ((w.alloc (.cells #[.int .i64 x0, .int .i64 x1, .slice A0 a.length c0] 59)).alloc (.cells #[.int .i64 y0, .int .i64 y1, .slice A1 b.length c1] 59)) := ((Below.refl _ _).alloc (Nat.le_refl _) _).alloc (by simp) _
  have p0 := (blk_cell hbx 0).trans (show _ = some (.int .i64 x0 : Value) from rfl)
  have p1 := (blk_cell hbx 1).trans (show _ = some (.int .i64 x1 : Value) from rfl)
  have p2 := (blk_cell hbx 2).trans (show _ = some (.slice A0 a.length c0 : Value) from rfl)
  have q0 := (blk_cell hby 0).trans (show _ = some (.int .i64 y0 : Value) from rfl)
  have q1 := (blk_cell hby 1).trans (show _ = some (.int .i64 y1 : Value) from rfl)
  have q2 := (blk_cell hby 2).trans (show _ = some (.slice A1 b.length c1 : Value) from rfl)
  clear hbx hby
  clear hr0 hr1
  go_enter Tryz.func57, Tryz.ntmps57
  go_wp2
  go_ret
  exact ⟨by rw [decide_eq_false hno]; rfl, hbw⟩
end Go.Proofs.YtmcjccigglekpaaGreatDoor.Given
namespace Go.Proofs.YtmcjccigglekpaaGreatDoor.Given
open Go Go.RowKit Go.Proofs Go.Proofs.YtmcjccigglekpaaGreatDoorW.PrintWords Go.Proofs.YtmcjccigglekpaaGreatDoorW.PrintLast Go.Proofs.YtmcjccigglekpaaGreatDoorW.PrintMore Go.Proofs.YtmcjccigglekpaaGreatDoor.P

theorem rdElThing (xs : List S70) (k : Nat) (hk : k < xs.length) : rd_T70 xs (k : Int) = xs[k] := by
 unfold rd_T70
 rw [Int.toNat_natCast, List.getD_eq_getElem?_getD, List.getElem?_eq_getElem hk]
 rfl
set_option maxRecDepth 100000 in
set_option maxHeartbeats 4000000 in
theorem arenaSame_calls (A0 A1 B0 B1 : Option Addr) (c0 c1 d0 d1 : Nat) (a b : List S70) (f g : List (List Int)) (w : World) (hr0 : Kd.C k70 w A0 a.length a) (hr1 : Kd.C (Kd.slice 3 (Kd.int .i64)) w A1 f.length f) (hs0 : Kd.C k70 w B0 b.length b) (hs1 : Kd.C (Kd.slice 3 (Kd.int .i64)) w B1 g.length g) :
  Calls Tryz.prog 54 #[.agg #[.slice A0 a.length c0, .slice A1 f.length c1], .agg #[.slice B0 b.length d0, .slice B1 g.length d1]] w (SPost (decide (a = b ∧ f = g)) w) := by
 have hbx : ((w.alloc (.cells #[.slice A0 a.length c0, .slice A1 f.length c1] 25)).alloc (.cells #[.slice B0 b.length d0, .slice B1 g.length d1] 25)).heap[w.heap.size]? = some (.cells #[.slice A0 a.length c0, .slice A1 f.length c1] 25 (0, 0)) := blk_alloc (blk_new w _) _
 have hby : ((w.alloc (.cells #[.slice A0 a.length c0, .slice A1 f.length c1] 25)).alloc (.cells #[.slice B0 b.length d0, .slice B1 g.length d1] 25)).heap[w.heap.size + 1]? = some (.cells #[.slice B0 b.length d0, .slice B1 g.length d1] 25 (0, 0)) := blk_at (by simp)
 have hbw : Below w.heap.size w ((w.alloc (.cells #[.slice A0 a.length c0, .slice A1 f.length c1] 25)).alloc (.cells #[.slice B0 b.length d0, .slice B1 g.length d1] 25)) := ((Below.refl _ _).alloc (Nat.le_refl _) _).alloc (by simp) _
 have p0 := (blk_cell hbx 0).trans (show _ = some (.slice A0 a.length c0 : Value) from rfl)
 have p1 := (blk_cell hbx 1).trans (show _ = some (.slice A1 f.length c1 : Value) from rfl)
 have q0 := (blk_cell hby 0).trans (show _ = some (.slice B0 b.length d0 : Value) from rfl)
 have q1 := (blk_cell hby 1).trans (show _ = some (.slice B1 g.length d1 : Value) from rfl)
 clear hbx hby
 by_cases hl : a.length = b.length
 ·by_cases hl2 : f.length = g.length
  ·have i1 : ((a.length : Int) != (b.length : Int)) = false := by simp [hl]
   have i3 : ((f.length : Int) != (g.length : Int)) = false := by simp [hl2]
   have hbnd : a.length ≤ 9223372036854775807 := hr0.2.1
   have HN := Lib.hid hbnd
   have hbnd2 : f.length ≤ 9223372036854775807 := hr1.2.1
   have HNf := Lib.hid hbnd2
   have HL := Lib.hid hl
   have HLf := Lib.hid hl2
   clear hl hl2 hbnd hbnd2
   have HR0 := Lib.hid (Kd.C_below hr0 hbw)
   have HR1 := Lib.hid (Kd.C_below hr1 hbw)
   have HS0 := Lib.hid (Kd.C_below hs0 hbw)
   have HS1 := Lib.hid (Kd.C_below hs1 hbw)
   have HW := Lib.hid hbw
   clear hr0 hr1 hs0 hs1 hbw
   go_enter Tryz.func54, Tryz.ntmps54
   go_wp2
   generalize ((w.alloc (.cells #[.slice A0 a.length c0, .slice A1 f.length c1] 25)).alloc (.cells #[.slice B0 b.length d0, .slice B1 g.length d1] 25)) = W0 at *
   clear i1 i3
   go_loopw [5] (fun v wr => ∃ k : Nat, k ≤ a.length ∧ v = .int .i64 k ∧ Hid (a.take k = b.take k) ∧ Below W0.heap.size W0 wr) (fun v _ => a.length - (intOf v).toNat)
   case atStart => exact ⟨0, Nat.zero_le _, rfl, Lib.hid rfl, Below.refl _ _⟩
   case round =>
    obtain ⟨k, hk, rfl, he, hB⟩ := hrel
    have zp0 := bcellv hB p0
    have zq0 := bcellv hB q0
    have zp1 := bcellv hB p1
    have zq1 := bcellv hB q1
    by_cases hlt : k < a.length
    ·have hlt' : k < b.length := HL.out ▸ hlt
     have hd : decide ((k : Int) < (a.length : Int)) = true := decide_eq_true (by omega)
     have i2 : decide (0 ≤ (k : Int)) = true := decide_eq_true (by omega)
     have j2 : decide (k < a.length) = true := decide_eq_true hlt
     have j3 : decide (k < b.length) = true := decide_eq_true hlt'
     obtain ⟨ad, e1, hv0, hv1, hv2, hv3, hv4, hv5, hv6, hv7⟩ := at_T70 (Kd.C_below HR0.out hB) (k : Int) (by omega) (by omega)
     obtain ⟨bd, e2, hu0, hu1, hu2, hu3, hu4, hu5, hu6, hu7⟩ := at_T70 (Kd.C_below HS0.out hB) (k : Int) (by omega) (by omega)
     subst e1 e2
     rw [rdElThing _ k hlt, Int.toNat_natCast] at hv0 hv1 hv2 hv3 hv4 hv5 hv6 hv7
     rw [rdElThing _ k hlt', Int.toNat_natCast] at hu0 hu1 hu2 hu3 hu4 hu5 hu6 hu7
     by_cases hx : a[k] = b[k]
     ·have hmore := Lib.hid (take_more he.out hlt hlt' hx)
      rw [← hx] at hu0 hu1 hu2 hu3 hu4 hu5 hu6 hu7
      clear hx he
      generalize a[k] = x at *
      go_wp2
      obtain ⟨wd, hwd⟩ : ∃ wd, wr.drew = wd := ⟨_, rfl⟩
      have cw : ∀ {a v}, wr.cell? a = some v → wd.cell? a = some v := fun h => by rw [← hwd]; exact h
      have HBD : Below wr.heap.size wr wd := hwd ▸ below_drew (Below.refl _ _)
      replace hv0 := cw hv0
      replace hv1 := cw hv1
      replace hv2 := cw hv2
      replace hv3 := cw hv3
      replace hv4 := cw hv4
      replace hv5 := cw hv5
      replace hv6 := cw hv6
      replace hv7 := cw hv7
      replace hu0 := cw hu0
      replace hu1 := cw hu1
      replace hu2 := cw hu2
      replace hu3 := cw hu3
      replace hu4 := cw hu4
      replace hu5 := cw hu5
      replace hu6 := cw hu6
      replace hu7 := cw hu7
      replace zp0 := cw zp0
      replace zq0 := cw zq0
      replace zp1 := cw zp1
      replace zq1 := cw zq1
      refine wp_region_sch (fun w' => w' = wd) 10 [(false, 0), (false, 1), (false, 2), (false, 3), (false, 4), (false, 5), (false, 6), (false, 7), (false, 8), (false, 9)] (by kernel_rfl) (by kernel_rfl) (fun _ a d _ _ h => by cases d <;> exact h) wd hwd rfl ?_
      clear hwd
      try dsimp only
      repeat (refine' sch_pure rfl rfl ?_ ?_; rotate_left; · (rintro w' rfl; go_simp <;> rfl)
              simp only [Act.put, List.setIfInBounds_toArray, List.set_cons_zero, List.set_cons_succ])
      refine sch_last rfl (fun K hK => ?_)
      go_simp
      refine hK.out _ _ ?_
      clear hK K
      go_wp2
      have hw1 : wrap64 ((k : Int) + 1) = ((k + 1 : Nat) : Int) := by have := HN.out; unfold wrap64; omega
      refine ⟨⟨k + 1, hlt, by rw [hw1], hmore, hB.trans (HBD.mono hB.size)⟩, ?_⟩
      rw [hw1]
      show a.length - (((k + 1 : Nat) : Int)).toNat < a.length - ((k : Int)).toNat
      omega
     ·have hno := not_at hlt hlt' hx
      clear he
      generalize a[k] = x at *
      generalize b[k] = y at *
      have HX := Lib.hid hx
      clear hx
      go_wp2
      obtain ⟨wd, hwd⟩ : ∃ wd, wr.drew = wd := ⟨_, rfl⟩
      have cw : ∀ {a v}, wr.cell? a = some v → wd.cell? a = some v := fun h => by rw [← hwd]; exact h
      have HBD : Below wr.heap.size wr wd := hwd ▸ below_drew (Below.refl _ _)
      replace hv0 := cw hv0
      replace hv1 := cw hv1
      replace hv2 := cw hv2
      replace hv3 := cw hv3
      replace hv4 := cw hv4
      replace hv5 := cw hv5
      replace hv6 := cw hv6
      replace hv7 := cw hv7
      replace hu0 := cw hu0
      replace hu1 := cw hu1
      replace hu2 := cw hu2
      replace hu3 := cw hu3
      replace hu4 := cw hu4
      replace hu5 := cw hu5
      replace hu6 := cw hu6
      replace hu7 := cw hu7
      replace zp0 := cw zp0
      replace zq0 := cw zq0
      replace zp1 := cw zp1
      replace zq1 := cw zq1
      refine wp_region_sch (fun w' => w' = wd) 10 [(false, 0), (false, 1), (false, 2), (false, 3), (false, 4), (false, 5), (false, 6), (false, 7), (false, 8), (false, 9)] (by kernel_rfl) (by kernel_rfl) (fun _ a d _ _ h => by cases d <;> exact h) wd hwd rfl ?_
      clear hwd
      try dsimp only
      repeat (refine' sch_pure rfl rfl ?_ ?_; rotate_left; · (rintro w' rfl; go_simp <;> rfl)
              simp only [Act.put, List.setIfInBounds_toArray, List.set_cons_zero, List.set_cons_succ])
      refine sch_last rfl (fun K hK => ?_)
      go_simp
      rw [ifneThing HX.out]
      refine hK.out _ _ ?_
      clear hK K
      go_wp2
      go_ret
      exact ⟨by rw [decide_eq_false (fun e => hno e.1)]; rfl, HW.out.trans ((hB.trans (HBD.mono hB.size)).mono HW.out.size)⟩
    ·have hd : decide ((k : Int) < (a.length : Int)) = false := decide_eq_false (by omega)
     have hyes := Lib.hid (take_done he.out (by omega) HL.out)
     clear he
     have HW9 := Lib.hid (HW.out.trans (hB.mono HW.out.size))
     clear HN HL HW hd
     have HN := HNf
     have HL := HLf
     have HW := HW9
     have HRf := Lib.hid (Kd.C_below HR1.out hB)
     have HSf := Lib.hid (Kd.C_below HS1.out hB)
     clear HNf HLf HW9 HR1 HS1 HR0 HS0 hk hB p0 p1 q0 q1
     go_wp2
     generalize wr = W9 at *
     go_loopw [6] (fun v wr => ∃ k : Nat, k ≤ f.length ∧ v = .int .i64 k ∧ Hid (f.take k = g.take k) ∧ Below W9.heap.size W9 wr) (fun v _ => f.length - (intOf v).toNat)
     case atStart => exact ⟨0, Nat.zero_le _, rfl, Lib.hid rfl, Below.refl _ _⟩
     case round =>
      obtain ⟨k, hk, rfl, he, hB⟩ := hrel
      have zzp1 := bcellv hB zp1
      have zzq1 := bcellv hB zq1
      by_cases hlt : k < f.length
      ·have hlt' : k < g.length := HL.out ▸ hlt
       have hd : decide ((k : Int) < (f.length : Int)) = true := decide_eq_true (by omega)
       have i2 : decide (0 ≤ (k : Int)) = true := decide_eq_true (by omega)
       have j2 : decide (k < f.length) = true := decide_eq_true hlt
       have j3 : decide (k < g.length) = true := decide_eq_true hlt'
       obtain ⟨ad, B0, d0, e1, hv, -, hw0⟩ := at_row (Kd.C_below HRf.out hB) k hlt
       obtain ⟨bd, B1, d1, e2, hu, -, hw1⟩ := at_row (Kd.C_below HSf.out hB) k hlt'
       subst e1 e2
       by_cases hx : f[k] = g[k]
       ·have hmore := Lib.hid (take_more he.out hlt hlt' hx)
        have DI := Lib.hid (fun (w' : World) (hb : Below wr.heap.size wr w') => ints_calls B0 B1 d0 d1 _ _ w' (Kd.C_below hw0 hb) (Kd.C_below hw1 hb))
        rw [decide_eq_true hx] at DI
        clear hx he hw0 hw1
        generalize f[k] = x at *
        generalize g[k] = y at *
        go_wp2
        obtain ⟨wd, hwd⟩ : ∃ wd, wr.drew = wd := ⟨_, rfl⟩
        have cw : ∀ {a v}, wr.cell? a = some v → wd.cell? a = some v := fun h => by rw [← hwd]; exact h
        have HBD : Below wr.heap.size wr wd := hwd ▸ below_drew (Below.refl _ _)
        replace hv := cw hv
        replace hu := cw hu
        replace zzp1 := cw zzp1
        replace zzq1 := cw zzq1
        refine wp_region_sch (fun w' => Below wd.heap.size wd w') 11 [(false, 0), (false, 1), (false, 2), (false, 3), (false, 4), (false, 5), (false, 6), (false, 7), (false, 8), (false, 9), (true, 10)] (by kernel_rfl) (by kernel_rfl) (fun _ a d _ _ h => by cases d <;> exact h) wd hwd (Below.refl _ _) ?_
        clear hwd
        try dsimp only
        repeat (refine' sch_pure rfl rfl ?_ ?_; rotate_left; · (rintro w' hs; have z0 := bcellv hs hv; have z1 := bcellv hs hu; have z2 := bcellv hs zzp1; have z3 := bcellv hs zzq1; go_simp <;> rfl)
                simp only [Act.put, List.setIfInBounds_toArray, List.set_cons_zero, List.set_cons_succ])
        refine sch_alone rfl (fun K hK => ?_)
        go_simp
        refine (DI.out wd HBD).mono ?_
        rintro e w3 ⟨rfl, hb3⟩
        refine hK.out _ _ hb3 ?_
        clear hK K
        try simp only [Act.put, List.setIfInBounds_toArray, List.set_cons_zero, List.set_cons_succ]
        refine sch_last rfl (fun K hK => ?_)
        go_simp
        refine hK.out _ _ ?_
        clear hK K
        go_wp2
        have hw9 := ((hB.trans (HBD.mono hB.size)).trans (hb3.mono (Nat.le_trans hB.size HBD.size)))
        have hw1 : wrap64 ((k : Int) + 1) = ((k + 1 : Nat) : Int) := by have := HN.out; unfold wrap64; omega
        refine ⟨⟨k + 1, hlt, by rw [hw1], hmore, hw9⟩, ?_⟩
        rw [hw1]
        show f.length - (((k + 1 : Nat) : Int)).toNat < f.length - ((k : Int)).toNat
        omega
       ·have hno := not_at hlt hlt' hx
        have DI := Lib.hid (fun (w' : World) (hb : Below wr.heap.size wr w') => ints_calls B0 B1 d0 d1 _ _ w' (Kd.C_below hw0 hb) (Kd.C_below hw1 hb))
        rw [decide_eq_false hx] at DI
        clear hx he hw0 hw1
        generalize f[k] = x at *
        generalize g[k] = y at *
        go_wp2
        obtain ⟨wd, hwd⟩ : ∃ wd, wr.drew = wd := ⟨_, rfl⟩
        have cw : ∀ {a v}, wr.cell? a = some v → wd.cell? a = some v := fun h => by rw [← hwd]; exact h
        have HBD : Below wr.heap.size wr wd := hwd ▸ below_drew (Below.refl _ _)
        replace hv := cw hv
        replace hu := cw hu
        replace zzp1 := cw zzp1
        replace zzq1 := cw zzq1
        refine wp_region_sch (fun w' => Below wd.heap.size wd w') 11 [(false, 0), (false, 1), (false, 2), (false, 3), (false, 4), (false, 5), (false, 6), (false, 7), (false, 8), (false, 9), (true, 10)] (by kernel_rfl) (by kernel_rfl) (fun _ a d _ _ h => by cases d <;> exact h) wd hwd (Below.refl _ _) ?_
        clear hwd
        try dsimp only
        repeat (refine' sch_pure rfl rfl ?_ ?_; rotate_left; · (rintro w' hs; have z0 := bcellv hs hv; have z1 := bcellv hs hu; have z2 := bcellv hs zzp1; have z3 := bcellv hs zzq1; go_simp <;> rfl)
                simp only [Act.put, List.setIfInBounds_toArray, List.set_cons_zero, List.set_cons_succ])
        refine sch_alone rfl (fun K hK => ?_)
        go_simp
        refine (DI.out wd HBD).mono ?_
        rintro e w3 ⟨rfl, hb3⟩
        refine hK.out _ _ hb3 ?_
        clear hK K
        try simp only [Act.put, List.setIfInBounds_toArray, List.set_cons_zero, List.set_cons_succ]
        refine sch_last rfl (fun K hK => ?_)
        go_simp
        refine hK.out _ _ ?_
        clear hK K
        go_wp2
        go_ret
        exact ⟨by rw [decide_eq_false (fun e => hno e.2)]; rfl, HW.out.trans (((hB.trans (HBD.mono hB.size)).trans (hb3.mono (Nat.le_trans hB.size HBD.size))).mono HW.out.size)⟩
      ·have hd : decide ((k : Int) < (f.length : Int)) = false := decide_eq_false (by omega)
       have hyes2 := Lib.hid (take_done he.out (by omega) HL.out)
       clear he
       go_wp2
       go_ret
       exact ⟨by rw [decide_eq_true ⟨hyes.out, hyes2.out⟩]; rfl, HW.out.trans (hB.mono HW.out.size)⟩
  ·have i1 : ((a.length : Int) != (b.length : Int)) = false := by simp [hl]
   have i3 : ((f.length : Int) != (g.length : Int)) = true := by simp; omega
   clear hl
   have hno : ¬ (a = b ∧ f = g) := fun e => hl2 (by rw [e.2])
   clear hr0 hr1 hs0 hs1
   go_enter Tryz.func54, Tryz.ntmps54
   go_wp2
   go_ret
   exact ⟨by rw [decide_eq_false hno]; rfl, hbw⟩
 ·have i1 : ((a.length : Int) != (b.length : Int)) = true := by simp; omega
  have hno : ¬ (a = b ∧ f = g) := fun e => hl (by rw [e.1])
  clear hr0 hr1 hs0 hs1
  go_enter Tryz.func54, Tryz.ntmps54
  go_wp2
  go_ret
  exact ⟨by rw [decide_eq_false hno]; rfl, hbw⟩
end Go.Proofs.YtmcjccigglekpaaGreatDoor.Given
