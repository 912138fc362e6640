/- Proved: the contracts of the library's functions that a token's reading calls, under the variables that they read as they lie in memory. No other conditions. -/
import Derived.Test.YtackifpnpkbddaaGreatDoorLexS
import Derived.Shelf.Unicode.ValidAny
import Derived.Shelf.Utf8.RuneCount
import Derived.Shelf.Strings.Trim
import Derived.Shelf.Strings.OnBuilder
import Derived.Shelf.Strconv.ParseIntPublic10
import Derived.Lib.SmallJoins
import Derived.Laws.RangeString
import Derived.KernelRfl
namespace Go.Proofs.YtackifpnpkbddaaGreatDoorScan
open Go Go.Shelf Go.RowKit Go.Proofs.YtackifpnpkbddaaGreatDoorW.PrintWords

def laysValid_ren : Go.Shelf.Ren := ⟨fun | 196 => 43 | 259 => 60 | n => n, fun | 9 => 9 | 4 => 4 | 3 => 3 | 5 => 5 | 12 => 12 | 119 => 89 | 0 => 0 | 46 => 93 | 139 => 92 | 138 => 91 | 53 => 95 | n => n, fun | 3 => 1 | 4 => 2 | n => n⟩
theorem laysValid : Go.Proofs.Lays.n196 Tryz.prog laysValid_ren := {
 mixed := by kernel_rfl,
 f196 := Tryz.func43.trans (congrArg some (by kernel_rfl)),
 f259 := Tryz.func60.trans (congrArg some (by kernel_rfl)),
 t0 := Tryz.underlying0,
 a0 := Tryz.isAgg0,
 z0 := Tryz.sizeOf0,
 v0 := Tryz.zeroValue0,
 t3 := Tryz.underlying3,
 a3 := Tryz.isAgg3,
 z3 := Tryz.sizeOf3,
 v3 := Tryz.zeroValue3,
 t4 := Tryz.underlying4,
 a4 := Tryz.isAgg4,
 z4 := Tryz.sizeOf4,
 v4 := Tryz.zeroValue4,
 t5 := Tryz.underlying5,
 a5 := Tryz.isAgg5,
 z5 := Tryz.sizeOf5,
 v5 := Tryz.zeroValue5,
 t9 := Tryz.underlying9,
 a9 := Tryz.isAgg9,
 z9 := Tryz.sizeOf9,
 v9 := Tryz.zeroValue9,
 t12 := Tryz.underlying12,
 a12 := Tryz.isAgg12,
 z12 := Tryz.sizeOf12,
 v12 := Tryz.zeroValue12,
 t46 := Tryz.underlying93,
 a46 := Tryz.isAgg93,
 z46 := Tryz.sizeOf93,
 v46 := Tryz.zeroValue93,
 t53 := Tryz.underlying95,
 a53 := Tryz.isAgg95,
 z53 := Tryz.sizeOf95,
 v53 := Tryz.zeroValue95,
 t119 := Tryz.underlying89,
 a119 := Tryz.isAgg89,
 z119 := Tryz.sizeOf89,
 t138 := Tryz.underlying91,
 a138 := Tryz.isAgg91,
 z138 := Tryz.sizeOf91,
 v138 := Tryz.zeroValue91,
 t139 := Tryz.underlying92,
 a139 := Tryz.isAgg92,
 z139 := Tryz.sizeOf92,
 v139 := Tryz.zeroValue92,
 g3 := by kernel_rfl,
 g4 := by kernel_rfl }

def laysRunes_ren : Go.Shelf.Ren := ⟨fun | 195 => 44 | n => n, fun | 9 => 9 | 3 => 3 | 0 => 0 | 4 => 4 | n => n, fun | n => n⟩
theorem laysRunes : Go.Proofs.Lays.n195 Tryz.prog laysRunes_ren := {
 mixed := by kernel_rfl,
 f195 := Tryz.func44.trans (congrArg some (by kernel_rfl)),
 t0 := Tryz.underlying0,
 a0 := Tryz.isAgg0,
 z0 := Tryz.sizeOf0,
 v0 := Tryz.zeroValue0,
 t3 := Tryz.underlying3,
 a3 := Tryz.isAgg3,
 z3 := Tryz.sizeOf3,
 v3 := Tryz.zeroValue3,
 t4 := Tryz.underlying4,
 a4 := Tryz.isAgg4,
 z4 := Tryz.sizeOf4,
 v4 := Tryz.zeroValue4,
 t9 := Tryz.underlying9,
 a9 := Tryz.isAgg9,
 z9 := Tryz.sizeOf9,
 v9 := Tryz.zeroValue9 }

def laysTrim_ren : Go.Shelf.Ren := ⟨fun | 161 => 58 | 231 => 73 | 227 => 74 | 233 => 75 | 235 => 76 | 228 => 84 | 197 => 66 | 151 => 85 | 260 => 81 | 152 => 98 | 137 => 106 | 119 => 107 | 224 => 93 | 225 => 92 | 217 => 91 | 266 => 104 | n => n, fun | 9 => 9 | 4 => 4 | 3 => 3 | 5 => 5 | 117 => 109 | 116 => 108 | 0 => 0 | 124 => 112 | 105 => 99 | 21 => 21 | 119 => 89 | 46 => 93 | 139 => 92 | 138 => 91 | n => n, fun | 3 => 1 | 4 => 2 | n => n⟩
theorem laysTrim : Go.Proofs.Lays.n161 Tryz.prog laysTrim_ren := {
 mixed := by kernel_rfl,
 f119 := Tryz.func107.trans (congrArg some (by kernel_rfl)),
 f137 := Tryz.func106.trans (congrArg some (by kernel_rfl)),
 f151 := Tryz.func85.trans (congrArg some (by kernel_rfl)),
 f152 := Tryz.func98.trans (congrArg some (by kernel_rfl)),
 f161 := Tryz.func58.trans (congrArg some (by kernel_rfl)),
 f197 := Tryz.func66.trans (congrArg some (by kernel_rfl)),
 f217 := Tryz.func91.trans (congrArg some (by kernel_rfl)),
 f224 := Tryz.func93.trans (congrArg some (by kernel_rfl)),
 f225 := Tryz.func92.trans (congrArg some (by kernel_rfl)),
 f227 := Tryz.func74.trans (congrArg some (by kernel_rfl)),
 f228 := Tryz.func84.trans (congrArg some (by kernel_rfl)),
 f231 := Tryz.func73.trans (congrArg some (by kernel_rfl)),
 f233 := Tryz.func75.trans (congrArg some (by kernel_rfl)),
 f235 := Tryz.func76.trans (congrArg some (by kernel_rfl)),
 f260 := Tryz.func81.trans (congrArg some (by kernel_rfl)),
 f266 := Tryz.func104.trans (congrArg some (by kernel_rfl)),
 t0 := Tryz.underlying0,
 a0 := Tryz.isAgg0,
 z0 := Tryz.sizeOf0,
 v0 := Tryz.zeroValue0,
 t3 := Tryz.underlying3,
 a3 := Tryz.isAgg3,
 z3 := Tryz.sizeOf3,
 v3 := Tryz.zeroValue3,
 t4 := Tryz.underlying4,
 a4 := Tryz.isAgg4,
 z4 := Tryz.sizeOf4,
 v4 := Tryz.zeroValue4,
 t5 := Tryz.underlying5,
 a5 := Tryz.isAgg5,
 z5 := Tryz.sizeOf5,
 v5 := Tryz.zeroValue5,
 t9 := Tryz.underlying9,
 a9 := Tryz.isAgg9,
 z9 := Tryz.sizeOf9,
 v9 := Tryz.zeroValue9,
 t21 := Tryz.underlying21,
 a21 := Tryz.isAgg21,
 z21 := Tryz.sizeOf21,
 v21 := Tryz.zeroValue21,
 t46 := Tryz.underlying93,
 a46 := Tryz.isAgg93,
 z46 := Tryz.sizeOf93,
 v46 := Tryz.zeroValue93,
 t105 := Tryz.underlying99,
 a105 := Tryz.isAgg99,
 z105 := Tryz.sizeOf99,
 v105 := Tryz.zeroValue99,
 t116 := Tryz.underlying108,
 a116 := Tryz.isAgg108,
 z116 := Tryz.sizeOf108,
 t117 := Tryz.underlying109,
 a117 := Tryz.isAgg109,
 z117 := Tryz.sizeOf109,
 v117 := Tryz.zeroValue109,
 t119 := Tryz.underlying89,
 a119 := Tryz.isAgg89,
 z119 := Tryz.sizeOf89,
 t124 := Tryz.underlying112,
 a124 := Tryz.isAgg112,
 z124 := Tryz.sizeOf112,
 v124 := Tryz.zeroValue112,
 t138 := Tryz.underlying91,
 a138 := Tryz.isAgg91,
 z138 := Tryz.sizeOf91,
 v138 := Tryz.zeroValue91,
 t139 := Tryz.underlying92,
 a139 := Tryz.isAgg92,
 z139 := Tryz.sizeOf92,
 v139 := Tryz.zeroValue92,
 g3 := by kernel_rfl,
 g4 := by kernel_rfl }

def laysLower_ren : Go.Shelf.Ren := ⟨fun | 159 => 41 | 165 => 35 | 166 => 36 | 167 => 55 | 169 => 37 | 230 => 56 | 204 => 57 | 240 => 51 | 241 => 52 | 197 => 66 | 118 => 69 | 168 => 70 | 270 => 71 | 262 => 72 | 276 => 67 | 277 => 68 | 260 => 81 | 242 => 82 | 313 => 83 | 278 => 95 | 274 => 96 | 275 => 97 | n => n, fun | 9 => 9 | 4 => 4 | 3 => 3 | 5 => 5 | 72 => 65 | 0 => 0 | 76 => 69 | 75 => 68 | 107 => 84 | 70 => 63 | 20 => 20 | 37 => 30 | 127 => 80 | 21 => 21 | 105 => 99 | 164 => 101 | 162 => 118 | 203 => 116 | 119 => 89 | 46 => 93 | 139 => 92 | 138 => 91 | 51 => 126 | 160 => 127 | 208 => 141 | 206 => 139 | 80 => 71 | n => n, fun | 13 => 4 | 3 => 1 | 4 => 2 | n => n⟩
theorem laysLower : Go.Proofs.Lays.n159 Tryz.prog laysLower_ren := {
 mixed := by kernel_rfl,
 f118 := Tryz.func69.trans (congrArg some (by kernel_rfl)),
 f159 := Tryz.func41.trans (congrArg some (by kernel_rfl)),
 f165 := Tryz.func35.trans (congrArg some (by kernel_rfl)),
 f166 := Tryz.func36.trans (congrArg some (by kernel_rfl)),
 f167 := Tryz.func55.trans (congrArg some (by kernel_rfl)),
 f168 := Tryz.func70.trans (congrArg some (by kernel_rfl)),
 f169 := Tryz.func37.trans (congrArg some (by kernel_rfl)),
 f197 := Tryz.func66.trans (congrArg some (by kernel_rfl)),
 f204 := Tryz.func57.trans (congrArg some (by kernel_rfl)),
 f230 := Tryz.func56.trans (congrArg some (by kernel_rfl)),
 f240 := Tryz.func51.trans (congrArg some (by kernel_rfl)),
 f241 := Tryz.func52.trans (congrArg some (by kernel_rfl)),
 f242 := Tryz.func82.trans (congrArg some (by kernel_rfl)),
 f260 := Tryz.func81.trans (congrArg some (by kernel_rfl)),
 f262 := Tryz.func72.trans (congrArg some (by kernel_rfl)),
 f270 := Tryz.func71.trans (congrArg some (by kernel_rfl)),
 f274 := Tryz.func96.trans (congrArg some (by kernel_rfl)),
 f275 := Tryz.func97.trans (congrArg some (by kernel_rfl)),
 f276 := Tryz.func67.trans (congrArg some (by kernel_rfl)),
 f277 := Tryz.func68.trans (congrArg some (by kernel_rfl)),
 f278 := Tryz.func95.trans (congrArg some (by kernel_rfl)),
 f313 := Tryz.func83.trans (congrArg some (by kernel_rfl)),
 t0 := Tryz.underlying0,
 a0 := Tryz.isAgg0,
 z0 := Tryz.sizeOf0,
 v0 := Tryz.zeroValue0,
 t3 := Tryz.underlying3,
 a3 := Tryz.isAgg3,
 z3 := Tryz.sizeOf3,
 v3 := Tryz.zeroValue3,
 t4 := Tryz.underlying4,
 a4 := Tryz.isAgg4,
 z4 := Tryz.sizeOf4,
 v4 := Tryz.zeroValue4,
 t5 := Tryz.underlying5,
 a5 := Tryz.isAgg5,
 z5 := Tryz.sizeOf5,
 v5 := Tryz.zeroValue5,
 t9 := Tryz.underlying9,
 a9 := Tryz.isAgg9,
 z9 := Tryz.sizeOf9,
 v9 := Tryz.zeroValue9,
 t20 := Tryz.underlying20,
 a20 := Tryz.isAgg20,
 z20 := Tryz.sizeOf20,
 v20 := Tryz.zeroValue20,
 t21 := Tryz.underlying21,
 a21 := Tryz.isAgg21,
 z21 := Tryz.sizeOf21,
 v21 := Tryz.zeroValue21,
 t37 := Tryz.underlying30,
 a37 := Tryz.isAgg30,
 z37 := Tryz.sizeOf30,
 v37 := Tryz.zeroValue30,
 t46 := Tryz.underlying93,
 a46 := Tryz.isAgg93,
 z46 := Tryz.sizeOf93,
 v46 := Tryz.zeroValue93,
 t51 := Tryz.underlying126,
 a51 := Tryz.isAgg126,
 z51 := Tryz.sizeOf126,
 v51 := Tryz.zeroValue126,
 t70 := Tryz.underlying63,
 a70 := Tryz.isAgg63,
 z70 := Tryz.sizeOf63,
 v70 := Tryz.zeroValue63,
 t72 := Tryz.underlying65,
 a72 := Tryz.isAgg65,
 z72 := Tryz.sizeOf65,
 v72 := Tryz.zeroValue65,
 t75 := Tryz.underlying68,
 a75 := Tryz.isAgg68,
 z75 := Tryz.sizeOf68,
 v75 := Tryz.zeroValue68,
 t76 := Tryz.underlying69,
 a76 := Tryz.isAgg69,
 z76 := Tryz.sizeOf69,
 v76 := Tryz.zeroValue69,
 t105 := Tryz.underlying99,
 a105 := Tryz.isAgg99,
 z105 := Tryz.sizeOf99,
 v105 := Tryz.zeroValue99,
 t107 := Tryz.underlying84,
 a107 := Tryz.isAgg84,
 z107 := Tryz.sizeOf84,
 v107 := Tryz.zeroValue84,
 t119 := Tryz.underlying89,
 a119 := Tryz.isAgg89,
 z119 := Tryz.sizeOf89,
 t127 := Tryz.underlying80,
 a127 := Tryz.isAgg80,
 z127 := Tryz.sizeOf80,
 v127 := Tryz.zeroValue80,
 t138 := Tryz.underlying91,
 a138 := Tryz.isAgg91,
 z138 := Tryz.sizeOf91,
 v138 := Tryz.zeroValue91,
 t139 := Tryz.underlying92,
 a139 := Tryz.isAgg92,
 z139 := Tryz.sizeOf92,
 v139 := Tryz.zeroValue92,
 t160 := Tryz.underlying127,
 a160 := Tryz.isAgg127,
 z160 := Tryz.sizeOf127,
 v160 := Tryz.zeroValue127,
 t162 := Tryz.underlying118,
 a162 := Tryz.isAgg118,
 z162 := Tryz.sizeOf118,
 v162 := Tryz.zeroValue118,
 t164 := Tryz.underlying101,
 a164 := Tryz.isAgg101,
 z164 := Tryz.sizeOf101,
 v164 := Tryz.zeroValue101,
 t203 := Tryz.underlying116,
 a203 := Tryz.isAgg116,
 z203 := Tryz.sizeOf116,
 v203 := Tryz.zeroValue116,
 t206 := Tryz.underlying139,
 a206 := Tryz.isAgg139,
 z206 := Tryz.sizeOf139,
 v206 := Tryz.zeroValue139,
 t208 := Tryz.underlying141,
 a208 := Tryz.isAgg141,
 z208 := Tryz.sizeOf141,
 v208 := Tryz.zeroValue141,
 g3 := by kernel_rfl,
 g4 := by kernel_rfl,
 g13 := by kernel_rfl }

def laysParse_ren : Go.Shelf.Ren := ⟨fun | 174 => 59 | 247 => 77 | 245 => 78 | 287 => 86 | 279 => 87 | 280 => 88 | 281 => 89 | 282 => 90 | 321 => 99 | 322 => 100 | 316 => 101 | 171 => 103 | 205 => 102 | 243 => 108 | 246 => 109 | 283 => 110 | 284 => 111 | 285 => 112 | 286 => 113 | 129 => 115 | 317 => 114 | 318 => 116 | 319 => 117 | 320 => 118 | 337 => 119 | 338 => 120 | n => n, fun | 9 => 9 | 3 => 3 | 2 => 2 | 75 => 68 | 85 => 86 | 4 => 4 | 167 => 120 | 5 => 5 | 53 => 95 | 175 => 121 | 46 => 93 | 168 => 123 | 37 => 30 | 0 => 0 | 210 => 133 | 21 => 21 | 127 => 80 | 145 => 145 | 143 => 143 | 171 => 147 | 173 => 150 | 212 => 153 | 51 => 126 | 20 => 20 | 213 => 154 | 232 => 158 | 233 => 159 | 80 => 71 | n => n, fun | 15 => 5 | 16 => 6 | 17 => 7 | 18 => 8 | 19 => 9 | n => n⟩
theorem laysParse : Go.Proofs.LaysC.n174 Tryz.prog laysParse_ren := {
 mixed := by kernel_rfl,
 f129 := Tryz.func115.trans (congrArg some (by kernel_rfl)),
 f171 := Tryz.func103.trans (congrArg some (by kernel_rfl)),
 f174 := Tryz.func59.trans (congrArg some (by kernel_rfl)),
 f205 := Tryz.func102.trans (congrArg some (by kernel_rfl)),
 f243 := Tryz.func108.trans (congrArg some (by kernel_rfl)),
 f245 := Tryz.func78.trans (congrArg some (by kernel_rfl)),
 f246 := Tryz.func109.trans (congrArg some (by kernel_rfl)),
 f247 := Tryz.func77.trans (congrArg some (by kernel_rfl)),
 f279 := Tryz.func87.trans (congrArg some (by kernel_rfl)),
 f280 := Tryz.func88.trans (congrArg some (by kernel_rfl)),
 f281 := Tryz.func89.trans (congrArg some (by kernel_rfl)),
 f282 := Tryz.func90.trans (congrArg some (by kernel_rfl)),
 f283 := Tryz.func110.trans (congrArg some (by kernel_rfl)),
 f284 := Tryz.func111.trans (congrArg some (by kernel_rfl)),
 f285 := Tryz.func112.trans (congrArg some (by kernel_rfl)),
 f286 := Tryz.func113.trans (congrArg some (by kernel_rfl)),
 f287 := Tryz.func86.trans (congrArg some (by kernel_rfl)),
 f316 := Tryz.func101.trans (congrArg some (by kernel_rfl)),
 f317 := Tryz.func114.trans (congrArg some (by kernel_rfl)),
 f318 := Tryz.func116.trans (congrArg some (by kernel_rfl)),
 f319 := Tryz.func117.trans (congrArg some (by kernel_rfl)),
 f320 := Tryz.func118.trans (congrArg some (by kernel_rfl)),
 f321 := Tryz.func99.trans (congrArg some (by kernel_rfl)),
 f322 := Tryz.func100.trans (congrArg some (by kernel_rfl)),
 f337 := Tryz.func119.trans (congrArg some (by kernel_rfl)),
 f338 := Tryz.func120.trans (congrArg some (by kernel_rfl)),
 t0 := Tryz.underlying0,
 a0 := Tryz.isAgg0,
 z0 := Tryz.sizeOf0,
 v0 := Tryz.zeroValue0,
 t2 := Tryz.underlying2,
 a2 := Tryz.isAgg2,
 z2 := Tryz.sizeOf2,
 v2 := Tryz.zeroValue2,
 t3 := Tryz.underlying3,
 a3 := Tryz.isAgg3,
 z3 := Tryz.sizeOf3,
 v3 := Tryz.zeroValue3,
 t4 := Tryz.underlying4,
 a4 := Tryz.isAgg4,
 z4 := Tryz.sizeOf4,
 v4 := Tryz.zeroValue4,
 t5 := Tryz.underlying5,
 a5 := Tryz.isAgg5,
 z5 := Tryz.sizeOf5,
 v5 := Tryz.zeroValue5,
 t9 := Tryz.underlying9,
 a9 := Tryz.isAgg9,
 z9 := Tryz.sizeOf9,
 v9 := Tryz.zeroValue9,
 t20 := Tryz.underlying20,
 a20 := Tryz.isAgg20,
 z20 := Tryz.sizeOf20,
 v20 := Tryz.zeroValue20,
 t21 := Tryz.underlying21,
 a21 := Tryz.isAgg21,
 z21 := Tryz.sizeOf21,
 v21 := Tryz.zeroValue21,
 t37 := Tryz.underlying30,
 a37 := Tryz.isAgg30,
 z37 := Tryz.sizeOf30,
 v37 := Tryz.zeroValue30,
 t46 := Tryz.underlying93,
 a46 := Tryz.isAgg93,
 z46 := Tryz.sizeOf93,
 v46 := Tryz.zeroValue93,
 t51 := Tryz.underlying126,
 a51 := Tryz.isAgg126,
 z51 := Tryz.sizeOf126,
 v51 := Tryz.zeroValue126,
 t53 := Tryz.underlying95,
 a53 := Tryz.isAgg95,
 z53 := Tryz.sizeOf95,
 v53 := Tryz.zeroValue95,
 t75 := Tryz.underlying68,
 a75 := Tryz.isAgg68,
 z75 := Tryz.sizeOf68,
 v75 := Tryz.zeroValue68,
 t85 := Tryz.underlying86,
 a85 := Tryz.isAgg86,
 z85 := Tryz.sizeOf86,
 v85 := Tryz.zeroValue86,
 t127 := Tryz.underlying80,
 a127 := Tryz.isAgg80,
 z127 := Tryz.sizeOf80,
 v127 := Tryz.zeroValue80,
 t143 := Tryz.underlying143,
 a143 := Tryz.isAgg143,
 z143 := Tryz.sizeOf143,
 v143 := Tryz.zeroValue143,
 t145 := Tryz.underlying145,
 a145 := Tryz.isAgg145,
 z145 := Tryz.sizeOf145,
 v145 := Tryz.zeroValue145,
 t167 := Tryz.underlying120,
 a167 := Tryz.isAgg120,
 z167 := Tryz.sizeOf120,
 v167 := Tryz.zeroValue120,
 t168 := Tryz.underlying123,
 a168 := Tryz.isAgg123,
 z168 := Tryz.sizeOf123,
 v168 := Tryz.zeroValue123,
 t171 := Tryz.underlying147,
 a171 := Tryz.isAgg147,
 z171 := Tryz.sizeOf147,
 v171 := Tryz.zeroValue147,
 t173 := Tryz.underlying150,
 a173 := Tryz.isAgg150,
 z173 := Tryz.sizeOf150,
 v173 := Tryz.zeroValue150,
 t175 := Tryz.underlying121,
 a175 := Tryz.isAgg121,
 z175 := Tryz.sizeOf121,
 v175 := Tryz.zeroValue121,
 t210 := Tryz.underlying133,
 a210 := Tryz.isAgg133,
 z210 := Tryz.sizeOf133,
 v210 := Tryz.zeroValue133,
 t212 := Tryz.underlying153,
 a212 := Tryz.isAgg153,
 z212 := Tryz.sizeOf153,
 v212 := Tryz.zeroValue153,
 t213 := Tryz.underlying154,
 a213 := Tryz.isAgg154,
 z213 := Tryz.sizeOf154,
 t232 := Tryz.underlying158,
 a232 := Tryz.isAgg158,
 z232 := Tryz.sizeOf158,
 v232 := Tryz.zeroValue158,
 t233 := Tryz.underlying159,
 a233 := Tryz.isAgg159,
 z233 := Tryz.sizeOf159,
 v233 := Tryz.zeroValue159,
 g15 := by kernel_rfl,
 g16 := by kernel_rfl,
 g17 := by kernel_rfl,
 g18 := by kernel_rfl,
 g19 := by kernel_rfl,
 t80 := Tryz.underlying71,
 a80 := Tryz.isAgg71,
 z80 := Tryz.sizeOf71,
 v80 := Tryz.zeroValue71,
 i0 := by kernel_rfl,
 i2 := by kernel_rfl,
 i3 := by kernel_rfl,
 i4 := by kernel_rfl,
 i5 := by kernel_rfl,
 i9 := by kernel_rfl,
 i20 := by kernel_rfl,
 i21 := by kernel_rfl,
 i37 := by kernel_rfl,
 i46 := by kernel_rfl,
 i51 := by kernel_rfl,
 i53 := by kernel_rfl,
 i75 := by kernel_rfl,
 i80 := by kernel_rfl,
 i85 := by kernel_rfl,
 i127 := by kernel_rfl,
 i143 := by kernel_rfl,
 i145 := by kernel_rfl,
 i167 := by kernel_rfl,
 i168 := by kernel_rfl,
 i171 := by kernel_rfl,
 i173 := by kernel_rfl,
 i175 := by kernel_rfl,
 i210 := by kernel_rfl,
 i212 := by kernel_rfl,
 i232 := by kernel_rfl,
 i233 := by kernel_rfl,
 m15 := by kernel_rfl,
 m16 := by kernel_rfl,
 m17 := by kernel_rfl,
 m18 := by kernel_rfl,
 m19 := by kernel_rfl,
 c0 := by kernel_rfl,
 c2 := by kernel_rfl,
 c3 := by kernel_rfl,
 c4 := by kernel_rfl,
 c5 := by kernel_rfl,
 c9 := by kernel_rfl,
 c20 := by kernel_rfl,
 c21 := by kernel_rfl,
 c37 := by kernel_rfl,
 c46 := by kernel_rfl,
 c51 := by kernel_rfl,
 c53 := by kernel_rfl,
 c75 := by kernel_rfl,
 c80 := by kernel_rfl,
 c85 := by kernel_rfl,
 c127 := by kernel_rfl,
 c143 := by kernel_rfl,
 c145 := by kernel_rfl,
 c167 := by kernel_rfl,
 c168 := by kernel_rfl,
 c171 := by kernel_rfl,
 c173 := by kernel_rfl,
 c175 := by kernel_rfl,
 c210 := by kernel_rfl,
 c212 := by kernel_rfl,
 c213 := by kernel_rfl,
 c232 := by kernel_rfl,
 c233 := by kernel_rfl }

theorem extraLower : Builder.Extra Tryz.prog laysLower_ren where
 sizeBuilder := by kernel_rfl
 liesBuilder := by kernel_rfl
 t5 := Tryz.underlying5
 a5 := Tryz.isAgg5
 z5 := Tryz.sizeOf5
 v5 := Tryz.zeroValue5
 infoByte := by kernel_rfl
 cellsByte := by kernel_rfl
 sizeByte := by kernel_rfl
 neB5 := by decide
def signL : List ByteArray := [⟨#[60, 61]⟩, ⟨#[62, 61]⟩, ⟨#[60, 62]⟩, ⟨#[33, 61]⟩, ⟨#[124, 124]⟩, ⟨#[40]⟩, ⟨#[41]⟩, ⟨#[44]⟩, ⟨#[46]⟩, ⟨#[59]⟩, ⟨#[43]⟩, ⟨#[45]⟩, ⟨#[42]⟩, ⟨#[47]⟩, ⟨#[37]⟩, ⟨#[61]⟩, ⟨#[60]⟩, ⟨#[62]⟩]
structure Tabs (w : World) : Prop where
 utf : Lib.Utf8Tabs (laysValid_ren.g 3) (laysValid_ren.g 4) w
 err : ∃ te pe, w.cell? ⟨laysParse_ren.g 16, 0, none⟩ = some (.iface te pe)
 mx : ∃ m, w.cell? ⟨3, 0, none⟩ = some (.int .i64 m)
 sgn : ∃ b o c, w.cell? ⟨0, 0, none⟩ = some (.slice (some ⟨b, o, none⟩) 18 c) ∧ ∀ j x, signL[j]? = some x → w.cell? ⟨b, o + j, none⟩ = some (.string x)
theorem cell_kept {w w' : World} (hb : Below w.heap.size w w') {b o : Nat} {v : Value} (h : w.cell? ⟨b, o, none⟩ = some v) : w'.cell? ⟨b, o, none⟩ = some v := by
 have hlt : b < w.heap.size := by
  by_cases c : b < w.heap.size
  ·exact c
  ·exfalso
   have e : w.heap[b]? = none := Array.getElem?_eq_none (by omega)
   simp [World.cell?, e] at h
 rw [hb.cell (p := ⟨b, o, none⟩) hlt]; exact h
theorem Tabs.below {w w' : World} (h : Tabs w) (hb : Below w.heap.size w w') : Tabs w' := by
 refine ⟨⟨fun c hc => cell_kept hb (h.utf.1 c hc), fun i hi => ⟨cell_kept hb (h.utf.2 i hi).1, cell_kept hb (h.utf.2 i hi).2⟩⟩, ?_, ?_, ?_⟩
 ·obtain ⟨te, pe, h1⟩ := h.err
  exact ⟨te, pe, cell_kept hb h1⟩
 ·obtain ⟨m, h1⟩ := h.mx
  exact ⟨m, cell_kept hb h1⟩
 ·obtain ⟨b, o, c, h1, h2⟩ := h.sgn
  exact ⟨b, o, c, cell_kept hb h1, fun j x hj => cell_kept hb (h2 j x hj)⟩
theorem trimLeft39 (s : ByteArray) (w : World) : Calls Tryz.prog 58 #[.string s, .string ⟨#[48]⟩] w fun e w' => e = .returned (.string ⟨(Lib.trimLeftB s.data.toList 48).toArray⟩) ∧ Below w.heap.size w w' := by
 have c : Calls Tryz.prog 58 #[.string s, .string ⟨#[48]⟩] w _ := Any.strings_TrimLeft_one laysTrim s 48 (by decide) w
 exact c.mono fun e w' h => ⟨h.1, by rw [h.2]; exact Below.refl _ _⟩
theorem val_ge : ∀ (l : B) (a : Nat), a ≤ val a l
 | [], a => Nat.le_refl _
 | c :: r, a => by unfold val; have := val_ge r (a * 10 + (c.toNat - 48)); omega
theorem uintM : ∀ (l : B) (a : Nat), (∀ c ∈ l, isDig c = true) → a ≤ 18446744073709551615 →
  (val a l ≤ 18446744073709551615 → Lib.parseUintM 18446744073709551615 a l = .ok (val a l)) ∧ (18446744073709551615 < val a l → Lib.parseUintM 18446744073709551615 a l = .range)
 | [], a, _, h => ⟨fun _ => rfl, fun h2 => absurd h2 (by show ¬ 18446744073709551615 < a; omega)⟩
 | c :: r, a, hd, h => by
  have hc : 48 ≤ c.toNat ∧ c.toNat ≤ 57 := of_decide_eq_true (hd c List.mem_cons_self)
  have hg := val_ge r (a * 10 + (c.toNat - 48))
  unfold Lib.parseUintM val
  rw [if_pos hc]
  by_cases h1 : 1844674407370955162 ≤ a
  ·rw [if_pos h1]; exact ⟨fun h2 => by omega, fun _ => rfl⟩
  ·rw [if_neg h1]
   by_cases h2 : 18446744073709551615 < a * 10 + (c.toNat - 48)
   ·rw [if_pos h2]; exact ⟨fun h3 => by omega, fun _ => rfl⟩
   ·rw [if_neg h2]
    exact uintM r _ (fun x hx => hd x (List.mem_cons_of_mem _ hx)) (by omega)
theorem parse_dig (l : B) (hd : ∀ c ∈ l, isDig c = true) (hne : l ≠ []) :
  (val 0 l < 9223372036854775808 → Lib.parseIntB 64 l = .ok (val 0 l)) ∧ (9223372036854775808 ≤ val 0 l → Lib.parseIntB 64 l = .range) := by
 cases l with
 | nil => exact absurd rfl hne
 | cons c r =>
  have hc : 48 ≤ c.toNat ∧ c.toNat ≤ 57 := of_decide_eq_true (hd c List.mem_cons_self)
  have hu := uintM (c :: r) 0 hd (by omega)
  have n1 : ¬ (c.toNat = 43 ∨ c.toNat = 45) := by omega
  have n2 : ¬ c.toNat = 45 := by omega
  unfold Lib.parseIntB
  simp only [if_neg n1]
  have e : Lib.parseUintB 64 (c :: r) = Lib.parseUintM 18446744073709551615 0 (c :: r) := by unfold Lib.parseUintB; rw [if_neg (by simp)]
  rw [e]
  constructor
  ·intro h
   rw [hu.1 (by omega)]
   simp only [n2, not_false_eq_true, true_and, false_and, if_false]
   rw [if_neg (by show ¬ 2 ^ (64 - 1) ≤ _; omega)]
  ·intro h
   by_cases h2 : val 0 (c :: r) ≤ 18446744073709551615
   ·rw [hu.1 h2]
    simp only [n2, not_false_eq_true, true_and, false_and, if_false]
    rw [if_pos (by show 2 ^ (64 - 1) ≤ _; omega)]
   ·rw [hu.2 (by omega)]
theorem parseInt40 (s : ByteArray) (hs : s.size ≤ 4194305) (hd : ∀ c ∈ s.data.toList, isDig c = true) (hne : s.data.toList ≠ []) (w : World) (hT : Tabs w) :
  Calls Tryz.prog 59 #[.string s, .int .i64 10, .int .i64 64] w fun e w' => ∃ (v : Int) (x : Value), e = .returned (.tuple #[.int .i64 v, x]) ∧ (val 0 s.data.toList < 9223372036854775808 → x = .nilIface) ∧ (9223372036854775808 ≤ val 0 s.data.toList → ∃ t p, x = .iface t (.pointer p)) ∧ Below w.heap.size w w' := by
 have hp := parse_dig s.data.toList hd hne
 by_cases h : val 0 s.data.toList < 9223372036854775808
 ·have c : Calls Tryz.prog 59 #[.string s, .int .i64 10, .int .i64 64] w _ := Any.strconv_ParseInt_10_at64_ok laysParse s (by omega) _ (hp.1 h) w
  refine c.mono ?_
  rintro e w' ⟨rfl, hw⟩
  refine ⟨_, _, rfl, fun _ => rfl, fun h2 => by omega, ?_⟩
  rcases hw with rfl | ⟨t, rfl⟩
  ·exact Below.refl _ _
  ·exact Go.Joins.below_bytesWorld _ _ _ _ (Nat.le_refl _)
 ·obtain ⟨te, pe, he⟩ := hT.err
  have c : Calls Tryz.prog 59 #[.string s, .int .i64 10, .int .i64 64] w _ := Any.strconv_ParseInt_10_at64_range laysParse s (by omega) (hp.2 (by omega)) _ w he (.inr ⟨_, _, rfl⟩)
  refine c.mono ?_
  rintro e w' ⟨N, rfl, _, _, hb⟩
  exact ⟨_, _, rfl, fun h2 => absurd h2 h, fun _ => ⟨_, _, rfl⟩, hb⟩
theorem toLower27 (s : ByteArray) (hs : s.size ≤ 4194304) (ha : ∀ c ∈ s.data.toList, c.toNat < 128) (w : World) : Calls Tryz.prog 41 #[.string s] w fun e w' => e = .returned (.string ⟨(Lib.toLowerA s.data.toList).toArray⟩) ∧ Below w.heap.size w w' := by
 have c : Calls Tryz.prog 41 #[.string s] w _ := Any.strings_ToLower_ascii laysLower extraLower s w (by omega) (fun j b hb => ha b (List.mem_of_getElem? hb))
 exact c
theorem valid29 (s : ByteArray) (hs : s.size ≤ 4194304) (w : World) (hT : Tabs w) : Calls Tryz.prog 43 #[.string s] w fun e w' => e = .returned (.bool (Lib.validD s.data.toList)) ∧ Below w.heap.size w w' := by
 have c : Calls Tryz.prog 43 #[.string s] w _ := Any.utf8_ValidString laysValid s w (by omega) hT.utf
 exact c
theorem runes30 (s : ByteArray) (hs : s.size ≤ 4194304) (w : World) : Calls Tryz.prog 44 #[.string s] w fun e w' => e = .returned (.int .i64 (Lib.runeCount s : Int)) ∧ Below w.heap.size w w' := by
 have c : Calls Tryz.prog 44 #[.string s] w _ := Any.utf8_RuneCountInString laysRunes s w (by omega)
 refine c.mono ?_
 rintro e w' ⟨rfl, pos, rfl⟩
 exact ⟨rfl, (Below.refl _ _).alloc (Nat.le_refl _) _⟩
end Go.Proofs.YtackifpnpkbddaaGreatDoorScan
