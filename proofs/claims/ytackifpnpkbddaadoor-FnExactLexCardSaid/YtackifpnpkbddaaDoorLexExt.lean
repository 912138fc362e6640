/- Proved: the contracts of the library's functions that a token's reading calls, under the variables that they read as they lie in memory. No other conditions. -/
import Derived.Test.YtackifpnpkbddaaDoorLexS
import Derived.Shelf.Unicode.ValidAny
import Derived.Shelf.Utf8.RuneCount
import Derived.Shelf.Strings.Trim
import Derived.Shelf.Strings.OnBuilder
import Derived.Shelf.Strconv.ParseIntPublic10
import Derived.Lib.SmallJoins
import Derived.Laws.RangeString
import Derived.KernelRfl
namespace Go.Proofs.YtackifpnpkbddaaDoorScan
open Go Go.Shelf Go.RowKit Go.Proofs.YtackifpnpkbddaaDoorW.PrintWords

def laysValid_ren : Go.Shelf.Ren := ⟨fun | 196 => 29 | 259 => 41 | n => n, fun | 9 => 9 | 4 => 4 | 3 => 3 | 5 => 5 | 12 => 12 | 119 => 69 | 0 => 0 | 46 => 73 | 139 => 72 | 138 => 71 | 53 => 50 | n => n, fun | 3 => 1 | 4 => 2 | n => n⟩
theorem laysValid : Go.Proofs.Lays.n196 Tryd.prog laysValid_ren := {
 mixed := by kernel_rfl,
 f196 := Tryd.func29.trans (congrArg some (by kernel_rfl)),
 f259 := Tryd.func41.trans (congrArg some (by kernel_rfl)),
 t0 := Tryd.underlying0,
 a0 := Tryd.isAgg0,
 z0 := Tryd.sizeOf0,
 v0 := Tryd.zeroValue0,
 t3 := Tryd.underlying3,
 a3 := Tryd.isAgg3,
 z3 := Tryd.sizeOf3,
 v3 := Tryd.zeroValue3,
 t4 := Tryd.underlying4,
 a4 := Tryd.isAgg4,
 z4 := Tryd.sizeOf4,
 v4 := Tryd.zeroValue4,
 t5 := Tryd.underlying5,
 a5 := Tryd.isAgg5,
 z5 := Tryd.sizeOf5,
 v5 := Tryd.zeroValue5,
 t9 := Tryd.underlying9,
 a9 := Tryd.isAgg9,
 z9 := Tryd.sizeOf9,
 v9 := Tryd.zeroValue9,
 t12 := Tryd.underlying12,
 a12 := Tryd.isAgg12,
 z12 := Tryd.sizeOf12,
 v12 := Tryd.zeroValue12,
 t46 := Tryd.underlying73,
 a46 := Tryd.isAgg73,
 z46 := Tryd.sizeOf73,
 v46 := Tryd.zeroValue73,
 t53 := Tryd.underlying50,
 a53 := Tryd.isAgg50,
 z53 := Tryd.sizeOf50,
 v53 := Tryd.zeroValue50,
 t119 := Tryd.underlying69,
 a119 := Tryd.isAgg69,
 z119 := Tryd.sizeOf69,
 t138 := Tryd.underlying71,
 a138 := Tryd.isAgg71,
 z138 := Tryd.sizeOf71,
 v138 := Tryd.zeroValue71,
 t139 := Tryd.underlying72,
 a139 := Tryd.isAgg72,
 z139 := Tryd.sizeOf72,
 v139 := Tryd.zeroValue72,
 g3 := by kernel_rfl,
 g4 := by kernel_rfl }

def laysRunes_ren : Go.Shelf.Ren := ⟨fun | 195 => 30 | n => n, fun | 9 => 9 | 3 => 3 | 0 => 0 | 4 => 4 | n => n, fun | n => n⟩
theorem laysRunes : Go.Proofs.Lays.n195 Tryd.prog laysRunes_ren := {
 mixed := by kernel_rfl,
 f195 := Tryd.func30.trans (congrArg some (by kernel_rfl)),
 t0 := Tryd.underlying0,
 a0 := Tryd.isAgg0,
 z0 := Tryd.sizeOf0,
 v0 := Tryd.zeroValue0,
 t3 := Tryd.underlying3,
 a3 := Tryd.isAgg3,
 z3 := Tryd.sizeOf3,
 v3 := Tryd.zeroValue3,
 t4 := Tryd.underlying4,
 a4 := Tryd.isAgg4,
 z4 := Tryd.sizeOf4,
 v4 := Tryd.zeroValue4,
 t9 := Tryd.underlying9,
 a9 := Tryd.isAgg9,
 z9 := Tryd.sizeOf9,
 v9 := Tryd.zeroValue9 }

def laysTrim_ren : Go.Shelf.Ren := ⟨fun | 161 => 39 | 231 => 49 | 227 => 50 | 233 => 51 | 235 => 52 | 228 => 60 | 197 => 44 | 151 => 61 | 260 => 57 | 152 => 70 | 137 => 76 | 119 => 77 | 224 => 78 | 225 => 79 | 217 => 81 | 266 => 83 | n => n, fun | 9 => 9 | 4 => 4 | 3 => 3 | 5 => 5 | 117 => 84 | 116 => 83 | 0 => 0 | 124 => 87 | 105 => 75 | 21 => 21 | 119 => 69 | 46 => 73 | 139 => 72 | 138 => 71 | n => n, fun | 3 => 1 | 4 => 2 | n => n⟩
theorem laysTrim : Go.Proofs.Lays.n161 Tryd.prog laysTrim_ren := {
 mixed := by kernel_rfl,
 f119 := Tryd.func77.trans (congrArg some (by kernel_rfl)),
 f137 := Tryd.func76.trans (congrArg some (by kernel_rfl)),
 f151 := Tryd.func61.trans (congrArg some (by kernel_rfl)),
 f152 := Tryd.func70.trans (congrArg some (by kernel_rfl)),
 f161 := Tryd.func39.trans (congrArg some (by kernel_rfl)),
 f197 := Tryd.func44.trans (congrArg some (by kernel_rfl)),
 f217 := Tryd.func81.trans (congrArg some (by kernel_rfl)),
 f224 := Tryd.func78.trans (congrArg some (by kernel_rfl)),
 f225 := Tryd.func79.trans (congrArg some (by kernel_rfl)),
 f227 := Tryd.func50.trans (congrArg some (by kernel_rfl)),
 f228 := Tryd.func60.trans (congrArg some (by kernel_rfl)),
 f231 := Tryd.func49.trans (congrArg some (by kernel_rfl)),
 f233 := Tryd.func51.trans (congrArg some (by kernel_rfl)),
 f235 := Tryd.func52.trans (congrArg some (by kernel_rfl)),
 f260 := Tryd.func57.trans (congrArg some (by kernel_rfl)),
 f266 := Tryd.func83.trans (congrArg some (by kernel_rfl)),
 t0 := Tryd.underlying0,
 a0 := Tryd.isAgg0,
 z0 := Tryd.sizeOf0,
 v0 := Tryd.zeroValue0,
 t3 := Tryd.underlying3,
 a3 := Tryd.isAgg3,
 z3 := Tryd.sizeOf3,
 v3 := Tryd.zeroValue3,
 t4 := Tryd.underlying4,
 a4 := Tryd.isAgg4,
 z4 := Tryd.sizeOf4,
 v4 := Tryd.zeroValue4,
 t5 := Tryd.underlying5,
 a5 := Tryd.isAgg5,
 z5 := Tryd.sizeOf5,
 v5 := Tryd.zeroValue5,
 t9 := Tryd.underlying9,
 a9 := Tryd.isAgg9,
 z9 := Tryd.sizeOf9,
 v9 := Tryd.zeroValue9,
 t21 := Tryd.underlying21,
 a21 := Tryd.isAgg21,
 z21 := Tryd.sizeOf21,
 v21 := Tryd.zeroValue21,
 t46 := Tryd.underlying73,
 a46 := Tryd.isAgg73,
 z46 := Tryd.sizeOf73,
 v46 := Tryd.zeroValue73,
 t105 := Tryd.underlying75,
 a105 := Tryd.isAgg75,
 z105 := Tryd.sizeOf75,
 v105 := Tryd.zeroValue75,
 t116 := Tryd.underlying83,
 a116 := Tryd.isAgg83,
 z116 := Tryd.sizeOf83,
 t117 := Tryd.underlying84,
 a117 := Tryd.isAgg84,
 z117 := Tryd.sizeOf84,
 v117 := Tryd.zeroValue84,
 t119 := Tryd.underlying69,
 a119 := Tryd.isAgg69,
 z119 := Tryd.sizeOf69,
 t124 := Tryd.underlying87,
 a124 := Tryd.isAgg87,
 z124 := Tryd.sizeOf87,
 v124 := Tryd.zeroValue87,
 t138 := Tryd.underlying71,
 a138 := Tryd.isAgg71,
 z138 := Tryd.sizeOf71,
 v138 := Tryd.zeroValue71,
 t139 := Tryd.underlying72,
 a139 := Tryd.isAgg72,
 z139 := Tryd.sizeOf72,
 v139 := Tryd.zeroValue72,
 g3 := by kernel_rfl,
 g4 := by kernel_rfl }

def laysLower_ren : Go.Shelf.Ren := ⟨fun | 159 => 27 | 165 => 33 | 166 => 34 | 167 => 35 | 169 => 36 | 230 => 37 | 204 => 38 | 240 => 42 | 241 => 43 | 197 => 44 | 118 => 45 | 168 => 46 | 270 => 47 | 262 => 48 | 276 => 55 | 277 => 56 | 260 => 57 | 242 => 58 | 313 => 59 | 278 => 67 | 274 => 68 | 275 => 69 | n => n, fun | 9 => 9 | 4 => 4 | 3 => 3 | 5 => 5 | 72 => 55 | 0 => 0 | 76 => 59 | 75 => 58 | 107 => 64 | 70 => 53 | 20 => 20 | 37 => 49 | 127 => 74 | 21 => 21 | 105 => 75 | 164 => 89 | 162 => 95 | 203 => 93 | 119 => 69 | 46 => 73 | 139 => 72 | 138 => 71 | 51 => 103 | 160 => 104 | 208 => 115 | 206 => 113 | 80 => 62 | n => n, fun | 13 => 3 | 3 => 1 | 4 => 2 | n => n⟩
theorem laysLower : Go.Proofs.Lays.n159 Tryd.prog laysLower_ren := {
 mixed := by kernel_rfl,
 f118 := Tryd.func45.trans (congrArg some (by kernel_rfl)),
 f159 := Tryd.func27.trans (congrArg some (by kernel_rfl)),
 f165 := Tryd.func33.trans (congrArg some (by kernel_rfl)),
 f166 := Tryd.func34.trans (congrArg some (by kernel_rfl)),
 f167 := Tryd.func35.trans (congrArg some (by kernel_rfl)),
 f168 := Tryd.func46.trans (congrArg some (by kernel_rfl)),
 f169 := Tryd.func36.trans (congrArg some (by kernel_rfl)),
 f197 := Tryd.func44.trans (congrArg some (by kernel_rfl)),
 f204 := Tryd.func38.trans (congrArg some (by kernel_rfl)),
 f230 := Tryd.func37.trans (congrArg some (by kernel_rfl)),
 f240 := Tryd.func42.trans (congrArg some (by kernel_rfl)),
 f241 := Tryd.func43.trans (congrArg some (by kernel_rfl)),
 f242 := Tryd.func58.trans (congrArg some (by kernel_rfl)),
 f260 := Tryd.func57.trans (congrArg some (by kernel_rfl)),
 f262 := Tryd.func48.trans (congrArg some (by kernel_rfl)),
 f270 := Tryd.func47.trans (congrArg some (by kernel_rfl)),
 f274 := Tryd.func68.trans (congrArg some (by kernel_rfl)),
 f275 := Tryd.func69.trans (congrArg some (by kernel_rfl)),
 f276 := Tryd.func55.trans (congrArg some (by kernel_rfl)),
 f277 := Tryd.func56.trans (congrArg some (by kernel_rfl)),
 f278 := Tryd.func67.trans (congrArg some (by kernel_rfl)),
 f313 := Tryd.func59.trans (congrArg some (by kernel_rfl)),
 t0 := Tryd.underlying0,
 a0 := Tryd.isAgg0,
 z0 := Tryd.sizeOf0,
 v0 := Tryd.zeroValue0,
 t3 := Tryd.underlying3,
 a3 := Tryd.isAgg3,
 z3 := Tryd.sizeOf3,
 v3 := Tryd.zeroValue3,
 t4 := Tryd.underlying4,
 a4 := Tryd.isAgg4,
 z4 := Tryd.sizeOf4,
 v4 := Tryd.zeroValue4,
 t5 := Tryd.underlying5,
 a5 := Tryd.isAgg5,
 z5 := Tryd.sizeOf5,
 v5 := Tryd.zeroValue5,
 t9 := Tryd.underlying9,
 a9 := Tryd.isAgg9,
 z9 := Tryd.sizeOf9,
 v9 := Tryd.zeroValue9,
 t20 := Tryd.underlying20,
 a20 := Tryd.isAgg20,
 z20 := Tryd.sizeOf20,
 v20 := Tryd.zeroValue20,
 t21 := Tryd.underlying21,
 a21 := Tryd.isAgg21,
 z21 := Tryd.sizeOf21,
 v21 := Tryd.zeroValue21,
 t37 := Tryd.underlying49,
 a37 := Tryd.isAgg49,
 z37 := Tryd.sizeOf49,
 v37 := Tryd.zeroValue49,
 t46 := Tryd.underlying73,
 a46 := Tryd.isAgg73,
 z46 := Tryd.sizeOf73,
 v46 := Tryd.zeroValue73,
 t51 := Tryd.underlying103,
 a51 := Tryd.isAgg103,
 z51 := Tryd.sizeOf103,
 v51 := Tryd.zeroValue103,
 t70 := Tryd.underlying53,
 a70 := Tryd.isAgg53,
 z70 := Tryd.sizeOf53,
 v70 := Tryd.zeroValue53,
 t72 := Tryd.underlying55,
 a72 := Tryd.isAgg55,
 z72 := Tryd.sizeOf55,
 v72 := Tryd.zeroValue55,
 t75 := Tryd.underlying58,
 a75 := Tryd.isAgg58,
 z75 := Tryd.sizeOf58,
 v75 := Tryd.zeroValue58,
 t76 := Tryd.underlying59,
 a76 := Tryd.isAgg59,
 z76 := Tryd.sizeOf59,
 v76 := Tryd.zeroValue59,
 t105 := Tryd.underlying75,
 a105 := Tryd.isAgg75,
 z105 := Tryd.sizeOf75,
 v105 := Tryd.zeroValue75,
 t107 := Tryd.underlying64,
 a107 := Tryd.isAgg64,
 z107 := Tryd.sizeOf64,
 v107 := Tryd.zeroValue64,
 t119 := Tryd.underlying69,
 a119 := Tryd.isAgg69,
 z119 := Tryd.sizeOf69,
 t127 := Tryd.underlying74,
 a127 := Tryd.isAgg74,
 z127 := Tryd.sizeOf74,
 v127 := Tryd.zeroValue74,
 t138 := Tryd.underlying71,
 a138 := Tryd.isAgg71,
 z138 := Tryd.sizeOf71,
 v138 := Tryd.zeroValue71,
 t139 := Tryd.underlying72,
 a139 := Tryd.isAgg72,
 z139 := Tryd.sizeOf72,
 v139 := Tryd.zeroValue72,
 t160 := Tryd.underlying104,
 a160 := Tryd.isAgg104,
 z160 := Tryd.sizeOf104,
 v160 := Tryd.zeroValue104,
 t162 := Tryd.underlying95,
 a162 := Tryd.isAgg95,
 z162 := Tryd.sizeOf95,
 v162 := Tryd.zeroValue95,
 t164 := Tryd.underlying89,
 a164 := Tryd.isAgg89,
 z164 := Tryd.sizeOf89,
 v164 := Tryd.zeroValue89,
 t203 := Tryd.underlying93,
 a203 := Tryd.isAgg93,
 z203 := Tryd.sizeOf93,
 v203 := Tryd.zeroValue93,
 t206 := Tryd.underlying113,
 a206 := Tryd.isAgg113,
 z206 := Tryd.sizeOf113,
 v206 := Tryd.zeroValue113,
 t208 := Tryd.underlying115,
 a208 := Tryd.isAgg115,
 z208 := Tryd.sizeOf115,
 v208 := Tryd.zeroValue115,
 g3 := by kernel_rfl,
 g4 := by kernel_rfl,
 g13 := by kernel_rfl }

def laysParse_ren : Go.Shelf.Ren := ⟨fun | 174 => 40 | 247 => 53 | 245 => 54 | 287 => 62 | 279 => 63 | 280 => 64 | 281 => 65 | 282 => 66 | 321 => 71 | 322 => 72 | 316 => 73 | 171 => 75 | 205 => 74 | 243 => 80 | 246 => 82 | 283 => 84 | 284 => 85 | 285 => 86 | 286 => 87 | 129 => 89 | 317 => 88 | 318 => 90 | 319 => 91 | 320 => 92 | 337 => 93 | 338 => 94 | n => n, fun | 9 => 9 | 3 => 3 | 2 => 2 | 75 => 58 | 85 => 66 | 4 => 4 | 167 => 97 | 5 => 5 | 53 => 50 | 175 => 98 | 46 => 73 | 168 => 100 | 37 => 49 | 0 => 0 | 210 => 110 | 21 => 21 | 127 => 74 | 145 => 122 | 143 => 120 | 171 => 124 | 173 => 127 | 212 => 130 | 51 => 103 | 20 => 20 | 213 => 131 | 232 => 135 | 233 => 136 | 80 => 62 | n => n, fun | 15 => 5 | 16 => 6 | 17 => 7 | 18 => 8 | 19 => 9 | n => n⟩
theorem laysParse : Go.Proofs.LaysC.n174 Tryd.prog laysParse_ren := {
 mixed := by kernel_rfl,
 f129 := Tryd.func89.trans (congrArg some (by kernel_rfl)),
 f171 := Tryd.func75.trans (congrArg some (by kernel_rfl)),
 f174 := Tryd.func40.trans (congrArg some (by kernel_rfl)),
 f205 := Tryd.func74.trans (congrArg some (by kernel_rfl)),
 f243 := Tryd.func80.trans (congrArg some (by kernel_rfl)),
 f245 := Tryd.func54.trans (congrArg some (by kernel_rfl)),
 f246 := Tryd.func82.trans (congrArg some (by kernel_rfl)),
 f247 := Tryd.func53.trans (congrArg some (by kernel_rfl)),
 f279 := Tryd.func63.trans (congrArg some (by kernel_rfl)),
 f280 := Tryd.func64.trans (congrArg some (by kernel_rfl)),
 f281 := Tryd.func65.trans (congrArg some (by kernel_rfl)),
 f282 := Tryd.func66.trans (congrArg some (by kernel_rfl)),
 f283 := Tryd.func84.trans (congrArg some (by kernel_rfl)),
 f284 := Tryd.func85.trans (congrArg some (by kernel_rfl)),
 f285 := Tryd.func86.trans (congrArg some (by kernel_rfl)),
 f286 := Tryd.func87.trans (congrArg some (by kernel_rfl)),
 f287 := Tryd.func62.trans (congrArg some (by kernel_rfl)),
 f316 := Tryd.func73.trans (congrArg some (by kernel_rfl)),
 f317 := Tryd.func88.trans (congrArg some (by kernel_rfl)),
 f318 := Tryd.func90.trans (congrArg some (by kernel_rfl)),
 f319 := Tryd.func91.trans (congrArg some (by kernel_rfl)),
 f320 := Tryd.func92.trans (congrArg some (by kernel_rfl)),
 f321 := Tryd.func71.trans (congrArg some (by kernel_rfl)),
 f322 := Tryd.func72.trans (congrArg some (by kernel_rfl)),
 f337 := Tryd.func93.trans (congrArg some (by kernel_rfl)),
 f338 := Tryd.func94.trans (congrArg some (by kernel_rfl)),
 t0 := Tryd.underlying0,
 a0 := Tryd.isAgg0,
 z0 := Tryd.sizeOf0,
 v0 := Tryd.zeroValue0,
 t2 := Tryd.underlying2,
 a2 := Tryd.isAgg2,
 z2 := Tryd.sizeOf2,
 v2 := Tryd.zeroValue2,
 t3 := Tryd.underlying3,
 a3 := Tryd.isAgg3,
 z3 := Tryd.sizeOf3,
 v3 := Tryd.zeroValue3,
 t4 := Tryd.underlying4,
 a4 := Tryd.isAgg4,
 z4 := Tryd.sizeOf4,
 v4 := Tryd.zeroValue4,
 t5 := Tryd.underlying5,
 a5 := Tryd.isAgg5,
 z5 := Tryd.sizeOf5,
 v5 := Tryd.zeroValue5,
 t9 := Tryd.underlying9,
 a9 := Tryd.isAgg9,
 z9 := Tryd.sizeOf9,
 v9 := Tryd.zeroValue9,
 t20 := Tryd.underlying20,
 a20 := Tryd.isAgg20,
 z20 := Tryd.sizeOf20,
 v20 := Tryd.zeroValue20,
 t21 := Tryd.underlying21,
 a21 := Tryd.isAgg21,
 z21 := Tryd.sizeOf21,
 v21 := Tryd.zeroValue21,
 t37 := Tryd.underlying49,
 a37 := Tryd.isAgg49,
 z37 := Tryd.sizeOf49,
 v37 := Tryd.zeroValue49,
 t46 := Tryd.underlying73,
 a46 := Tryd.isAgg73,
 z46 := Tryd.sizeOf73,
 v46 := Tryd.zeroValue73,
 t51 := Tryd.underlying103,
 a51 := Tryd.isAgg103,
 z51 := Tryd.sizeOf103,
 v51 := Tryd.zeroValue103,
 t53 := Tryd.underlying50,
 a53 := Tryd.isAgg50,
 z53 := Tryd.sizeOf50,
 v53 := Tryd.zeroValue50,
 t75 := Tryd.underlying58,
 a75 := Tryd.isAgg58,
 z75 := Tryd.sizeOf58,
 v75 := Tryd.zeroValue58,
 t85 := Tryd.underlying66,
 a85 := Tryd.isAgg66,
 z85 := Tryd.sizeOf66,
 v85 := Tryd.zeroValue66,
 t127 := Tryd.underlying74,
 a127 := Tryd.isAgg74,
 z127 := Tryd.sizeOf74,
 v127 := Tryd.zeroValue74,
 t143 := Tryd.underlying120,
 a143 := Tryd.isAgg120,
 z143 := Tryd.sizeOf120,
 v143 := Tryd.zeroValue120,
 t145 := Tryd.underlying122,
 a145 := Tryd.isAgg122,
 z145 := Tryd.sizeOf122,
 v145 := Tryd.zeroValue122,
 t167 := Tryd.underlying97,
 a167 := Tryd.isAgg97,
 z167 := Tryd.sizeOf97,
 v167 := Tryd.zeroValue97,
 t168 := Tryd.underlying100,
 a168 := Tryd.isAgg100,
 z168 := Tryd.sizeOf100,
 v168 := Tryd.zeroValue100,
 t171 := Tryd.underlying124,
 a171 := Tryd.isAgg124,
 z171 := Tryd.sizeOf124,
 v171 := Tryd.zeroValue124,
 t173 := Tryd.underlying127,
 a173 := Tryd.isAgg127,
 z173 := Tryd.sizeOf127,
 v173 := Tryd.zeroValue127,
 t175 := Tryd.underlying98,
 a175 := Tryd.isAgg98,
 z175 := Tryd.sizeOf98,
 v175 := Tryd.zeroValue98,
 t210 := Tryd.underlying110,
 a210 := Tryd.isAgg110,
 z210 := Tryd.sizeOf110,
 v210 := Tryd.zeroValue110,
 t212 := Tryd.underlying130,
 a212 := Tryd.isAgg130,
 z212 := Tryd.sizeOf130,
 v212 := Tryd.zeroValue130,
 t213 := Tryd.underlying131,
 a213 := Tryd.isAgg131,
 z213 := Tryd.sizeOf131,
 t232 := Tryd.underlying135,
 a232 := Tryd.isAgg135,
 z232 := Tryd.sizeOf135,
 v232 := Tryd.zeroValue135,
 t233 := Tryd.underlying136,
 a233 := Tryd.isAgg136,
 z233 := Tryd.sizeOf136,
 v233 := Tryd.zeroValue136,
 g15 := by kernel_rfl,
 g16 := by kernel_rfl,
 g17 := by kernel_rfl,
 g18 := by kernel_rfl,
 g19 := by kernel_rfl,
 t80 := Tryd.underlying62,
 a80 := Tryd.isAgg62,
 z80 := Tryd.sizeOf62,
 v80 := Tryd.zeroValue62,
 i0 := by kernel_rfl,
 i2 := by kernel_rfl,
 i3 := by kernel_rfl,
 i4 := by kernel_rfl,
 i5 := by kernel_rfl,
 i9 := by kernel_rfl,
 i20 := by kernel_rfl,
 i21 := by kernel_rfl,
 i37 := by kernel_rfl,
 i46 := by kernel_rfl,
 i51 := by kernel_rfl,
 i53 := by kernel_rfl,
 i75 := by kernel_rfl,
 i80 := by kernel_rfl,
 i85 := by kernel_rfl,
 i127 := by kernel_rfl,
 i143 := by kernel_rfl,
 i145 := by kernel_rfl,
 i167 := by kernel_rfl,
 i168 := by kernel_rfl,
 i171 := by kernel_rfl,
 i173 := by kernel_rfl,
 i175 := by kernel_rfl,
 i210 := by kernel_rfl,
 i212 := by kernel_rfl,
 i232 := by kernel_rfl,
 i233 := by kernel_rfl,
 m15 := by kernel_rfl,
 m16 := by kernel_rfl,
 m17 := by kernel_rfl,
 m18 := by kernel_rfl,
 m19 := by kernel_rfl,
 c0 := by kernel_rfl,
 c2 := by kernel_rfl,
 c3 := by kernel_rfl,
 c4 := by kernel_rfl,
 c5 := by kernel_rfl,
 c9 := by kernel_rfl,
 c20 := by kernel_rfl,
 c21 := by kernel_rfl,
 c37 := by kernel_rfl,
 c46 := by kernel_rfl,
 c51 := by kernel_rfl,
 c53 := by kernel_rfl,
 c75 := by kernel_rfl,
 c80 := by kernel_rfl,
 c85 := by kernel_rfl,
 c127 := by kernel_rfl,
 c143 := by kernel_rfl,
 c145 := by kernel_rfl,
 c167 := by kernel_rfl,
 c168 := by kernel_rfl,
 c171 := by kernel_rfl,
 c173 := by kernel_rfl,
 c175 := by kernel_rfl,
 c210 := by kernel_rfl,
 c212 := by kernel_rfl,
 c213 := by kernel_rfl,
 c232 := by kernel_rfl,
 c233 := by kernel_rfl }

theorem extraLower : Builder.Extra Tryd.prog laysLower_ren where
 sizeBuilder := by kernel_rfl
 liesBuilder := by kernel_rfl
 t5 := Tryd.underlying5
 a5 := Tryd.isAgg5
 z5 := Tryd.sizeOf5
 v5 := Tryd.zeroValue5
 infoByte := by kernel_rfl
 cellsByte := by kernel_rfl
 sizeByte := by kernel_rfl
 neB5 := by decide
/-- The signs, in their order. -/
def signL : List ByteArray := [⟨#[60, 61]⟩, ⟨#[62, 61]⟩, ⟨#[60, 62]⟩, ⟨#[33, 61]⟩, ⟨#[124, 124]⟩, ⟨#[40]⟩, ⟨#[41]⟩, ⟨#[44]⟩, ⟨#[46]⟩, ⟨#[59]⟩, ⟨#[43]⟩, ⟨#[45]⟩, ⟨#[42]⟩, ⟨#[47]⟩, ⟨#[37]⟩, ⟨#[61]⟩, ⟨#[60]⟩, ⟨#[62]⟩]
/-- The variables lie in memory: utf8's two tables, ErrRange an error, signs the row of signs. -/
structure Tabs (w : World) : Prop where
 utf : Lib.Utf8Tabs (laysValid_ren.g 3) (laysValid_ren.g 4) w
 err : ∃ te pe, w.cell? ⟨laysParse_ren.g 16, 0, none⟩ = some (.iface te pe)
 sgn : ∃ b o c, w.cell? ⟨0, 0, none⟩ = some (.slice (some ⟨b, o, none⟩) 18 c) ∧ ∀ j x, signL[j]? = some x → w.cell? ⟨b, o + j, none⟩ = some (.string x)
theorem cell_kept {w w' : World} (hb : Below w.heap.size w w') {b o : Nat} {v : Value} (h : w.cell? ⟨b, o, none⟩ = some v) : w'.cell? ⟨b, o, none⟩ = some v := by
 have hlt : b < w.heap.size := by
  by_cases c : b < w.heap.size
  ·exact c
  ·exfalso
   have e : w.heap[b]? = none := Array.getElem?_eq_none (by omega)
   simp [World.cell?, e] at h
 rw [hb.cell (p := ⟨b, o, none⟩) hlt]; exact h
theorem Tabs.below {w w' : World} (h : Tabs w) (hb : Below w.heap.size w w') : Tabs w' := by
 refine ⟨⟨fun c hc => cell_kept hb (h.utf.1 c hc), fun i hi => ⟨cell_kept hb (h.utf.2 i hi).1, cell_kept hb (h.utf.2 i hi).2⟩⟩, ?_, ?_⟩
 ·obtain ⟨te, pe, h1⟩ := h.err
  exact ⟨te, pe, cell_kept hb h1⟩
 ·obtain ⟨b, o, c, h1, h2⟩ := h.sgn
  exact ⟨b, o, c, cell_kept hb h1, fun j x hj => cell_kept hb (h2 j x hj)⟩
theorem trimLeft39 (s : ByteArray) (w : World) : Calls Tryd.prog 39 #[.string s, .string ⟨#[48]⟩] w fun e w' => e = .returned (.string ⟨(Lib.trimLeftB s.data.toList 48).toArray⟩) ∧ Below w.heap.size w w' := by
 have c : Calls Tryd.prog 39 #[.string s, .string ⟨#[48]⟩] w _ := Any.strings_TrimLeft_one laysTrim s 48 (by decide) w
 exact c.mono fun e w' h => ⟨h.1, by rw [h.2]; exact Below.refl _ _⟩
theorem val_ge : ∀ (l : B) (a : Nat), a ≤ val a l
 | [], a => Nat.le_refl _
 | c :: r, a => by unfold val; have := val_ge r (a * 10 + (c.toNat - 48)); omega
theorem uintM : ∀ (l : B) (a : Nat), (∀ c ∈ l, isDig c = true) → a ≤ 18446744073709551615 →
  (val a l ≤ 18446744073709551615 → Lib.parseUintM 18446744073709551615 a l = .ok (val a l)) ∧ (18446744073709551615 < val a l → Lib.parseUintM 18446744073709551615 a l = .range)
 | [], a, _, h => ⟨fun _ => rfl, fun h2 => absurd h2 (by show ¬ 18446744073709551615 < a; omega)⟩
 | c :: r, a, hd, h => by
  have hc : 48 ≤ c.toNat ∧ c.toNat ≤ 57 := of_decide_eq_true (hd c List.mem_cons_self)
  have hg := val_ge r (a * 10 + (c.toNat - 48))
  unfold Lib.parseUintM val
  rw [if_pos hc]
  by_cases h1 : 1844674407370955162 ≤ a
  ·rw [if_pos h1]; exact ⟨fun h2 => by omega, fun _ => rfl⟩
  ·rw [if_neg h1]
   by_cases h2 : 18446744073709551615 < a * 10 + (c.toNat - 48)
   ·rw [if_pos h2]; exact ⟨fun h3 => by omega, fun _ => rfl⟩
   ·rw [if_neg h2]
    exact uintM r _ (fun x hx => hd x (List.mem_cons_of_mem _ hx)) (by omega)
theorem parse_dig (l : B) (hd : ∀ c ∈ l, isDig c = true) (hne : l ≠ []) :
  (val 0 l < 9223372036854775808 → Lib.parseIntB 64 l = .ok (val 0 l)) ∧ (9223372036854775808 ≤ val 0 l → Lib.parseIntB 64 l = .range) := by
 cases l with
 | nil => exact absurd rfl hne
 | cons c r =>
  have hc : 48 ≤ c.toNat ∧ c.toNat ≤ 57 := of_decide_eq_true (hd c List.mem_cons_self)
  have hu := uintM (c :: r) 0 hd (by omega)
  have n1 : ¬ (c.toNat = 43 ∨ c.toNat = 45) := by omega
  have n2 : ¬ c.toNat = 45 := by omega
  unfold Lib.parseIntB
  simp only [if_neg n1]
  have e : Lib.parseUintB 64 (c :: r) = Lib.parseUintM 18446744073709551615 0 (c :: r) := by unfold Lib.parseUintB; rw [if_neg (by simp)]
  rw [e]
  constructor
  ·intro h
   rw [hu.1 (by omega)]
   simp only [n2, not_false_eq_true, true_and, false_and, if_false]
   rw [if_neg (by show ¬ 2 ^ (64 - 1) ≤ _; omega)]
  ·intro h
   by_cases h2 : val 0 (c :: r) ≤ 18446744073709551615
   ·rw [hu.1 h2]
    simp only [n2, not_false_eq_true, true_and, false_and, if_false]
    rw [if_pos (by show 2 ^ (64 - 1) ≤ _; omega)]
   ·rw [hu.2 (by omega)]
theorem parseInt40 (s : ByteArray) (hs : s.size ≤ 1048577) (hd : ∀ c ∈ s.data.toList, isDig c = true) (hne : s.data.toList ≠ []) (w : World) (hT : Tabs w) :
  Calls Tryd.prog 40 #[.string s, .int .i64 10, .int .i64 64] w fun e w' => ∃ (v : Int) (x : Value), e = .returned (.tuple #[.int .i64 v, x]) ∧ (val 0 s.data.toList < 9223372036854775808 → x = .nilIface) ∧ (9223372036854775808 ≤ val 0 s.data.toList → ∃ t p, x = .iface t (.pointer p)) ∧ Below w.heap.size w w' := by
 have hp := parse_dig s.data.toList hd hne
 by_cases h : val 0 s.data.toList < 9223372036854775808
 ·have c : Calls Tryd.prog 40 #[.string s, .int .i64 10, .int .i64 64] w _ := Any.strconv_ParseInt_10_at64_ok laysParse s (by omega) _ (hp.1 h) w
  refine c.mono ?_
  rintro e w' ⟨rfl, hw⟩
  refine ⟨_, _, rfl, fun _ => rfl, fun h2 => by omega, ?_⟩
  rcases hw with rfl | ⟨t, rfl⟩
  ·exact Below.refl _ _
  ·exact Go.Joins.below_bytesWorld _ _ _ _ (Nat.le_refl _)
 ·obtain ⟨te, pe, he⟩ := hT.err
  have c : Calls Tryd.prog 40 #[.string s, .int .i64 10, .int .i64 64] w _ := Any.strconv_ParseInt_10_at64_range laysParse s (by omega) (hp.2 (by omega)) _ w he (.inr ⟨_, _, rfl⟩)
  refine c.mono ?_
  rintro e w' ⟨N, rfl, _, _, hb⟩
  exact ⟨_, _, rfl, fun h2 => absurd h2 h, fun _ => ⟨_, _, rfl⟩, hb⟩
theorem toLower27 (s : ByteArray) (hs : s.size ≤ 1048576) (ha : ∀ c ∈ s.data.toList, c.toNat < 128) (w : World) : Calls Tryd.prog 27 #[.string s] w fun e w' => e = .returned (.string ⟨(Lib.toLowerA s.data.toList).toArray⟩) ∧ Below w.heap.size w w' := by
 have c : Calls Tryd.prog 27 #[.string s] w _ := Any.strings_ToLower_ascii laysLower extraLower s w (by omega) (fun j b hb => ha b (List.mem_of_getElem? hb))
 exact c
theorem valid29 (s : ByteArray) (hs : s.size ≤ 1048576) (w : World) (hT : Tabs w) : Calls Tryd.prog 29 #[.string s] w fun e w' => e = .returned (.bool (Lib.validD s.data.toList)) ∧ Below w.heap.size w w' := by
 have c : Calls Tryd.prog 29 #[.string s] w _ := Any.utf8_ValidString laysValid s w (by omega) hT.utf
 exact c
theorem runes30 (s : ByteArray) (hs : s.size ≤ 1048576) (w : World) : Calls Tryd.prog 30 #[.string s] w fun e w' => e = .returned (.int .i64 (Lib.runeCount s : Int)) ∧ Below w.heap.size w w' := by
 have c : Calls Tryd.prog 30 #[.string s] w _ := Any.utf8_RuneCountInString laysRunes s w (by omega)
 refine c.mono ?_
 rintro e w' ⟨rfl, pos, rfl⟩
 exact ⟨rfl, (Below.refl _ _).alloc (Nat.le_refl _) _⟩
end Go.Proofs.YtackifpnpkbddaaDoorScan
