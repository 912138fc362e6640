/- Proved: the contracts of strings.ReplaceAll and strings.Join, under the variables as they lie in memory. No other conditions. -/
import Derived.Test.YtackifpnpkbddaaGreatDoorScan
import Derived.Shelf.Strings.Replace
import Derived.Shelf.Strings.OnBuilder
set_option linter.unusedVariables false
set_option linter.unusedSimpArgs false
namespace Go.Proofs.YtackifpnpkbddaaGreatDoorScan
open Go Go.Shelf Go.RowKit Go.Proofs.YtackifpnpkbddaaGreatDoorW.PrintWords

def laysReplace_ren : Go.Shelf.Ren := ⟨fun | 155 => 34 | 154 => 50 | 138 => 64 | 165 => 35 | 143 => 65 | 166 => 36 | 197 => 66 | 169 => 37 | 195 => 44 | 218 => 79 | 240 => 51 | 241 => 52 | 219 => 80 | 260 => 81 | 276 => 67 | 277 => 68 | 217 => 91 | 225 => 92 | 224 => 93 | 267 => 94 | 266 => 104 | 314 => 105 | n => n, fun | 9 => 9 | 3 => 3 | 4 => 4 | 72 => 65 | 0 => 0 | 76 => 69 | 105 => 99 | 21 => 21 | 5 => 5 | 70 => 63 | 20 => 20 | 37 => 30 | 75 => 68 | 127 => 80 | 164 => 101 | 46 => 93 | 119 => 89 | 139 => 92 | 138 => 91 | 146 => 136 | 51 => 126 | 80 => 71 | n => n, fun | 1 => 3 | 3 => 1 | 4 => 2 | n => n⟩
theorem laysReplace : Go.Proofs.Lays.n155 Tryz.prog laysReplace_ren := {
 mixed := by kernel_rfl,
 f138 := Tryz.func64.trans (congrArg some (by kernel_rfl)),
 f143 := Tryz.func65.trans (congrArg some (by kernel_rfl)),
 f154 := Tryz.func50.trans (congrArg some (by kernel_rfl)),
 f155 := Tryz.func34.trans (congrArg some (by kernel_rfl)),
 f165 := Tryz.func35.trans (congrArg some (by kernel_rfl)),
 f166 := Tryz.func36.trans (congrArg some (by kernel_rfl)),
 f169 := Tryz.func37.trans (congrArg some (by kernel_rfl)),
 f195 := Tryz.func44.trans (congrArg some (by kernel_rfl)),
 f197 := Tryz.func66.trans (congrArg some (by kernel_rfl)),
 f217 := Tryz.func91.trans (congrArg some (by kernel_rfl)),
 f218 := Tryz.func79.trans (congrArg some (by kernel_rfl)),
 f219 := Tryz.func80.trans (congrArg some (by kernel_rfl)),
 f224 := Tryz.func93.trans (congrArg some (by kernel_rfl)),
 f225 := Tryz.func92.trans (congrArg some (by kernel_rfl)),
 f240 := Tryz.func51.trans (congrArg some (by kernel_rfl)),
 f241 := Tryz.func52.trans (congrArg some (by kernel_rfl)),
 f260 := Tryz.func81.trans (congrArg some (by kernel_rfl)),
 f266 := Tryz.func104.trans (congrArg some (by kernel_rfl)),
 f267 := Tryz.func94.trans (congrArg some (by kernel_rfl)),
 f276 := Tryz.func67.trans (congrArg some (by kernel_rfl)),
 f277 := Tryz.func68.trans (congrArg some (by kernel_rfl)),
 f314 := Tryz.func105.trans (congrArg some (by kernel_rfl)),
 t0 := Tryz.underlying0,
 a0 := Tryz.isAgg0,
 z0 := Tryz.sizeOf0,
 v0 := Tryz.zeroValue0,
 t3 := Tryz.underlying3,
 a3 := Tryz.isAgg3,
 z3 := Tryz.sizeOf3,
 v3 := Tryz.zeroValue3,
 t4 := Tryz.underlying4,
 a4 := Tryz.isAgg4,
 z4 := Tryz.sizeOf4,
 v4 := Tryz.zeroValue4,
 t5 := Tryz.underlying5,
 a5 := Tryz.isAgg5,
 z5 := Tryz.sizeOf5,
 v5 := Tryz.zeroValue5,
 t9 := Tryz.underlying9,
 a9 := Tryz.isAgg9,
 z9 := Tryz.sizeOf9,
 v9 := Tryz.zeroValue9,
 t20 := Tryz.underlying20,
 a20 := Tryz.isAgg20,
 z20 := Tryz.sizeOf20,
 v20 := Tryz.zeroValue20,
 t21 := Tryz.underlying21,
 a21 := Tryz.isAgg21,
 z21 := Tryz.sizeOf21,
 v21 := Tryz.zeroValue21,
 t37 := Tryz.underlying30,
 a37 := Tryz.isAgg30,
 z37 := Tryz.sizeOf30,
 v37 := Tryz.zeroValue30,
 t46 := Tryz.underlying93,
 a46 := Tryz.isAgg93,
 z46 := Tryz.sizeOf93,
 v46 := Tryz.zeroValue93,
 t51 := Tryz.underlying126,
 a51 := Tryz.isAgg126,
 z51 := Tryz.sizeOf126,
 v51 := Tryz.zeroValue126,
 t70 := Tryz.underlying63,
 a70 := Tryz.isAgg63,
 z70 := Tryz.sizeOf63,
 v70 := Tryz.zeroValue63,
 t72 := Tryz.underlying65,
 a72 := Tryz.isAgg65,
 z72 := Tryz.sizeOf65,
 v72 := Tryz.zeroValue65,
 t75 := Tryz.underlying68,
 a75 := Tryz.isAgg68,
 z75 := Tryz.sizeOf68,
 v75 := Tryz.zeroValue68,
 t76 := Tryz.underlying69,
 a76 := Tryz.isAgg69,
 z76 := Tryz.sizeOf69,
 v76 := Tryz.zeroValue69,
 t105 := Tryz.underlying99,
 a105 := Tryz.isAgg99,
 z105 := Tryz.sizeOf99,
 v105 := Tryz.zeroValue99,
 t119 := Tryz.underlying89,
 a119 := Tryz.isAgg89,
 z119 := Tryz.sizeOf89,
 t127 := Tryz.underlying80,
 a127 := Tryz.isAgg80,
 z127 := Tryz.sizeOf80,
 v127 := Tryz.zeroValue80,
 t138 := Tryz.underlying91,
 a138 := Tryz.isAgg91,
 z138 := Tryz.sizeOf91,
 v138 := Tryz.zeroValue91,
 t139 := Tryz.underlying92,
 a139 := Tryz.isAgg92,
 z139 := Tryz.sizeOf92,
 v139 := Tryz.zeroValue92,
 t146 := Tryz.underlying136,
 a146 := Tryz.isAgg136,
 z146 := Tryz.sizeOf136,
 v146 := Tryz.zeroValue136,
 t164 := Tryz.underlying101,
 a164 := Tryz.isAgg101,
 z164 := Tryz.sizeOf101,
 v164 := Tryz.zeroValue101,
 g1 := by kernel_rfl,
 g3 := by kernel_rfl,
 g4 := by kernel_rfl }

def laysJoin_ren : Go.Shelf.Ren := ⟨fun | 156 => 18 | 165 => 35 | 166 => 36 | 169 => 37 | 240 => 51 | 241 => 52 | 276 => 67 | 277 => 68 | n => n, fun | 31 => 42 | 9 => 9 | 3 => 3 | 4 => 4 | 0 => 0 | 20 => 20 | 72 => 65 | 76 => 69 | 70 => 63 | 37 => 30 | 75 => 68 | 127 => 80 | 164 => 101 | 5 => 5 | 80 => 71 | n => n, fun | n => n⟩
theorem laysJoin : Go.Proofs.Lays.n156 Tryz.prog laysJoin_ren := {
 mixed := by kernel_rfl,
 f156 := Tryz.func18.trans (congrArg some (by kernel_rfl)),
 f165 := Tryz.func35.trans (congrArg some (by kernel_rfl)),
 f166 := Tryz.func36.trans (congrArg some (by kernel_rfl)),
 f169 := Tryz.func37.trans (congrArg some (by kernel_rfl)),
 f240 := Tryz.func51.trans (congrArg some (by kernel_rfl)),
 f241 := Tryz.func52.trans (congrArg some (by kernel_rfl)),
 f276 := Tryz.func67.trans (congrArg some (by kernel_rfl)),
 f277 := Tryz.func68.trans (congrArg some (by kernel_rfl)),
 t0 := Tryz.underlying0,
 a0 := Tryz.isAgg0,
 z0 := Tryz.sizeOf0,
 v0 := Tryz.zeroValue0,
 t3 := Tryz.underlying3,
 a3 := Tryz.isAgg3,
 z3 := Tryz.sizeOf3,
 v3 := Tryz.zeroValue3,
 t4 := Tryz.underlying4,
 a4 := Tryz.isAgg4,
 z4 := Tryz.sizeOf4,
 v4 := Tryz.zeroValue4,
 t9 := Tryz.underlying9,
 a9 := Tryz.isAgg9,
 z9 := Tryz.sizeOf9,
 v9 := Tryz.zeroValue9,
 t20 := Tryz.underlying20,
 a20 := Tryz.isAgg20,
 z20 := Tryz.sizeOf20,
 v20 := Tryz.zeroValue20,
 t31 := Tryz.underlying42,
 a31 := Tryz.isAgg42,
 z31 := Tryz.sizeOf42,
 v31 := Tryz.zeroValue42,
 t37 := Tryz.underlying30,
 a37 := Tryz.isAgg30,
 z37 := Tryz.sizeOf30,
 v37 := Tryz.zeroValue30,
 t70 := Tryz.underlying63,
 a70 := Tryz.isAgg63,
 z70 := Tryz.sizeOf63,
 v70 := Tryz.zeroValue63,
 t72 := Tryz.underlying65,
 a72 := Tryz.isAgg65,
 z72 := Tryz.sizeOf65,
 v72 := Tryz.zeroValue65,
 t75 := Tryz.underlying68,
 a75 := Tryz.isAgg68,
 z75 := Tryz.sizeOf68,
 v75 := Tryz.zeroValue68,
 t76 := Tryz.underlying69,
 a76 := Tryz.isAgg69,
 z76 := Tryz.sizeOf69,
 v76 := Tryz.zeroValue69,
 t127 := Tryz.underlying80,
 a127 := Tryz.isAgg80,
 z127 := Tryz.sizeOf80,
 v127 := Tryz.zeroValue80,
 t164 := Tryz.underlying101,
 a164 := Tryz.isAgg101,
 z164 := Tryz.sizeOf101,
 v164 := Tryz.zeroValue101 }
theorem extraReplace : Builder.Extra Tryz.prog laysReplace_ren where
 sizeBuilder := by kernel_rfl
 liesBuilder := by kernel_rfl
 t5 := Tryz.underlying5
 a5 := Tryz.isAgg5
 z5 := Tryz.sizeOf5
 v5 := Tryz.zeroValue5
 infoByte := by kernel_rfl
 cellsByte := by kernel_rfl
 sizeByte := by kernel_rfl
 neB5 := by decide
theorem extraJoin : Builder.Extra Tryz.prog laysJoin_ren where
 sizeBuilder := by kernel_rfl
 liesBuilder := by kernel_rfl
 t5 := Tryz.underlying5
 a5 := Tryz.isAgg5
 z5 := Tryz.sizeOf5
 v5 := Tryz.zeroValue5
 infoByte := by kernel_rfl
 cellsByte := by kernel_rfl
 sizeByte := by kernel_rfl
 neB5 := by decide
def strings_ReplaceAll.f (a0 a1 a2 : ByteArray) : Option ByteArray :=
 if a0.size ≤ 1048576 ∧ a1.size = 1 ∧ a2.size ≤ 2 then some ⟨(Lib.replaceAll a0.data.toList a1.data.toList a2.data.toList).toArray⟩ else none
theorem strings_ReplaceAll.calls (a0 a1 a2 r : ByteArray) (w : World) (hT : Tabs w) (h : strings_ReplaceAll.f a0 a1 a2 = some r) :
  Calls Tryz.prog 34 #[.string a0, .string a1, .string a2] w fun e w' => e = .returned (.string r) ∧ Below w.heap.size w w' := by
 unfold strings_ReplaceAll.f at h
 by_cases hc : a0.size ≤ 1048576 ∧ a1.size = 1 ∧ a2.size ≤ 2
 ·rw [if_pos hc] at h
  obtain rfl := Option.some.inj h
  obtain ⟨m, hm⟩ := hT.mx
  have hk : Lib.countB a0 a1 ≤ a0.size := by
   have := Lib.countB_mul_le a1 (by omega) a0.size a0 (Nat.le_refl _)
   rw [hc.2.1] at this
   omega
  have hk2 : Lib.countB a0 a1 * a2.size ≤ 1048576 * 2 := Nat.mul_le_mul (by omega) hc.2.2
  have c : Calls Tryz.prog 34 #[.string a0, .string a1, .string a2] w _ := Any.strings_ReplaceAll laysReplace extraReplace a0 a1 a2 m w (by omega) hm (by omega) (by omega)
  exact c
 ·rw [if_neg hc] at h; cases h
/-- A row of strings that is read: its cells. -/
theorem cells_of {w : World} {A : Option Addr} {n : Nat} {xs : List ByteArray} (h : Kd.C Kd.string w A n xs) (h0 : 0 < n) : ∃ bk o, A = some ⟨bk, o, none⟩ ∧ bk < w.heap.size ∧ ∀ (j : Nat) x, xs[j]? = some x → w.cell? ⟨bk, o + j, none⟩ = some (.string x) := by
 obtain ⟨hl, _, h1⟩ := h
 obtain ⟨ad, rfl, h2⟩ := h1 h0
 have each : ∀ (j : Nat) x, xs[j]? = some x → w.cell? (ad.add j) = some (.string x) := fun j x hj => by
  obtain ⟨c, _, hK, hcell⟩ := h2 j x hj
  have hc : c = [.string x] := hK
  subst hc
  have := hcell 0 (.string x) rfl
  rwa [show j * Kd.string.sz + 0 = j from by show j * 1 + 0 = j; omega] at this
 obtain ⟨bk, o, sp⟩ := ad
 have hf := each 0 (xs[0]'(by omega)) (List.getElem?_eq_getElem (by omega))
 have hsp : sp = none := by simpa [Addr.add] using World.cell?_spot hf
 subst hsp
 refine ⟨bk, o, rfl, ?_, fun j x hj => by have := each j x hj; rwa [Go.WideShapes.add_plain] at this⟩
 exact World.block_lt_of_cell? w _ hf
def strings_Join.f (l0 : List ByteArray) (a1 : ByteArray) : Option ByteArray :=
 if l0.length ≤ 1000000 ∧ (Lib.join (l0.map (·.data.toList)) a1.data.toList).length ≤ 140737488355328 then some ⟨(Lib.join (l0.map (·.data.toList)) a1.data.toList).toArray⟩ else none
theorem strings_Join.calls (A0 : Option Addr) (c0 : Nat) (l0 : List ByteArray) (a1 r : ByteArray) (w : World) (hr0 : Kd.C Kd.string w A0 l0.length l0) (hc0 : l0.length ≤ c0) (h : strings_Join.f l0 a1 = some r) :
  Calls Tryz.prog 18 #[.slice A0 l0.length c0, .string a1] w fun e w' => e = .returned (.string r) ∧ Below w.heap.size w w' := by
 unfold strings_Join.f at h
 by_cases hc : l0.length ≤ 1000000 ∧ (Lib.join (l0.map (·.data.toList)) a1.data.toList).length ≤ 140737488355328
 ·rw [if_pos hc] at h
  obtain rfl := Option.some.inj h
  match l0, hr0, hc0, hc with
  | [], hr0, hc0, hc =>
   have c : Calls Tryz.prog 18 #[.slice A0 0 c0, .string a1] w _ := Any.strings_Join_none laysJoin extraJoin A0 c0 a1 w
   exact c.mono fun e w' ⟨h1, h2⟩ => ⟨h1, h2 ▸ Below.refl _ _⟩
  | [x], hr0, hc0, hc =>
   obtain ⟨bk, o, rfl, hlt, hcell⟩ := cells_of hr0 (by simp)
   have c : Calls Tryz.prog 18 #[.slice (some ⟨bk, o, none⟩) 1 c0, .string a1] w _ := Any.strings_Join_one laysJoin extraJoin bk o c0 x a1 w (hcell 0 x rfl)
   refine c.mono fun e w' ⟨h1, h2⟩ => ⟨h1.trans ?_, h2 ▸ Below.refl _ _⟩
   simp [Lib.join]
  | x :: y :: z, hr0, hc0, hc =>
   obtain ⟨bk, o, rfl, hlt, hcell⟩ := cells_of hr0 (by simp)
   have c : Calls Tryz.prog 18 #[.slice (some ⟨bk, o, none⟩) (x :: y :: z).length c0, .string a1] w _ := Any.strings_Join_many laysJoin extraJoin bk o c0 (x :: y :: z) a1 w hcell hlt (by simp) (by omega) hc0 hc.2
   exact c
 ·rw [if_neg hc] at h; cases h
end Go.Proofs.YtackifpnpkbddaaGreatDoorScan
