/- Proved: the contracts of the library's ValidString and RuneCountInString, in the form in which the seat's other texts take a call, under the two tables of unicode/utf8 as they lie in memory. No other conditions. -/
import Derived.Test.YtaicfmmgmblmiaaDoorProg
import Derived.Below
import Derived.Shelf.Unicode.ValidAny
import Derived.Shelf.Utf8.RuneCount
import Derived.Laws.RangeString
import Derived.RowKit
import Derived.KernelRfl
namespace Go.Proofs.YtaicfmmgmblmiaaDoorExt
open Go.Shelf Go.RowKit

def laysValid_ren : Go.Shelf.Ren := ⟨fun | 196 => 43 | 259 => 47 | n => n, fun | 9 => 9 | 4 => 4 | 3 => 3 | 5 => 5 | 12 => 12 | 119 => 76 | 0 => 0 | 46 => 61 | 139 => 79 | 138 => 78 | 53 => 58 | n => n, fun | 3 => 0 | 4 => 1 | n => n⟩
theorem laysValid : Go.Proofs.Lays.n196 Tryd.prog laysValid_ren := {
  mixed := by kernel_rfl,
  f196 := Tryd.func43.trans (congrArg some (by kernel_rfl)),
  f259 := Tryd.func47.trans (congrArg some (by kernel_rfl)),
  t0 := Tryd.underlying0,
  a0 := Tryd.isAgg0,
  z0 := Tryd.sizeOf0,
  v0 := Tryd.zeroValue0,
  t3 := Tryd.underlying3,
  a3 := Tryd.isAgg3,
  z3 := Tryd.sizeOf3,
  v3 := Tryd.zeroValue3,
  t4 := Tryd.underlying4,
  a4 := Tryd.isAgg4,
  z4 := Tryd.sizeOf4,
  v4 := Tryd.zeroValue4,
  t5 := Tryd.underlying5,
  a5 := Tryd.isAgg5,
  z5 := Tryd.sizeOf5,
  v5 := Tryd.zeroValue5,
  t9 := Tryd.underlying9,
  a9 := Tryd.isAgg9,
  z9 := Tryd.sizeOf9,
  v9 := Tryd.zeroValue9,
  t12 := Tryd.underlying12,
  a12 := Tryd.isAgg12,
  z12 := Tryd.sizeOf12,
  v12 := Tryd.zeroValue12,
  t46 := Tryd.underlying61,
  a46 := Tryd.isAgg61,
  z46 := Tryd.sizeOf61,
  v46 := Tryd.zeroValue61,
  t53 := Tryd.underlying58,
  a53 := Tryd.isAgg58,
  z53 := Tryd.sizeOf58,
  v53 := Tryd.zeroValue58,
  t119 := Tryd.underlying76,
  a119 := Tryd.isAgg76,
  z119 := Tryd.sizeOf76,
  t138 := Tryd.underlying78,
  a138 := Tryd.isAgg78,
  z138 := Tryd.sizeOf78,
  v138 := Tryd.zeroValue78,
  t139 := Tryd.underlying79,
  a139 := Tryd.isAgg79,
  z139 := Tryd.sizeOf79,
  v139 := Tryd.zeroValue79,
  g3 := by kernel_rfl,
  g4 := by kernel_rfl }

def laysRunes_ren : Go.Shelf.Ren := ⟨fun | 195 => 44 | n => n, fun | 9 => 9 | 3 => 3 | 0 => 0 | 4 => 4 | n => n, fun | n => n⟩
theorem laysRunes : Go.Proofs.Lays.n195 Tryd.prog laysRunes_ren := {
  mixed := by kernel_rfl,
  f195 := Tryd.func44.trans (congrArg some (by kernel_rfl)),
  t0 := Tryd.underlying0,
  a0 := Tryd.isAgg0,
  z0 := Tryd.sizeOf0,
  v0 := Tryd.zeroValue0,
  t3 := Tryd.underlying3,
  a3 := Tryd.isAgg3,
  z3 := Tryd.sizeOf3,
  v3 := Tryd.zeroValue3,
  t4 := Tryd.underlying4,
  a4 := Tryd.isAgg4,
  z4 := Tryd.sizeOf4,
  v4 := Tryd.zeroValue4,
  t9 := Tryd.underlying9,
  a9 := Tryd.isAgg9,
  z9 := Tryd.sizeOf9,
  v9 := Tryd.zeroValue9 }

/-- The two tables of unicode/utf8 lie in memory as their initialisers lay them. -/
def Tabs (w : World) : Prop := Lib.Utf8Tabs (laysValid_ren.g 3) (laysValid_ren.g 4) w

theorem cell_kept {w w' : World} (hb : Below w.heap.size w w') {b o : Nat} {v : Value} (h : w.cell? ⟨b, o, none⟩ = some v) : w'.cell? ⟨b, o, none⟩ = some v := by
  have hlt : b < w.heap.size := by
    by_cases c : b < w.heap.size
    · exact c
    · exfalso
      have e : w.heap[b]? = none := Array.getElem?_eq_none (by omega)
      simp [World.cell?, e] at h
  rw [hb.cell (p := ⟨b, o, none⟩) hlt]; exact h

theorem Tabs.below {w w' : World} (h : Tabs w) (hb : Below w.heap.size w w') : Tabs w' :=
  ⟨fun c hc => cell_kept hb (h.1 c hc), fun i hi => ⟨cell_kept hb (h.2 i hi).1, cell_kept hb (h.2 i hi).2⟩⟩

def utf8_ValidString.f (a0 : ByteArray) : Option Bool := if a0.size ≤ 140737488355328 then some (Lib.validD a0.data.toList) else none
theorem utf8_ValidString.calls (a0 : ByteArray) (r : Bool) (w : World) (hT : Tabs w) (h : utf8_ValidString.f a0 = some r) :
    Calls Tryd.prog 43 #[.string a0] w fun e w' => e = .returned (.bool r) ∧ Below w.heap.size w w' := by
  unfold utf8_ValidString.f at h
  by_cases hs : a0.size ≤ 140737488355328
  · rw [if_pos hs] at h
    obtain rfl := Option.some.inj h
    have c : Calls Tryd.prog 43 #[.string a0] w _ := Any.utf8_ValidString laysValid a0 w (by omega) hT
    exact c
  · rw [if_neg hs] at h; cases h

def utf8_RuneCountInString.f (a0 : ByteArray) : Option Int := if a0.size ≤ 140737488355328 then some (Lib.runeCount a0 : Int) else none
theorem utf8_RuneCountInString.calls (a0 : ByteArray) (r : Int) (w : World) (h : utf8_RuneCountInString.f a0 = some r) :
    Calls Tryd.prog 44 #[.string a0] w fun e w' => e = .returned (.int .i64 r) ∧ Below w.heap.size w w' := by
  unfold utf8_RuneCountInString.f at h
  by_cases hs : a0.size ≤ 140737488355328
  · rw [if_pos hs] at h
    obtain rfl := Option.some.inj h
    have c : Calls Tryd.prog 44 #[.string a0] w _ := Any.utf8_RuneCountInString laysRunes a0 w (by omega)
    refine c.mono ?_
    rintro e w' ⟨rfl, pos, rfl⟩
    exact ⟨rfl, (Below.refl _ _).alloc (Nat.le_refl _) _⟩
  · rw [if_neg hs] at h; cases h

end Go.Proofs.YtaicfmmgmblmiaaDoorExt
