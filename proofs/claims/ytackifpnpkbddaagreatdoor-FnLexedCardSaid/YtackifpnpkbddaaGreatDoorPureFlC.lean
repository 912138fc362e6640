/- Proved: the reference's Unlex and the program's Unlex answer alike at every list of tokens whose texts are not longer than a million. -/
import Derived.Test.YtackifpnpkbddaaGreatDoorPureFlB
set_option linter.unusedVariables false
set_option linter.unusedSimpArgs false
set_option linter.unusedSectionVars false
namespace Go.Proofs.YtackifpnpkbddaaGreatDoor.PureFl
open Go.RowKit Go.Lib Go.Proofs.YtackifpnpkbddaaGreatDoor.QFnLexed Go.Proofs.YtackifpnpkbddaaGreatDoorScan Go.Proofs.YtackifpnpkbddaaGreatDoor.CharsFl
open Go.Proofs.YtackifpnpkbddaaGreatDoorW.PrintWords hiding Ev Ev.bind Ev.congr Ev.now Ev.of Ev.rounds Ev.step 
open Go.Proofs.YtackifpnpkbddaaGreatDoorW.PrintLast hiding up
theorem rd35 (l : List S35) (i : Nat) : rd_T35 l (i : Int) = l.getD i z35 := by unfold rd_T35; rw [Int.toNat_natCast]
def okX (x : S35) : Bool := okS x.f0 x.f1.data.toList
def wrX (x : S35) : B := wr x.f0 x.f1.data.toList
def fin (b : B) : ByteArray × Int := if 8000 < b.length then (⟨#[]⟩, 5) else (⟨b.toArray⟩, 0)
/-- What Unlex answers. -/
def ansU (l : List S35) : ByteArray × Int := if 2000 < l.length then (⟨#[]⟩, 1) else if l.all okX = true then fin (join (l.map wrX) [32]) else (⟨#[]⟩, 1)
theorem tail_len : ∀ (r : List B), (∀ x ∈ r, x.length ≤ 3000000) → (joinTail [32] r).length ≤ r.length * 3000001
 | [], h => by simp [joinTail]
 | x :: r, h => by
  have ih := tail_len r (fun y hy => h y (List.mem_cons_of_mem _ hy))
  have hx := h x List.mem_cons_self
  have e : joinTail [32] (x :: r) = [32] ++ x ++ joinTail [32] r := by simp [joinTail]
  rw [e, List.length_append, List.length_append]
  simp only [List.length_cons, List.length_nil]
  omega
theorem join_len (r : List B) (h : ∀ x ∈ r, x.length ≤ 3000000) : (join r [32]).length ≤ r.length * 3000001 := by
 cases r with
 | nil => simp [join_nil]
 | cons x r =>
  rw [join_cons, List.length_append, List.length_cons]
  have := tail_len r (fun y hy => h y (List.mem_cons_of_mem _ hy))
  have hx := h x List.mem_cons_self
  omega
section
variable {l : List S35} (hl : l.length ≤ 2000) (hb : ∀ i, i < l.length → (l.getD i z35).f1.size ≤ 1048576)
include hl hb
theorem drop35 (i : Nat) (h : i < l.length) : l.drop i = l.getD i z35 :: l.drop (i + 1) := by
 rw [List.drop_eq_getElem_cons h]; simp [List.getD, h]
theorem wrX_len (i : Nat) (h : i < l.length) : (wrX (l.getD i z35)).length ≤ 2097154 := by
 have h1 := wr_len (l.getD i z35).f0 (l.getD i z35).f1.data.toList
 have h2 := hb i h
 rw [size_len] at h2
 unfold wrX; omega
theorem text_at (i : Nat) (h : i < l.length) : Ev (fun k => spec_l02TokenText.f k ((rd_T35 l i).f0) ((rd_T35 l i).f1) ((rd_T35 l i).f2)) ⟨(wrX (l.getD i z35)).toArray⟩ := by
 rw [rd35]; exact text_told rfl (by rw [← size_len]; exact hb i h) _ _
theorem spec1 : ∀ (f i : Nat) (acc : B), i + f = l.length → 1 ≤ i → acc.length ≤ i * 3000001 → Ev (fun k => spec_Unlex.l1 k (numL acc) l (l.length : Int) i) (fin (acc ++ joinTail [32] ((l.drop i).map wrX)))
 | 0, i, acc, h, h1, ha => by
  refine Ev.succ (Ev.now _) (fun k => ?_)
  rw [spec_Unlex.l1, if_neg (by omega), numL_len, numL_str, List.drop_eq_nil_of_le (by omega)]
  simp only [List.map_nil, joinTail, List.flatten_nil, List.append_nil]
  unfold fin
  by_cases h2 : 8000 < acc.length
  ·rw [if_pos (by omega), if_pos h2]
  ·rw [if_neg (by omega), if_neg h2]
 | f + 1, i, acc, h, h1, ha => by
  have hlt : i < l.length := by omega
  have hw := wrX_len hl hb i hlt
  have ih := spec1 f (i + 1) (acc ++ [32] ++ wrX (l.getD i z35)) (by omega) (by omega) (by simp only [List.length_append, List.length_singleton]; omega)
  have e : fin (acc ++ joinTail [32] ((l.drop i).map wrX)) = fin (acc ++ [32] ++ wrX (l.getD i z35) ++ joinTail [32] ((l.drop (i + 1)).map wrX)) := by
   rw [drop35 hl hb i hlt]; simp [joinTail]
  rw [e]
  refine Ev.succ (Ev.bind (g := fun k t196 => if (numL (acc ++ [32])).length + t196.size < 140737488355328 then (spec_Unlex.l1 k (numL (acc ++ [32]) ++ bytesOf t196) l (l.length : Int) ((i + 1 : Nat) : Int)) else none) (text_at hl hb i hlt) (Ev.eq ih (fun k => ?_))) (fun k => ?_)
  ·show (if (numL (acc ++ [32])).length + (⟨(wrX (l.getD i z35)).toArray⟩ : ByteArray).size < _ then _ else none) = _
   rw [if_pos (by rw [numL_len, size_mk]; simp only [List.length_append, List.length_singleton]; omega), numL_bytes, data_mk, numL_app]
  ·rw [spec_Unlex.l1, if_pos (by omega), if_pos (by omega), if_pos (by omega), if_pos (by omega), if_pos (by rw [numL_len]; omega), Option.bind_some, up1 i (by omega), show numL acc ++ [32] = numL (acc ++ [32]) from numL_snoc acc 32]
theorem spec_one : Ev (fun k => spec_Unlex.l1 k [] l (l.length : Int) 0) (fin (join (l.map wrX) [32])) := by
 by_cases h0 : l.length = 0
 ·have e : l = [] := List.eq_nil_of_length_eq_zero h0
  subst e
  refine Ev.succ (Ev.now _) (fun k => ?_)
  rw [spec_Unlex.l1, if_neg (by decide), if_neg (by decide)]
  rfl
 ·have hlt : 0 < l.length := by omega
  have hw := wrX_len hl hb 0 hlt
  have ih := spec1 hl hb (l.length - 1) 1 (wrX (l.getD 0 z35)) (by omega) (Nat.le_refl _) (by omega)
  have e : join (l.map wrX) [32] = wrX (l.getD 0 z35) ++ joinTail [32] ((l.drop 1).map wrX) := by
   conv => lhs; rw [show l = l.drop 0 from rfl, drop35 hl hb 0 hlt]
   rw [List.map_cons, join_cons]
  rw [e]
  refine Ev.succ (Ev.bind (g := fun k t200 => if ([] : List Int).length + t200.size < 140737488355328 then (spec_Unlex.l1 k ([] ++ bytesOf t200) l (l.length : Int) ((0 + 1 : Nat) : Int)) else none) (text_at hl hb 0 hlt) (Ev.eq ih (fun k => ?_))) (fun k => ?_)
  ·show (if 0 + (⟨(wrX (l.getD 0 z35)).toArray⟩ : ByteArray).size < _ then _ else none) = _
   rw [if_pos (by rw [size_mk]; omega), List.nil_append, numL_bytes, data_mk]
  ·rw [spec_Unlex.l1, if_pos (by omega), if_pos (by decide), if_pos (by omega), if_neg (by decide), show wrap64 (0 + 1) = ((0 + 1 : Nat) : Int) from up1 0 (by decide)]
   rfl
theorem spec0 : ∀ (f i : Nat), i + f = l.length → Ev (fun k => spec_Unlex.l0 k l l (l.length : Int) i) (if (l.drop i).all okX = true then fin (join (l.map wrX) [32]) else (⟨#[]⟩, 1))
 | 0, i, h => by
  rw [List.drop_eq_nil_of_le (by omega)]
  exact Ev.succ (spec_one hl hb) (fun k => by rw [spec_Unlex.l0, if_neg (by omega)])
 | f + 1, i, h => by
  have hlt : i < l.length := by omega
  have ih := spec0 f (i + 1) (by omega)
  have ho : Ev (fun k => spec_l02TokenOK.f k ((rd_T35 l i).f0) ((rd_T35 l i).f1) ((rd_T35 l i).f2)) (okX (l.getD i z35)) := by
   rw [rd35]; exact okS_told rfl (by rw [← size_len]; exact hb i hlt) _ _
  rw [drop35 hl hb i hlt, List.all_cons]
  refine Ev.succ (Ev.bind (g := fun k t187 => if t187 = true then (spec_Unlex.l0 k l l (l.length : Int) ((i + 1 : Nat) : Int)) else (some ((⟨#[]⟩ : ByteArray), 1))) ho ?_) (fun k => by rw [spec_Unlex.l0, if_pos (by omega), if_pos (by omega), if_pos (by omega), up1 i (by omega)])
  cases okX (l.getD i z35)
  ·exact Ev.eq (Ev.now _) (fun k => if_neg (by simp))
  ·rw [Bool.true_and]; exact Ev.eq ih (fun k => if_pos rfl)
theorem impl0 : ∀ (f i : Nat) (acc : List ByteArray), i + f = l.length → acc.length = i → (∀ x ∈ acc, x.size ≤ 3000000) →
  Ev (fun k => impl_Unlex.l0 k acc l (l.length : Int) i) (if (l.drop i).all okX = true then fin (join ((acc.map (·.data.toList)) ++ (l.drop i).map wrX) [32]) else (⟨#[]⟩, 1))
 | 0, i, acc, h, ha, hs => by
  rw [List.drop_eq_nil_of_le (by omega)]
  have hj := join_len (acc.map (·.data.toList)) (fun x hx => by
   obtain ⟨y, hy, rfl⟩ := List.mem_map.1 hx
   rw [← size_len]; exact hs y hy)
  rw [List.length_map] at hj
  refine Ev.succ (Ev.now _) (fun k => ?_)
  rw [impl_Unlex.l0, if_neg (by omega)]
  unfold strings_Join.f
  rw [if_pos ⟨by omega, by show (join (acc.map (·.data.toList)) [32]).length ≤ _; omega⟩, Option.bind_some]
  show (if ((⟨(join (acc.map (·.data.toList)) [32]).toArray⟩ : ByteArray).size : Int) > 8000 then _ else _) = _
  rw [size_mk, List.all_nil, if_pos rfl, List.map_nil, List.append_nil]
  unfold fin
  by_cases h2 : 8000 < (join (acc.map (·.data.toList)) [32]).length
  ·rw [if_pos (by omega), if_pos h2]
  ·rw [if_neg (by omega), if_neg h2]
 | f + 1, i, acc, h, ha, hs => by
  have hlt : i < l.length := by omega
  have hw := wrX_len hl hb i hlt
  have ih := impl0 f (i + 1) (acc ++ [⟨(wrX (l.getD i z35)).toArray⟩]) (by omega) (by rw [List.length_append, ha]; rfl) (fun x hx => by
   rcases List.mem_append.1 hx with hx | hx
   ·exact hs x hx
   ·rw [List.mem_singleton.1 hx, size_mk]; omega)
  have ho : Ev (fun k => impl_tokenOK.f k ((rd_T35 l i).f0) ((rd_T35 l i).f1) ((rd_T35 l i).f2)) (okX (l.getD i z35)) := by
   rw [rd35]
   have := okI_told (s := (l.getD i z35).f1) rfl (by rw [← size_len]; exact hb i hlt) (l.getD i z35).f0 (l.getD i z35).f2
   rwa [okI_okS] at this
  have hwt : impl_written.f ((rd_T35 l i).f0) ((rd_T35 l i).f1) ((rd_T35 l i).f2) = some ⟨(wrX (l.getD i z35)).toArray⟩ := by
   rw [rd35]; exact written_told rfl (by rw [← size_len]; exact hb i hlt) _ _
  rw [drop35 hl hb i hlt, List.all_cons]
  refine Ev.succ (Ev.bind (g := fun k t239 => if t239 = true then (impl_Unlex.l0 k (acc ++ [⟨(wrX (l.getD i z35)).toArray⟩]) l (l.length : Int) ((i + 1 : Nat) : Int)) else (some ((⟨#[]⟩ : ByteArray), 1))) ho ?_) (fun k => by rw [impl_Unlex.l0, if_pos (by omega), if_pos (by omega), if_pos (by omega), hwt, Option.bind_some, if_pos (by omega), up1 i (by omega)])
  cases okX (l.getD i z35)
  ·exact Ev.eq (Ev.now _) (fun k => if_neg (by simp))
  ·rw [Bool.true_and]
   refine Ev.eq (r := _) ?_ (fun k => if_pos rfl)
   have e : (acc.map (·.data.toList)) ++ (l.getD i z35 :: l.drop (i + 1)).map wrX = ((acc ++ [(⟨(wrX (l.getD i z35)).toArray⟩ : ByteArray)]).map (·.data.toList)) ++ (l.drop (i + 1)).map wrX := by simp
   rw [e]; exact ih
end
/-- Both answer alike. -/
theorem unlex_both (l : List S35) (hb : ∀ i, i < l.length → (l.getD i z35).f1.size ≤ 1048576) : Ev (fun k => spec_Unlex.f k l) (ansU l) ∧ Ev (fun k => impl_Unlex.f k l) (ansU l) := by
 unfold ansU
 by_cases h : 2000 < l.length
 ·rw [if_pos h]
  exact ⟨Ev.eq (Ev.now _) (fun k => if_pos (by omega)), Ev.eq (Ev.now _) (fun k => if_pos (by omega))⟩
 ·rw [if_neg h]
  have h1 := spec0 (by omega) hb l.length 0 (by omega)
  have h2 := impl0 (by omega) hb l.length 0 [] (by omega) rfl (fun x hx => by cases hx)
  rw [List.drop_zero] at h1 h2
  exact ⟨Ev.eq h1 (fun k => if_neg (by omega)), Ev.eq h2 (fun k => if_neg (by omega))⟩
end Go.Proofs.YtackifpnpkbddaaGreatDoor.PureFl
