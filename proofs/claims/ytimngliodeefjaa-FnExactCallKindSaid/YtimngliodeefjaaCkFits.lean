/- Proved: the closure of CallKind that holds the kinds against a list answers as a plain function of both. No conditions but a bound on the length. -/
import Derived.Test.YtimngliodeefjaaPFnExactOpKindx0
namespace Go.Proofs.Ytimngliodeefjaa.Ck
open Go.RowKit Go.Proofs.YtimngliodeefjaaW.PrintWords Go.Proofs.YtimngliodeefjaaW.PrintLast

/-- One kind fits another. -/
def fit1 (kl l : List Int) (i : Nat) : Bool := decide (kl.getD i 0 = 0 ∨ kl.getD i 0 = l.getD i 0)
/-- The closure 'fits' of CallKind. -/
def fitsB (kl l : List Int) : Bool := decide (kl.length = l.length) && (List.range kl.length).all (fit1 kl l)

theorem fitsB_len (kl l : List Int) (h : kl.length ≠ l.length) : fitsB kl l = false := by simp [fitsB, h]
theorem fitsB_yes (kl l : List Int) (h : kl.length = l.length) (hx : ∀ j, j < kl.length → fit1 kl l j = true) : fitsB kl l = true := by
  simp only [fitsB, h, decide_true, Bool.true_and, List.all_eq_true, List.mem_range]
  rw [← h]; exact hx
theorem fitsB_no (kl l : List Int) (j : Nat) (hj : j < kl.length) (hx : fit1 kl l j = false) : fitsB kl l = false := by
  simp only [fitsB, Bool.and_eq_false_iff]
  right
  rw [List.all_eq_false]
  exact ⟨j, List.mem_range.2 hj, by simp [hx]⟩

set_option maxHeartbeats 4000000 in
set_option maxRecDepth 100000 in
theorem fits_calls (g : Nat) (A : Option Addr) (c : Nat) (kl : List Int) (A1 : Option Addr) (c1 : Nat) (l : List Int) (w : World) (hg : w.cell? ⟨g, 0, none⟩ = some (.slice A kl.length c))
    (hr : Kd.C (Kd.int .i64) w A kl.length kl) (hm : kl.length ≤ 140737488355328) (hl : Kd.C (Kd.int .i64) w A1 l.length l) :
    Calls Try.prog 33 #[.slice A1 l.length c1, .pointer (some ⟨g, 0, none⟩)] w fun e w' => e = .returned (.bool (fitsB kl l)) ∧ Drawn0 w w' := by
  have HR := Aside0.mk hr
  have HL := Aside0.mk hl
  clear hr hl
  by_cases c3 : kl.length = l.length
  · have c3b : ((kl.length : Int) != (l.length : Int)) = false := by simp [c3]
    have C3 := Aside0.mk c3
    clear c3
    go_enter Try.func33, Try.ntmps33
    go_wp2
    go_loopw [13] (fun v w' => ∃ x : Int, v = .int .i64 x ∧ Aside0 (0 ≤ x ∧ x ≤ kl.length) ∧ Aside0 (∀ j : Nat, (j : Int) < x → fit1 kl l j = true) ∧ Drawn0 w w') (fun v _ => kl.length - (intOf v).toNat)
    case atStart => exact ⟨0, rfl, ⟨by omega, by omega⟩, ⟨fun j hj => by omega⟩, Drawn0.refl _⟩
    case round =>
      obtain ⟨x, rfl, HB, HX, ⟨m1, rfl⟩⟩ := hrel
      by_cases hlt : x < (kl.length : Int)
      · have hb0 : decide (x < (kl.length : Int)) = true := decide_eq_true hlt
        have p1 : 0 ≤ x := HB.out.1
        have q2 : x < (l.length : Int) := by have := C3.out; omega
        obtain ⟨ad, e1, hx1⟩ := Kd.at_int HR.out x p1 hlt
        obtain ⟨ad2, e2, hx2⟩ := Kd.at_int HL.out x p1 q2
        cases e1
        cases e2
        have HLT := Aside0.mk hlt
        have HF : Aside0 (fit1 kl l x.toNat = decide (rd kl x = 0 ∨ rd kl x = rd l x)) := ⟨rfl⟩
        replace p1 := eq_true p1
        replace q2 := eq_true q2
        replace hlt := eq_true hlt
        by_cases t1 : rd kl x = 0
        · have t1a : (rd kl x == 0) = true := beq_iff_eq.mpr t1
          have t1b : (rd kl x != 0) = false := bne_eq_false_iff_eq.mpr t1
          have T1 := Aside0.mk t1
          clear t1
          go_wp2
          go_roundw
          case rel => exact ⟨x + 1, by have := HLT.out; have := HB.out; first | rfl | (unfold wrap64; congr 1; omega), ⟨by have := HLT.out; have := HB.out; omega⟩, ⟨fun j hj => by
            by_cases hjx : (j : Int) < x
            · exact HX.out j hjx
            · have : j = x.toNat := by omega
              subst this
              rw [HF.out]; simp [T1.out]⟩, by repeat (first | exact Drawn0.refl _ | apply Drawn0.step)⟩
          case measure => have := HLT.out; have := HB.out; simp [intOf, wrap64]; omega
        · have t1a : (rd kl x == 0) = false := beq_eq_false_iff_ne.mpr t1
          have t1b : (rd kl x != 0) = true := bne_iff_ne.mpr t1
          have T1 := Aside0.mk t1
          clear t1
          by_cases t2 : rd kl x = rd l x
          · have t2a : (rd kl x == rd l x) = true := beq_iff_eq.mpr t2
            have t2b : (rd kl x != rd l x) = false := bne_eq_false_iff_eq.mpr t2
            have T2 := Aside0.mk t2
            clear t2
            go_wp2
            go_roundw
            case rel => exact ⟨x + 1, by have := HLT.out; have := HB.out; first | rfl | (unfold wrap64; congr 1; omega), ⟨by have := HLT.out; have := HB.out; omega⟩, ⟨fun j hj => by
              by_cases hjx : (j : Int) < x
              · exact HX.out j hjx
              · have : j = x.toNat := by omega
                subst this
                rw [HF.out]; simp [T2.out]⟩, by repeat (first | exact Drawn0.refl _ | apply Drawn0.step)⟩
            case measure => have := HLT.out; have := HB.out; simp [intOf, wrap64]; omega
          · have t2a : (rd kl x == rd l x) = false := beq_eq_false_iff_ne.mpr t2
            have t2b : (rd kl x != rd l x) = true := bne_iff_ne.mpr t2
            have hno : fitsB kl l = false := fitsB_no kl l x.toNat (by have := HLT.out; have := HB.out; omega) (by rw [HF.out]; simp [T1.out, t2])
            have HNO := Aside0.mk hno
            clear hno t2
            go_wp2
            go_ret
            exact ⟨by rw [HNO.out]; first | rfl | simp, by repeat (first | exact Drawn0.refl _ | apply Drawn0.step)⟩
      · have hb0 : decide (x < (kl.length : Int)) = false := decide_eq_false hlt
        have HYES := Aside0.mk (fitsB_yes kl l C3.out (fun j hj => HX.out j (by omega)))
        clear hlt
        go_wp2
        go_ret
        exact ⟨by rw [HYES.out]; first | rfl | simp, by repeat (first | exact Drawn0.refl _ | apply Drawn0.step)⟩
  · have c3b : ((kl.length : Int) != (l.length : Int)) = true := by simp; omega
    have c3c : (kl.length == l.length) = false := by simpa using c3
    have HNO := Aside0.mk (fitsB_len kl l c3)
    clear c3
    go_enter Try.func33, Try.ntmps33
    go_wp2
    go_ret
    exact ⟨by rw [HNO.out]; first | rfl | simp, by repeat (first | exact Drawn0.refl _ | apply Drawn0.step)⟩
end Go.Proofs.Ytimngliodeefjaa.Ck
