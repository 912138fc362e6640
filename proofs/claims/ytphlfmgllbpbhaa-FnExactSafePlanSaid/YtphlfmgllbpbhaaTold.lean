/- Proved: what impl.textOK and spec.l04Told answer: both toldB. Conditions: none but that the list of kids is no longer than memory. -/
import Derived.Test.YtphlfmgllbpbhaaSz
namespace Go.Proofs.Ytphlfmgllbpbhaa.QFnExactSafePlan
open Go.RowKit Go.Proofs.YtphlfmgllbpbhaaW.PrintWords Go.Proofs.YtphlfmgllbpbhaaW.PrintLast Go.Proofs.YtphlfmgllbpbhaaW.PrintMore
set_option linter.unusedVariables false
set_option linter.unusedSimpArgs false
def binB (a : Int) : Bool := decide (1 ≤ a) && decide (a ≤ 15)
def unB (a : Int) : Bool := decide (16 ≤ a) && decide (a ≤ 18)
def flagB (a : Int) : Bool := (a == 0) || (a == 1)
def caseB (a : Int) (n : Nat) : Bool := decide (2 ≤ (n : Int) - a) && (((n : Int) - a) % 2 == 0)
/-- May a node's text be told? -/
def toldB (op a : Int) (n : Nat) : Bool :=
  if op = 1 ∨ op = 2 ∨ op = 12 ∨ op = 13 then ((n : Int) == 0)
  else if op = 3 then ((n : Int) == 2) && binB a
  else if op = 4 then ((n : Int) == 1) && unB a
  else if op = 5 then decide (2 ≤ (n : Int)) && flagB a
  else if op = 6 then ((n : Int) == 2) && flagB a
  else if op = 7 then ((n : Int) == 3) && flagB a
  else if op = 8 then flagB a && caseB a n
  else if op = 9 then ((n : Int) == 1) && (decide (1 ≤ a) && decide (a ≤ 5))
  else if op = 10 then decide (1 ≤ a) && decide (a ≤ 13)
  else if op = 11 then decide (1 ≤ (n : Int))
  else if op = 14 then ((n : Int) == 1) && flagB a
  else false
set_option maxHeartbeats 4000000 in
set_option maxRecDepth 100000 in
theorem isBin (a : Int) (w : World) : Calls Try.prog 39 #[.int .i64 a] w fun e w' => e = .returned (.bool (binB a)) ∧ w = w' := by
  by_cases h : 1 ≤ a
  · have h1 : decide (1 ≤ a) = true := decide_eq_true h
    have he : binB a = decide (a ≤ 15) := by unfold binB; rw [h1, Bool.true_and]
    rw [he]
    clear h he
    go_enter Try.func39, Try.ntmps39
    go_wp2
    go_ret
    exact ⟨rfl, rfl⟩
  · have h1 : decide (1 ≤ a) = false := decide_eq_false h
    have he : binB a = false := by unfold binB; rw [h1, Bool.false_and]
    rw [he]
    clear h he
    go_enter Try.func39, Try.ntmps39
    go_wp2
    go_ret
    exact ⟨rfl, rfl⟩
set_option maxHeartbeats 4000000 in
set_option maxRecDepth 100000 in
theorem isUn (a : Int) (w : World) : Calls Try.prog 40 #[.int .i64 a] w fun e w' => e = .returned (.bool (unB a)) ∧ w = w' := by
  by_cases h : 16 ≤ a
  · have h1 : decide (16 ≤ a) = true := decide_eq_true h
    have he : unB a = decide (a ≤ 18) := by unfold unB; rw [h1, Bool.true_and]
    rw [he]
    clear h he
    go_enter Try.func40, Try.ntmps40
    go_wp2
    go_ret
    exact ⟨rfl, rfl⟩
  · have h1 : decide (16 ≤ a) = false := decide_eq_false h
    have he : unB a = false := by unfold unB; rw [h1, Bool.false_and]
    rw [he]
    clear h he
    go_enter Try.func40, Try.ntmps40
    go_wp2
    go_ret
    exact ⟨rfl, rfl⟩
set_option maxHeartbeats 4000000 in
set_option maxRecDepth 100000 in
theorem flag41 (a : Int) (w : World) : Calls Try.prog 41 #[.int .i64 a] w fun e w' => e = .returned (.bool (flagB a)) ∧ w = w' := by
  by_cases h : a = 0
  · subst h
    go_enter Try.func41, Try.ntmps41
    go_wp2
    go_ret
    exact ⟨rfl, rfl⟩
  · have h1 : (a == 0) = false := by simp [h]
    have he : flagB a = (a == 1) := by unfold flagB; rw [h1, Bool.false_or]
    rw [he]
    clear h he
    go_enter Try.func41, Try.ntmps41
    go_wp2
    go_ret
    exact ⟨rfl, rfl⟩
set_option maxHeartbeats 4000000 in
set_option maxRecDepth 100000 in
theorem flag47 (a : Int) (w : World) : Calls Try.prog 47 #[.int .i64 a] w fun e w' => e = .returned (.bool (flagB a)) ∧ w = w' := by
  by_cases h : a = 0
  · subst h
    go_enter Try.func47, Try.ntmps47
    go_wp2
    go_ret
    exact ⟨rfl, rfl⟩
  · have h1 : (a == 0) = false := by simp [h]
    have he : flagB a = (a == 1) := by unfold flagB; rw [h1, Bool.false_or]
    rw [he]
    clear h he
    go_enter Try.func47, Try.ntmps47
    go_wp2
    go_ret
    exact ⟨rfl, rfl⟩
set_option maxHeartbeats 4000000 in
set_option maxRecDepth 100000 in
theorem told23 (op kd a b vk vn : Int) (vs : ByteArray) (A : Option Addr) (n c : Nat) (w : World) (hn : (n : Int) ≤ 9223372036854775806) : Calls Try.prog 23 #[.agg #[.int .i64 op, .int .i64 kd, .int .i64 a, .int .i64 b, .int .i64 vk, .int .i64 vn, .string vs, .slice A n c]] w fun e w' => e = .returned (.bool (toldB op a n)) ∧ Below w.heap.size w w' := by
  have hu := Try.underlying49
  have HB := Aside0.mk (Below.refl w.heap.size w)
  have hn0 : 0 ≤ (n : Int) := by omega
  by_cases o1 : op = 1
  · subst o1
    go_enter Try.func23, Try.ntmps23
    go_wp2_with (first
      | (go_at_call 41; (with_reducible refine (flag41 _ _).mono ?_); rintro e w9 ⟨rfl, rfl⟩)
      | (go_at_call 39; (with_reducible refine (isBin _ _).mono ?_); rintro e w9 ⟨rfl, rfl⟩)
      | (go_at_call 40; (with_reducible refine (isUn _ _).mono ?_); rintro e w9 ⟨rfl, rfl⟩))
    go_ret
    exact ⟨rfl, below_alloc HB.out _⟩
  have p1 : (op == 1) = false := by simp [o1]
  by_cases o2 : op = 2
  · subst o2
    go_enter Try.func23, Try.ntmps23
    go_wp2_with (first
      | (go_at_call 41; (with_reducible refine (flag41 _ _).mono ?_); rintro e w9 ⟨rfl, rfl⟩)
      | (go_at_call 39; (with_reducible refine (isBin _ _).mono ?_); rintro e w9 ⟨rfl, rfl⟩)
      | (go_at_call 40; (with_reducible refine (isUn _ _).mono ?_); rintro e w9 ⟨rfl, rfl⟩))
    go_ret
    exact ⟨rfl, below_alloc HB.out _⟩
  have p2 : (op == 2) = false := by simp [o2]
  by_cases o12 : op = 12
  · subst o12
    go_enter Try.func23, Try.ntmps23
    go_wp2_with (first
      | (go_at_call 41; (with_reducible refine (flag41 _ _).mono ?_); rintro e w9 ⟨rfl, rfl⟩)
      | (go_at_call 39; (with_reducible refine (isBin _ _).mono ?_); rintro e w9 ⟨rfl, rfl⟩)
      | (go_at_call 40; (with_reducible refine (isUn _ _).mono ?_); rintro e w9 ⟨rfl, rfl⟩))
    go_ret
    exact ⟨rfl, below_alloc HB.out _⟩
  have p12 : (op == 12) = false := by simp [o12]
  by_cases o13 : op = 13
  · subst o13
    go_enter Try.func23, Try.ntmps23
    go_wp2_with (first
      | (go_at_call 41; (with_reducible refine (flag41 _ _).mono ?_); rintro e w9 ⟨rfl, rfl⟩)
      | (go_at_call 39; (with_reducible refine (isBin _ _).mono ?_); rintro e w9 ⟨rfl, rfl⟩)
      | (go_at_call 40; (with_reducible refine (isUn _ _).mono ?_); rintro e w9 ⟨rfl, rfl⟩))
    go_ret
    exact ⟨rfl, below_alloc HB.out _⟩
  have p13 : (op == 13) = false := by simp [o13]
  by_cases o3 : op = 3
  · subst o3
    by_cases g0 : ((n : Int) == 2) = true
    · skip
      rw [show toldB 3 a n = binB a by simp [toldB, g0]]
      go_enter Try.func23, Try.ntmps23
      go_wp2_with (first
        | (go_at_call 41; (with_reducible refine (flag41 _ _).mono ?_); rintro e w9 ⟨rfl, rfl⟩)
        | (go_at_call 39; (with_reducible refine (isBin _ _).mono ?_); rintro e w9 ⟨rfl, rfl⟩)
        | (go_at_call 40; (with_reducible refine (isUn _ _).mono ?_); rintro e w9 ⟨rfl, rfl⟩))
      go_ret
      exact ⟨rfl, below_alloc HB.out _⟩
    · replace g0 := Bool.eq_false_iff.mpr g0
      rw [show toldB 3 a n = false by simp [toldB, g0]]
      go_enter Try.func23, Try.ntmps23
      go_wp2_with (first
        | (go_at_call 41; (with_reducible refine (flag41 _ _).mono ?_); rintro e w9 ⟨rfl, rfl⟩)
        | (go_at_call 39; (with_reducible refine (isBin _ _).mono ?_); rintro e w9 ⟨rfl, rfl⟩)
        | (go_at_call 40; (with_reducible refine (isUn _ _).mono ?_); rintro e w9 ⟨rfl, rfl⟩))
      go_ret
      exact ⟨rfl, below_alloc HB.out _⟩
  have p3 : (op == 3) = false := by simp [o3]
  by_cases o4 : op = 4
  · subst o4
    by_cases g0 : ((n : Int) == 1) = true
    · skip
      rw [show toldB 4 a n = unB a by simp [toldB, g0]]
      go_enter Try.func23, Try.ntmps23
      go_wp2_with (first
        | (go_at_call 41; (with_reducible refine (flag41 _ _).mono ?_); rintro e w9 ⟨rfl, rfl⟩)
        | (go_at_call 39; (with_reducible refine (isBin _ _).mono ?_); rintro e w9 ⟨rfl, rfl⟩)
        | (go_at_call 40; (with_reducible refine (isUn _ _).mono ?_); rintro e w9 ⟨rfl, rfl⟩))
      go_ret
      exact ⟨rfl, below_alloc HB.out _⟩
    · replace g0 := Bool.eq_false_iff.mpr g0
      rw [show toldB 4 a n = false by simp [toldB, g0]]
      go_enter Try.func23, Try.ntmps23
      go_wp2_with (first
        | (go_at_call 41; (with_reducible refine (flag41 _ _).mono ?_); rintro e w9 ⟨rfl, rfl⟩)
        | (go_at_call 39; (with_reducible refine (isBin _ _).mono ?_); rintro e w9 ⟨rfl, rfl⟩)
        | (go_at_call 40; (with_reducible refine (isUn _ _).mono ?_); rintro e w9 ⟨rfl, rfl⟩))
      go_ret
      exact ⟨rfl, below_alloc HB.out _⟩
  have p4 : (op == 4) = false := by simp [o4]
  by_cases o5 : op = 5
  · subst o5
    by_cases g0 : decide (2 ≤ (n : Int)) = true
    · skip
      rw [show toldB 5 a n = flagB a by simp [toldB, g0]]
      go_enter Try.func23, Try.ntmps23
      go_wp2_with (first
        | (go_at_call 41; (with_reducible refine (flag41 _ _).mono ?_); rintro e w9 ⟨rfl, rfl⟩)
        | (go_at_call 39; (with_reducible refine (isBin _ _).mono ?_); rintro e w9 ⟨rfl, rfl⟩)
        | (go_at_call 40; (with_reducible refine (isUn _ _).mono ?_); rintro e w9 ⟨rfl, rfl⟩))
      go_ret
      exact ⟨rfl, below_alloc HB.out _⟩
    · replace g0 := Bool.eq_false_iff.mpr g0
      rw [show toldB 5 a n = false by simp [toldB, g0]]
      go_enter Try.func23, Try.ntmps23
      go_wp2_with (first
        | (go_at_call 41; (with_reducible refine (flag41 _ _).mono ?_); rintro e w9 ⟨rfl, rfl⟩)
        | (go_at_call 39; (with_reducible refine (isBin _ _).mono ?_); rintro e w9 ⟨rfl, rfl⟩)
        | (go_at_call 40; (with_reducible refine (isUn _ _).mono ?_); rintro e w9 ⟨rfl, rfl⟩))
      go_ret
      exact ⟨rfl, below_alloc HB.out _⟩
  have p5 : (op == 5) = false := by simp [o5]
  by_cases o6 : op = 6
  · subst o6
    by_cases g0 : ((n : Int) == 2) = true
    · skip
      rw [show toldB 6 a n = flagB a by simp [toldB, g0]]
      go_enter Try.func23, Try.ntmps23
      go_wp2_with (first
        | (go_at_call 41; (with_reducible refine (flag41 _ _).mono ?_); rintro e w9 ⟨rfl, rfl⟩)
        | (go_at_call 39; (with_reducible refine (isBin _ _).mono ?_); rintro e w9 ⟨rfl, rfl⟩)
        | (go_at_call 40; (with_reducible refine (isUn _ _).mono ?_); rintro e w9 ⟨rfl, rfl⟩))
      go_ret
      exact ⟨rfl, below_alloc HB.out _⟩
    · replace g0 := Bool.eq_false_iff.mpr g0
      rw [show toldB 6 a n = false by simp [toldB, g0]]
      go_enter Try.func23, Try.ntmps23
      go_wp2_with (first
        | (go_at_call 41; (with_reducible refine (flag41 _ _).mono ?_); rintro e w9 ⟨rfl, rfl⟩)
        | (go_at_call 39; (with_reducible refine (isBin _ _).mono ?_); rintro e w9 ⟨rfl, rfl⟩)
        | (go_at_call 40; (with_reducible refine (isUn _ _).mono ?_); rintro e w9 ⟨rfl, rfl⟩))
      go_ret
      exact ⟨rfl, below_alloc HB.out _⟩
  have p6 : (op == 6) = false := by simp [o6]
  by_cases o7 : op = 7
  · subst o7
    by_cases g0 : ((n : Int) == 3) = true
    · skip
      rw [show toldB 7 a n = flagB a by simp [toldB, g0]]
      go_enter Try.func23, Try.ntmps23
      go_wp2_with (first
        | (go_at_call 41; (with_reducible refine (flag41 _ _).mono ?_); rintro e w9 ⟨rfl, rfl⟩)
        | (go_at_call 39; (with_reducible refine (isBin _ _).mono ?_); rintro e w9 ⟨rfl, rfl⟩)
        | (go_at_call 40; (with_reducible refine (isUn _ _).mono ?_); rintro e w9 ⟨rfl, rfl⟩))
      go_ret
      exact ⟨rfl, below_alloc HB.out _⟩
    · replace g0 := Bool.eq_false_iff.mpr g0
      rw [show toldB 7 a n = false by simp [toldB, g0]]
      go_enter Try.func23, Try.ntmps23
      go_wp2_with (first
        | (go_at_call 41; (with_reducible refine (flag41 _ _).mono ?_); rintro e w9 ⟨rfl, rfl⟩)
        | (go_at_call 39; (with_reducible refine (isBin _ _).mono ?_); rintro e w9 ⟨rfl, rfl⟩)
        | (go_at_call 40; (with_reducible refine (isUn _ _).mono ?_); rintro e w9 ⟨rfl, rfl⟩))
      go_ret
      exact ⟨rfl, below_alloc HB.out _⟩
  have p7 : (op == 7) = false := by simp [o7]
  by_cases o8 : op = 8
  · subst o8
    by_cases g0 : a = 0
    · subst g0
      have hf : flagB 0 = true := rfl
      by_cases g2 : 2 ≤ (n : Int) - 0
      · have d2 : decide (2 ≤ (n : Int)) = true := decide_eq_true (by omega)
        have d3 : 0 ≤ (n : Int) - 0 := by omega
        rw [show toldB 8 0 n = ((n : Int) % 2 == 0) by simp [toldB, caseB, hf, d2]]
        clear g2 hf
        go_enter Try.func23, Try.ntmps23
        go_wp2_with (first
          | (go_at_call 41; (with_reducible refine (flag41 _ _).mono ?_); rintro e w9 ⟨rfl, rfl⟩)
          | (go_at_call 39; (with_reducible refine (isBin _ _).mono ?_); rintro e w9 ⟨rfl, rfl⟩)
          | (go_at_call 40; (with_reducible refine (isUn _ _).mono ?_); rintro e w9 ⟨rfl, rfl⟩))
        go_ret
        exact ⟨rfl, below_alloc HB.out _⟩
      · have d2 : decide (2 ≤ (n : Int)) = false := decide_eq_false (by omega)
        rw [show toldB 8 0 n = false by simp [toldB, caseB, hf, d2]]
        clear g2 hf
        go_enter Try.func23, Try.ntmps23
        go_wp2_with (first
          | (go_at_call 41; (with_reducible refine (flag41 _ _).mono ?_); rintro e w9 ⟨rfl, rfl⟩)
          | (go_at_call 39; (with_reducible refine (isBin _ _).mono ?_); rintro e w9 ⟨rfl, rfl⟩)
          | (go_at_call 40; (with_reducible refine (isUn _ _).mono ?_); rintro e w9 ⟨rfl, rfl⟩))
        go_ret
        exact ⟨rfl, below_alloc HB.out _⟩
    · by_cases g1 : a = 1
      · subst g1
        have hf : flagB 1 = true := rfl
        by_cases g2 : 2 ≤ (n : Int) - 1
        · have d2 : decide (2 ≤ ((n : Int) - 1)) = true := decide_eq_true (by omega)
          have d3 : 0 ≤ (n : Int) - 1 := by omega
          have d4 : decide (3 ≤ (n : Int)) = true := decide_eq_true (by omega)
          rw [show toldB 8 1 n = (((n : Int) - 1) % 2 == 0) by simp [toldB, caseB, hf, g2]]
          clear g2 hf
          go_enter Try.func23, Try.ntmps23
          go_wp2_with (first
            | (go_at_call 41; (with_reducible refine (flag41 _ _).mono ?_); rintro e w9 ⟨rfl, rfl⟩)
            | (go_at_call 39; (with_reducible refine (isBin _ _).mono ?_); rintro e w9 ⟨rfl, rfl⟩)
            | (go_at_call 40; (with_reducible refine (isUn _ _).mono ?_); rintro e w9 ⟨rfl, rfl⟩))
          go_ret
          exact ⟨rfl, below_alloc HB.out _⟩
        · have d2 : decide (2 ≤ ((n : Int) - 1)) = false := decide_eq_false (by omega)
          have d4 : decide (3 ≤ (n : Int)) = false := decide_eq_false (by omega)
          rw [show toldB 8 1 n = false by simp [toldB, caseB, hf, g2]]
          clear g2 hf
          go_enter Try.func23, Try.ntmps23
          go_wp2_with (first
            | (go_at_call 41; (with_reducible refine (flag41 _ _).mono ?_); rintro e w9 ⟨rfl, rfl⟩)
            | (go_at_call 39; (with_reducible refine (isBin _ _).mono ?_); rintro e w9 ⟨rfl, rfl⟩)
            | (go_at_call 40; (with_reducible refine (isUn _ _).mono ?_); rintro e w9 ⟨rfl, rfl⟩))
          go_ret
          exact ⟨rfl, below_alloc HB.out _⟩
      · have hf : flagB a = false := by simp [flagB, g0, g1]
        rw [show toldB 8 a n = false by simp [toldB, hf]]
        clear g0 g1
        go_enter Try.func23, Try.ntmps23
        go_wp2_with (first
          | (go_at_call 41; (with_reducible refine (flag41 _ _).mono ?_); rintro e w9 ⟨rfl, rfl⟩)
          | (go_at_call 39; (with_reducible refine (isBin _ _).mono ?_); rintro e w9 ⟨rfl, rfl⟩)
          | (go_at_call 40; (with_reducible refine (isUn _ _).mono ?_); rintro e w9 ⟨rfl, rfl⟩))
        go_ret
        exact ⟨rfl, below_alloc HB.out _⟩
  have p8 : (op == 8) = false := by simp [o8]
  by_cases o9 : op = 9
  · subst o9
    by_cases g0 : ((n : Int) == 1) = true
    · skip
      by_cases g1 : decide (1 ≤ a) = true
      · skip
        rw [show toldB 9 a n = decide (a ≤ 5) by simp [toldB, g0, g1]]
        go_enter Try.func23, Try.ntmps23
        go_wp2_with (first
          | (go_at_call 41; (with_reducible refine (flag41 _ _).mono ?_); rintro e w9 ⟨rfl, rfl⟩)
          | (go_at_call 39; (with_reducible refine (isBin _ _).mono ?_); rintro e w9 ⟨rfl, rfl⟩)
          | (go_at_call 40; (with_reducible refine (isUn _ _).mono ?_); rintro e w9 ⟨rfl, rfl⟩))
        go_ret
        exact ⟨rfl, below_alloc HB.out _⟩
      · replace g1 := Bool.eq_false_iff.mpr g1
        rw [show toldB 9 a n = false by simp [toldB, g0, g1]]
        go_enter Try.func23, Try.ntmps23
        go_wp2_with (first
          | (go_at_call 41; (with_reducible refine (flag41 _ _).mono ?_); rintro e w9 ⟨rfl, rfl⟩)
          | (go_at_call 39; (with_reducible refine (isBin _ _).mono ?_); rintro e w9 ⟨rfl, rfl⟩)
          | (go_at_call 40; (with_reducible refine (isUn _ _).mono ?_); rintro e w9 ⟨rfl, rfl⟩))
        go_ret
        exact ⟨rfl, below_alloc HB.out _⟩
    · replace g0 := Bool.eq_false_iff.mpr g0
      rw [show toldB 9 a n = false by simp [toldB, g0]]
      go_enter Try.func23, Try.ntmps23
      go_wp2_with (first
        | (go_at_call 41; (with_reducible refine (flag41 _ _).mono ?_); rintro e w9 ⟨rfl, rfl⟩)
        | (go_at_call 39; (with_reducible refine (isBin _ _).mono ?_); rintro e w9 ⟨rfl, rfl⟩)
        | (go_at_call 40; (with_reducible refine (isUn _ _).mono ?_); rintro e w9 ⟨rfl, rfl⟩))
      go_ret
      exact ⟨rfl, below_alloc HB.out _⟩
  have p9 : (op == 9) = false := by simp [o9]
  by_cases o10 : op = 10
  · subst o10
    by_cases g0 : decide (1 ≤ a) = true
    · skip
      rw [show toldB 10 a n = decide (a ≤ 13) by simp [toldB, g0]]
      go_enter Try.func23, Try.ntmps23
      go_wp2_with (first
        | (go_at_call 41; (with_reducible refine (flag41 _ _).mono ?_); rintro e w9 ⟨rfl, rfl⟩)
        | (go_at_call 39; (with_reducible refine (isBin _ _).mono ?_); rintro e w9 ⟨rfl, rfl⟩)
        | (go_at_call 40; (with_reducible refine (isUn _ _).mono ?_); rintro e w9 ⟨rfl, rfl⟩))
      go_ret
      exact ⟨rfl, below_alloc HB.out _⟩
    · replace g0 := Bool.eq_false_iff.mpr g0
      rw [show toldB 10 a n = false by simp [toldB, g0]]
      go_enter Try.func23, Try.ntmps23
      go_wp2_with (first
        | (go_at_call 41; (with_reducible refine (flag41 _ _).mono ?_); rintro e w9 ⟨rfl, rfl⟩)
        | (go_at_call 39; (with_reducible refine (isBin _ _).mono ?_); rintro e w9 ⟨rfl, rfl⟩)
        | (go_at_call 40; (with_reducible refine (isUn _ _).mono ?_); rintro e w9 ⟨rfl, rfl⟩))
      go_ret
      exact ⟨rfl, below_alloc HB.out _⟩
  have p10 : (op == 10) = false := by simp [o10]
  by_cases o11 : op = 11
  · subst o11
    rw [show toldB 11 a n = decide (1 ≤ (n : Int)) by simp [toldB]]
    go_enter Try.func23, Try.ntmps23
    go_wp2_with (first
      | (go_at_call 41; (with_reducible refine (flag41 _ _).mono ?_); rintro e w9 ⟨rfl, rfl⟩)
      | (go_at_call 39; (with_reducible refine (isBin _ _).mono ?_); rintro e w9 ⟨rfl, rfl⟩)
      | (go_at_call 40; (with_reducible refine (isUn _ _).mono ?_); rintro e w9 ⟨rfl, rfl⟩))
    go_ret
    exact ⟨rfl, below_alloc HB.out _⟩
  have p11 : (op == 11) = false := by simp [o11]
  by_cases o14 : op = 14
  · subst o14
    by_cases g0 : ((n : Int) == 1) = true
    · skip
      rw [show toldB 14 a n = flagB a by simp [toldB, g0]]
      go_enter Try.func23, Try.ntmps23
      go_wp2_with (first
        | (go_at_call 41; (with_reducible refine (flag41 _ _).mono ?_); rintro e w9 ⟨rfl, rfl⟩)
        | (go_at_call 39; (with_reducible refine (isBin _ _).mono ?_); rintro e w9 ⟨rfl, rfl⟩)
        | (go_at_call 40; (with_reducible refine (isUn _ _).mono ?_); rintro e w9 ⟨rfl, rfl⟩))
      go_ret
      exact ⟨rfl, below_alloc HB.out _⟩
    · replace g0 := Bool.eq_false_iff.mpr g0
      rw [show toldB 14 a n = false by simp [toldB, g0]]
      go_enter Try.func23, Try.ntmps23
      go_wp2_with (first
        | (go_at_call 41; (with_reducible refine (flag41 _ _).mono ?_); rintro e w9 ⟨rfl, rfl⟩)
        | (go_at_call 39; (with_reducible refine (isBin _ _).mono ?_); rintro e w9 ⟨rfl, rfl⟩)
        | (go_at_call 40; (with_reducible refine (isUn _ _).mono ?_); rintro e w9 ⟨rfl, rfl⟩))
      go_ret
      exact ⟨rfl, below_alloc HB.out _⟩
  have p14 : (op == 14) = false := by simp [o14]
  rw [show toldB op a n = false by simp [toldB, o1, o2, o12, o13, o3, o4, o5, o6, o7, o8, o9, o10, o11, o14]]
  clear o1 o2 o12 o13 o3 o4 o5 o6 o7 o8 o9 o10 o11 o14
  go_enter Try.func23, Try.ntmps23
  go_wp2_with (first
    | (go_at_call 41; (with_reducible refine (flag41 _ _).mono ?_); rintro e w9 ⟨rfl, rfl⟩)
    | (go_at_call 39; (with_reducible refine (isBin _ _).mono ?_); rintro e w9 ⟨rfl, rfl⟩)
    | (go_at_call 40; (with_reducible refine (isUn _ _).mono ?_); rintro e w9 ⟨rfl, rfl⟩))
  go_ret
  exact ⟨rfl, below_alloc HB.out _⟩
set_option maxHeartbeats 4000000 in
set_option maxRecDepth 100000 in
theorem told30 (op kd a b vk vn : Int) (vs : ByteArray) (A : Option Addr) (n c : Nat) (w : World) (hn : (n : Int) ≤ 9223372036854775806) : Calls Try.prog 30 #[.agg #[.int .i64 op, .int .i64 kd, .int .i64 a, .int .i64 b, .int .i64 vk, .int .i64 vn, .string vs, .slice A n c]] w fun e w' => e = .returned (.bool (toldB op a n)) ∧ Below w.heap.size w w' := by
  have hu := Try.underlying49
  have HB := Aside0.mk (Below.refl w.heap.size w)
  have hn0 : 0 ≤ (n : Int) := by omega
  by_cases o1 : op = 1
  · subst o1
    go_enter Try.func30, Try.ntmps30
    go_wp2_with (first
      | (go_at_call 47; (with_reducible refine (flag47 _ _).mono ?_); rintro e w9 ⟨rfl, rfl⟩))
    go_ret
    exact ⟨rfl, below_alloc HB.out _⟩
  have p1 : (op == 1) = false := by simp [o1]
  by_cases o2 : op = 2
  · subst o2
    go_enter Try.func30, Try.ntmps30
    go_wp2_with (first
      | (go_at_call 47; (with_reducible refine (flag47 _ _).mono ?_); rintro e w9 ⟨rfl, rfl⟩))
    go_ret
    exact ⟨rfl, below_alloc HB.out _⟩
  have p2 : (op == 2) = false := by simp [o2]
  by_cases o12 : op = 12
  · subst o12
    go_enter Try.func30, Try.ntmps30
    go_wp2_with (first
      | (go_at_call 47; (with_reducible refine (flag47 _ _).mono ?_); rintro e w9 ⟨rfl, rfl⟩))
    go_ret
    exact ⟨rfl, below_alloc HB.out _⟩
  have p12 : (op == 12) = false := by simp [o12]
  by_cases o13 : op = 13
  · subst o13
    go_enter Try.func30, Try.ntmps30
    go_wp2_with (first
      | (go_at_call 47; (with_reducible refine (flag47 _ _).mono ?_); rintro e w9 ⟨rfl, rfl⟩))
    go_ret
    exact ⟨rfl, below_alloc HB.out _⟩
  have p13 : (op == 13) = false := by simp [o13]
  by_cases o3 : op = 3
  · subst o3
    by_cases g1 : ((n : Int) == 2) = true
    · skip
      by_cases g2 : decide (1 ≤ a) = true
      · skip
        rw [show toldB 3 a n = decide (a ≤ 15) by simp [toldB, binB, g1, g2]]
        go_enter Try.func30, Try.ntmps30
        go_wp2_with (first
          | (go_at_call 47; (with_reducible refine (flag47 _ _).mono ?_); rintro e w9 ⟨rfl, rfl⟩))
        go_ret
        exact ⟨rfl, below_alloc HB.out _⟩
      · replace g2 := Bool.eq_false_iff.mpr g2
        rw [show toldB 3 a n = false by simp [toldB, binB, g1, g2]]
        go_enter Try.func30, Try.ntmps30
        go_wp2_with (first
          | (go_at_call 47; (with_reducible refine (flag47 _ _).mono ?_); rintro e w9 ⟨rfl, rfl⟩))
        go_ret
        exact ⟨rfl, below_alloc HB.out _⟩
    · replace g1 := Bool.eq_false_iff.mpr g1
      rw [show toldB 3 a n = false by simp [toldB, binB, g1]]
      go_enter Try.func30, Try.ntmps30
      go_wp2_with (first
        | (go_at_call 47; (with_reducible refine (flag47 _ _).mono ?_); rintro e w9 ⟨rfl, rfl⟩))
      go_ret
      exact ⟨rfl, below_alloc HB.out _⟩
  have p3 : (op == 3) = false := by simp [o3]
  by_cases o4 : op = 4
  · subst o4
    by_cases g1 : ((n : Int) == 1) = true
    · skip
      by_cases g2 : decide (16 ≤ a) = true
      · skip
        rw [show toldB 4 a n = decide (a ≤ 18) by simp [toldB, unB, g1, g2]]
        go_enter Try.func30, Try.ntmps30
        go_wp2_with (first
          | (go_at_call 47; (with_reducible refine (flag47 _ _).mono ?_); rintro e w9 ⟨rfl, rfl⟩))
        go_ret
        exact ⟨rfl, below_alloc HB.out _⟩
      · replace g2 := Bool.eq_false_iff.mpr g2
        rw [show toldB 4 a n = false by simp [toldB, unB, g1, g2]]
        go_enter Try.func30, Try.ntmps30
        go_wp2_with (first
          | (go_at_call 47; (with_reducible refine (flag47 _ _).mono ?_); rintro e w9 ⟨rfl, rfl⟩))
        go_ret
        exact ⟨rfl, below_alloc HB.out _⟩
    · replace g1 := Bool.eq_false_iff.mpr g1
      rw [show toldB 4 a n = false by simp [toldB, unB, g1]]
      go_enter Try.func30, Try.ntmps30
      go_wp2_with (first
        | (go_at_call 47; (with_reducible refine (flag47 _ _).mono ?_); rintro e w9 ⟨rfl, rfl⟩))
      go_ret
      exact ⟨rfl, below_alloc HB.out _⟩
  have p4 : (op == 4) = false := by simp [o4]
  by_cases o5 : op = 5
  · subst o5
    by_cases g0 : decide (2 ≤ (n : Int)) = true
    · skip
      rw [show toldB 5 a n = flagB a by simp [toldB, g0]]
      go_enter Try.func30, Try.ntmps30
      go_wp2_with (first
        | (go_at_call 47; (with_reducible refine (flag47 _ _).mono ?_); rintro e w9 ⟨rfl, rfl⟩))
      go_ret
      exact ⟨rfl, below_alloc HB.out _⟩
    · replace g0 := Bool.eq_false_iff.mpr g0
      rw [show toldB 5 a n = false by simp [toldB, g0]]
      go_enter Try.func30, Try.ntmps30
      go_wp2_with (first
        | (go_at_call 47; (with_reducible refine (flag47 _ _).mono ?_); rintro e w9 ⟨rfl, rfl⟩))
      go_ret
      exact ⟨rfl, below_alloc HB.out _⟩
  have p5 : (op == 5) = false := by simp [o5]
  by_cases o6 : op = 6
  · subst o6
    by_cases g0 : ((n : Int) == 2) = true
    · skip
      rw [show toldB 6 a n = flagB a by simp [toldB, g0]]
      go_enter Try.func30, Try.ntmps30
      go_wp2_with (first
        | (go_at_call 47; (with_reducible refine (flag47 _ _).mono ?_); rintro e w9 ⟨rfl, rfl⟩))
      go_ret
      exact ⟨rfl, below_alloc HB.out _⟩
    · replace g0 := Bool.eq_false_iff.mpr g0
      rw [show toldB 6 a n = false by simp [toldB, g0]]
      go_enter Try.func30, Try.ntmps30
      go_wp2_with (first
        | (go_at_call 47; (with_reducible refine (flag47 _ _).mono ?_); rintro e w9 ⟨rfl, rfl⟩))
      go_ret
      exact ⟨rfl, below_alloc HB.out _⟩
  have p6 : (op == 6) = false := by simp [o6]
  by_cases o7 : op = 7
  · subst o7
    by_cases g0 : ((n : Int) == 3) = true
    · skip
      rw [show toldB 7 a n = flagB a by simp [toldB, g0]]
      go_enter Try.func30, Try.ntmps30
      go_wp2_with (first
        | (go_at_call 47; (with_reducible refine (flag47 _ _).mono ?_); rintro e w9 ⟨rfl, rfl⟩))
      go_ret
      exact ⟨rfl, below_alloc HB.out _⟩
    · replace g0 := Bool.eq_false_iff.mpr g0
      rw [show toldB 7 a n = false by simp [toldB, g0]]
      go_enter Try.func30, Try.ntmps30
      go_wp2_with (first
        | (go_at_call 47; (with_reducible refine (flag47 _ _).mono ?_); rintro e w9 ⟨rfl, rfl⟩))
      go_ret
      exact ⟨rfl, below_alloc HB.out _⟩
  have p7 : (op == 7) = false := by simp [o7]
  by_cases o8 : op = 8
  · subst o8
    by_cases g0 : a = 0
    · subst g0
      have hf : flagB 0 = true := rfl
      by_cases g2 : 2 ≤ (n : Int) - 0
      · have d2 : decide (2 ≤ (n : Int)) = true := decide_eq_true (by omega)
        have d3 : 0 ≤ (n : Int) - 0 := by omega
        rw [show toldB 8 0 n = ((n : Int) % 2 == 0) by simp [toldB, caseB, hf, d2]]
        clear g2 hf
        go_enter Try.func30, Try.ntmps30
        go_wp2_with (first
          | (go_at_call 47; (with_reducible refine (flag47 _ _).mono ?_); rintro e w9 ⟨rfl, rfl⟩))
        go_ret
        exact ⟨rfl, below_alloc HB.out _⟩
      · have d2 : decide (2 ≤ (n : Int)) = false := decide_eq_false (by omega)
        rw [show toldB 8 0 n = false by simp [toldB, caseB, hf, d2]]
        clear g2 hf
        go_enter Try.func30, Try.ntmps30
        go_wp2_with (first
          | (go_at_call 47; (with_reducible refine (flag47 _ _).mono ?_); rintro e w9 ⟨rfl, rfl⟩))
        go_ret
        exact ⟨rfl, below_alloc HB.out _⟩
    · by_cases g1 : a = 1
      · subst g1
        have hf : flagB 1 = true := rfl
        by_cases g2 : 2 ≤ (n : Int) - 1
        · have d2 : decide (2 ≤ ((n : Int) - 1)) = true := decide_eq_true (by omega)
          have d3 : 0 ≤ (n : Int) - 1 := by omega
          have d4 : decide (3 ≤ (n : Int)) = true := decide_eq_true (by omega)
          rw [show toldB 8 1 n = (((n : Int) - 1) % 2 == 0) by simp [toldB, caseB, hf, g2]]
          clear g2 hf
          go_enter Try.func30, Try.ntmps30
          go_wp2_with (first
            | (go_at_call 47; (with_reducible refine (flag47 _ _).mono ?_); rintro e w9 ⟨rfl, rfl⟩))
          go_ret
          exact ⟨rfl, below_alloc HB.out _⟩
        · have d2 : decide (2 ≤ ((n : Int) - 1)) = false := decide_eq_false (by omega)
          have d4 : decide (3 ≤ (n : Int)) = false := decide_eq_false (by omega)
          rw [show toldB 8 1 n = false by simp [toldB, caseB, hf, g2]]
          clear g2 hf
          go_enter Try.func30, Try.ntmps30
          go_wp2_with (first
            | (go_at_call 47; (with_reducible refine (flag47 _ _).mono ?_); rintro e w9 ⟨rfl, rfl⟩))
          go_ret
          exact ⟨rfl, below_alloc HB.out _⟩
      · have hf : flagB a = false := by simp [flagB, g0, g1]
        rw [show toldB 8 a n = false by simp [toldB, hf]]
        clear g0 g1
        go_enter Try.func30, Try.ntmps30
        go_wp2_with (first
          | (go_at_call 47; (with_reducible refine (flag47 _ _).mono ?_); rintro e w9 ⟨rfl, rfl⟩))
        go_ret
        exact ⟨rfl, below_alloc HB.out _⟩
  have p8 : (op == 8) = false := by simp [o8]
  by_cases o9 : op = 9
  · subst o9
    by_cases g0 : ((n : Int) == 1) = true
    · skip
      by_cases g1 : decide (1 ≤ a) = true
      · skip
        rw [show toldB 9 a n = decide (a ≤ 5) by simp [toldB, g0, g1]]
        go_enter Try.func30, Try.ntmps30
        go_wp2_with (first
          | (go_at_call 47; (with_reducible refine (flag47 _ _).mono ?_); rintro e w9 ⟨rfl, rfl⟩))
        go_ret
        exact ⟨rfl, below_alloc HB.out _⟩
      · replace g1 := Bool.eq_false_iff.mpr g1
        rw [show toldB 9 a n = false by simp [toldB, g0, g1]]
        go_enter Try.func30, Try.ntmps30
        go_wp2_with (first
          | (go_at_call 47; (with_reducible refine (flag47 _ _).mono ?_); rintro e w9 ⟨rfl, rfl⟩))
        go_ret
        exact ⟨rfl, below_alloc HB.out _⟩
    · replace g0 := Bool.eq_false_iff.mpr g0
      rw [show toldB 9 a n = false by simp [toldB, g0]]
      go_enter Try.func30, Try.ntmps30
      go_wp2_with (first
        | (go_at_call 47; (with_reducible refine (flag47 _ _).mono ?_); rintro e w9 ⟨rfl, rfl⟩))
      go_ret
      exact ⟨rfl, below_alloc HB.out _⟩
  have p9 : (op == 9) = false := by simp [o9]
  by_cases o10 : op = 10
  · subst o10
    by_cases g0 : decide (1 ≤ a) = true
    · skip
      rw [show toldB 10 a n = decide (a ≤ 13) by simp [toldB, g0]]
      go_enter Try.func30, Try.ntmps30
      go_wp2_with (first
        | (go_at_call 47; (with_reducible refine (flag47 _ _).mono ?_); rintro e w9 ⟨rfl, rfl⟩))
      go_ret
      exact ⟨rfl, below_alloc HB.out _⟩
    · replace g0 := Bool.eq_false_iff.mpr g0
      rw [show toldB 10 a n = false by simp [toldB, g0]]
      go_enter Try.func30, Try.ntmps30
      go_wp2_with (first
        | (go_at_call 47; (with_reducible refine (flag47 _ _).mono ?_); rintro e w9 ⟨rfl, rfl⟩))
      go_ret
      exact ⟨rfl, below_alloc HB.out _⟩
  have p10 : (op == 10) = false := by simp [o10]
  by_cases o11 : op = 11
  · subst o11
    rw [show toldB 11 a n = decide (1 ≤ (n : Int)) by simp [toldB]]
    go_enter Try.func30, Try.ntmps30
    go_wp2_with (first
      | (go_at_call 47; (with_reducible refine (flag47 _ _).mono ?_); rintro e w9 ⟨rfl, rfl⟩))
    go_ret
    exact ⟨rfl, below_alloc HB.out _⟩
  have p11 : (op == 11) = false := by simp [o11]
  by_cases o14 : op = 14
  · subst o14
    by_cases g0 : ((n : Int) == 1) = true
    · skip
      rw [show toldB 14 a n = flagB a by simp [toldB, g0]]
      go_enter Try.func30, Try.ntmps30
      go_wp2_with (first
        | (go_at_call 47; (with_reducible refine (flag47 _ _).mono ?_); rintro e w9 ⟨rfl, rfl⟩))
      go_ret
      exact ⟨rfl, below_alloc HB.out _⟩
    · replace g0 := Bool.eq_false_iff.mpr g0
      rw [show toldB 14 a n = false by simp [toldB, g0]]
      go_enter Try.func30, Try.ntmps30
      go_wp2_with (first
        | (go_at_call 47; (with_reducible refine (flag47 _ _).mono ?_); rintro e w9 ⟨rfl, rfl⟩))
      go_ret
      exact ⟨rfl, below_alloc HB.out _⟩
  have p14 : (op == 14) = false := by simp [o14]
  rw [show toldB op a n = false by simp [toldB, o1, o2, o12, o13, o3, o4, o5, o6, o7, o8, o9, o10, o11, o14]]
  clear o1 o2 o12 o13 o3 o4 o5 o6 o7 o8 o9 o10 o11 o14
  go_enter Try.func30, Try.ntmps30
  go_wp2_with (first
    | (go_at_call 47; (with_reducible refine (flag47 _ _).mono ?_); rintro e w9 ⟨rfl, rfl⟩))
  go_ret
  exact ⟨rfl, below_alloc HB.out _⟩
end Go.Proofs.Ytphlfmgllbpbhaa.QFnExactSafePlan
