/- Proved: what '[]rune(s)' makes, told in the seat's words: a row of its own with the runes of the string. -/
import Derived.Test.YtaicfmmgmblmiaaDoorWWords
import Derived.Test.YtaicfmmgmblmiaaDoorWLast
import Derived.Test.YtaicfmmgmblmiaaDoorWTab
import Derived.Test.YtaicfmmgmblmiaaDoorWFour
import Derived.Test.YtaicfmmgmblmiaaDoorWQPut
import Derived.Test.YtaicfmmgmblmiaaDoorWApart
import Derived.Test.YtaicfmmgmblmiaaDoorWArr
import Derived.Test.YtaicfmmgmblmiaaDoorWZeros
import Derived.Test.YtaicfmmgmblmiaaDoorWFoot
import Derived.Test.YtaicfmmgmblmiaaDoorWKept
import Derived.Test.YtaicfmmgmblmiaaDoorWShare
import Derived.Test.YtaicfmmgmblmiaaDoorWN
import Derived.Test.YtaicfmmgmblmiaaDoorWFootNe
import Derived.Test.YtaicfmmgmblmiaaDoorWAt
import Derived.Test.YtaicfmmgmblmiaaDoorWEqStruct
import Derived.Test.YtaicfmmgmblmiaaDoorWRepsOne
import Derived.Test.YtaicfmmgmblmiaaDoorWInv
import Derived.Test.YtaicfmmgmblmiaaDoorWInvWords
import Derived.Test.YtaicfmmgmblmiaaDoorWGuard
import Derived.Test.YtaicfmmgmblmiaaDoorWNEv
import Derived.Test.YtaicfmmgmblmiaaDoorWMore
import Derived.Laws.IdiomStrings
namespace Go.Proofs.YtaicfmmgmblmiaaDoorRunes
open Go.RowKit Go.Proofs.YtaicfmmgmblmiaaDoorW.PrintWords Go.Proofs.YtaicfmmgmblmiaaDoorW.PrintLast
theorem heap_new (w : World) (o : Obj) : (w.alloc o).heap[w.heap.size]? = some o := by
  show (w.heap.push o)[w.heap.size]? = _
  simp
/-- What '[]rune(s)' holds. -/
def runesFromL (s : ByteArray) : Nat → Nat → List Int
  | 0, _ => []
  | n + 1, i => if i < s.size then ((Utf8.decode s i).1 : Int) :: runesFromL s n (i + (Utf8.decode s i).2) else []
def runesL (s : ByteArray) : List Int := runesFromL s s.size 0

theorem runesFrom_succ (s : ByteArray) (n i : Nat) (acc : Array Value) : Conv.runesFrom s (n + 1) i acc = if i < s.size then Conv.runesFrom s n (i + (Utf8.decode s i).2) (acc.push (.int .i32 ((Utf8.decode s i).1 : Int))) else acc := rfl
theorem runesFromL_succ (s : ByteArray) (n i : Nat) : runesFromL s (n + 1) i = if i < s.size then ((Utf8.decode s i).1 : Int) :: runesFromL s n (i + (Utf8.decode s i).2) else [] := rfl
theorem push_map (acc : Array Value) (x : Int) (l : List Int) : acc.push (.int .i32 x) ++ (l.map (Value.int .i32)).toArray = acc ++ ((x :: l).map (Value.int .i32)).toArray := by
  apply Array.ext'; simp
theorem runesFrom_list (s : ByteArray) : ∀ (n i : Nat) (acc : Array Value), Conv.runesFrom s n i acc = acc ++ ((runesFromL s n i).map (Value.int .i32)).toArray
  | 0, i, acc => by simp [Conv.runesFrom, runesFromL]
  | n + 1, i, acc => by
    rw [runesFrom_succ, runesFromL_succ]
    by_cases h : i < s.size
    · rw [if_pos h, if_pos h, runesFrom_list s n]
      exact push_map _ _ _
    · rw [if_neg h, if_neg h]; simp
theorem runes_array (s : ByteArray) : Conv.runesFrom s s.size 0 #[] = ((runesL s).map (Value.int .i32)).toArray := by
  rw [runesFrom_list]; simp [runesL]
theorem runesL_le (s : ByteArray) : (runesL s).length ≤ s.size := by
  have h := size_runesFrom s s.size 0 #[]
  rw [runes_array] at h
  simpa using h

section
variable {P : Program} {ops : Array Oper} {o : Oper} {a : Act} {Q : Exit → Act → World → Prop} {rest : List Oper}
theorem R_runes {w0 W : World} (base e : Nat) (hgd : o.guard = none) {N : Tmp} (_hd : o.dst = some N) (src t : TypeId) (x : Operand) (s : ByteArray) (ho : o.op = .convert src t x) (hx : a.eval x = .string s)
    (hs : P.underlying src = some .string) (ht : P.underlying t = some (.slice e)) (he : P.underlying e = some (.int .i32)) (hl : s.size ≤ 70368744177664) (HB : Below base w0 W) (hbase : base ≤ W.heap.size)
    (h : ∀ v1 w1, Kd.R (Kd.int .i32) e w1 base (fun _ => True) v1 (runesL s) → Below base w0 w1 → W.grownBy w1 none → (∃ b, v1.ownBlock = some b ∧ W.heap.size ≤ b) → wpList P ops Q rest (a.put o.dst v1) w1) : wpList P ops Q (o :: rest) a W := by
  have hsz : (Conv.runesFrom s s.size 0 #[]).size ≤ 70368744177664 := by
    have := size_runesFrom s s.size 0 #[]
    simp at this
    omega
  have hr := run_runes_of_string (P := P) W src t e s hs ht he hsz
  have hn : (Conv.runesFrom s s.size 0 #[]).size = (runesL s).length := by rw [runes_array]; simp
  have hge := grownCap_ge W (Conv.runesFrom s s.size 0 #[]).size 0 e
  have hle := grownCap_le_maxLen W (Conv.runesFrom s s.size 0 #[]).size 0 e (by unfold maxLen; omega)
  have hown : ((W.drew).alloc (.cells (Conv.runesFrom s s.size 0 #[] ++ Array.replicate (grownCap W (Conv.runesFrom s s.size 0 #[]).size 0 e - (Conv.runesFrom s s.size 0 #[]).size) (.int .i32 0)) e)).ownsRow base e 1
      (.slice (some ⟨W.heap.size, 0, none⟩) (Conv.runesFrom s s.size 0 #[]).size (grownCap W (Conv.runesFrom s s.size 0 #[]).size 0 e)) (runesL s).length (encs (Value.int .i32) (runesL s)) := by
    refine ⟨by simp [encs], .inr ⟨W.heap.size, _, _, by rw [hn], hbase, heap_new W.drew _, by omega, hle, ?_, ?_⟩⟩
    · simp; omega
    · rw [runes_array]
      simp [encs]
  exact Kd.event_run hgd (by simp [execOp, ho, hx, hr]) (h _ _ (Kd.R_of_own (h1 := fun _ => rfl) hown (fun _ _ => trivial)) ((below_drew HB).alloc (by show base ≤ _; simpa using hbase) _)
    (grown_of_below ((below_drew (Below.refl _ _)).alloc (Nat.le_refl _) _) none) ⟨W.heap.size, by simp [Value.ownBlock], Nat.le_refl _⟩)
end

end Go.Proofs.YtaicfmmgmblmiaaDoorRunes
