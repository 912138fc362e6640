/- Proved: the card of the law FnExactLike: for every two values that can be read the law returns true, the two tables of unicode/utf8 lying as the program's text lays them. No other conditions. -/
import Derived.Test.YtaicfmmgmblmiaaDoorRows
import Derived.Test.YtaicfmmgmblmiaaDoorTie
import Derived.Test.YtaicfmmgmblmiaaDoorCards
import Derived.Test.YtaicfmmgmblmiaaDoorPureFnExactLike
import Derived.WalkKit
import Derived.ProofKit
import Derived.OpenShut
import Derived.ShutString
import Derived.ChangeOld
import Derived.Below
import Derived.SizedLaws
import Derived.LaidMore
import Derived.SevenTiedAt
import Derived.Lib.SmallJoins
import Derived.Lib.LaidU8T
import Derived.Stop.Joined
namespace Go.Proofs.YtaicfmmgmblmiaaDoor.fnExactLike
open Go Go.ChangeShapes Go.WideShapes Go.ChangeAt Go.RowKit Go.Joins Go.Shelf
open Go.ChangeMaps (open_string shut_string)
open Go.Proofs.YtaicfmmgmblmiaaDoorExt

theorem own : ownKnob Tryd.prog.godebug = none := by kernel_rfl
/-- The witness: the settled world, the two tables in it. -/
noncomputable def laidWorld (os : Os) : World :=
  let w0 := World.holding Tryd.prog os ⟨#[], #[], []⟩
  let put (h : Array Obj) (g : Nat) (cs : Array Value) : Array Obj := h.modify g fun
    | .cells _ t frozen => .cells cs t frozen
    | o => o
  let h1 := put w0.heap 0 (Lib.firstTab.map fun z => Value.int .u8 z).toArray
  let h2 := put h1 1 ((List.range 16).flatMap fun i => [Value.int .u8 (Lib.accLo i), Value.int .u8 (Lib.accHi i)]).toArray
  { w0 with heap := h2 }
theorem laid_met (os : Os) (args : Array Value) : laidMetH Tryd.prog Rows.fnExactLikeRow.laid ((laidWorld os).forCall (fun _ _ => 0) ⟨#[], args, []⟩).memory :=
  laidMetH_of_parts3 (fuel := 8) (laidMet_of_run' 8 (by kernel_rfl) (by kernel_rfl)) (by kernel_rfl) (by kernel_rfl)

theorem tabs_of_laid {W : World} (h : laidMetH Tryd.prog Rows.fnExactLikeRow.laid W) : Tabs W := by
  rw [MakeChecks.laidMetH_plain _ _ _ (by kernel_rfl)] at h
  have e1 : Rows.laid_unicode_utf8_acceptRanges = Lib.acceptData := by kernel_rfl
  have e2 : Rows.laid_unicode_utf8_first = Lib.firstData := by kernel_rfl
  exact utf8Tabs_of_readsT (U8Types.of196 laysValid) ⟨by kernel_rfl, by kernel_rfl, by kernel_rfl, by kernel_rfl, by kernel_rfl, by kernel_rfl, by kernel_rfl⟩
    (Lib.laidMet.reads h (by rw [← e2]; exact .tail _ (.head _))) (Lib.laidMet.reads h (by rw [← e1]; exact .head _))

theorem tr_int {H : Type} {enc : TypeId × Value → H} {W : World} {base : Nat} {sp : Nat → Bool} {held : Bool} {a : Int} (w0 : (Lit.int .i64 a).wf = true) : DataW.trod enc Tryd.prog W base sp held 1 3 [.int .i64 a] = some (.lit (.int .i64 a), []) := by
  simp [DataW.trod, Tryd.underlying3, w0]
theorem tr_string {H : Type} {enc : TypeId × Value → H} {W : World} {base : Nat} {sp : Nat → Bool} {held : Bool} {s : ByteArray} (w0 : s.size ≤ maxLen) : DataW.trod enc Tryd.prog W base sp held 1 9 [.string s] = some (.lit (.string s.data.toList), []) := by
  simp [DataW.trod, Tryd.underlying9, w0]
theorem cells23 : Tryd.prog.cellsOf 23 = 3 := by kernel_rfl
/-- A value of the laws' own type, opened. -/
theorem open_value {H : Type} {enc : TypeId × Value → H} {W : World} {base base2 : Nat} {sp : Nat → Bool} {held : Bool} {v : Value} {d : DataW H} {ps : List MemPlace} (hv : Value.okWide Tryd.prog W .any base2 23 v)
    (h : ∃ fuel, DataW.trod enc Tryd.prog W base sp held fuel 23 v.cells.toList = some (d, ps)) :
    ∃ (s : ByteArray) (a b : Int), v = .agg #[.int .i64 a, .int .i64 b, .string s] ∧ d = .agg [.lit (.int .i64 a), .lit (.int .i64 b), .lit (.string s.data.toList)] ∧ ps = [] ∧
      (Lit.int .i64 a).wf = true ∧ (Lit.int .i64 b).wf = true ∧ s.size ≤ maxLen ∧ s.data.toList.length ∈ DataW.weights Tryd.prog 23 d := by
  obtain ⟨c0, c1, c2, y0, y1, y2, m, rfl, rfl, rfl, hy0, hy1, hy2⟩ := open_agg3 Tryd.underlying23 (by kernel_rfl) cells23 hv h
  obtain ⟨a, e0, rfl, w0⟩ := DataW.trod_int Tryd.underlying3 hy0
  obtain ⟨b, e1, rfl, w1⟩ := DataW.trod_int Tryd.underlying3 hy1
  obtain ⟨s, e2, rfl, w2⟩ := DataW.trod_string Tryd.underlying9 hy2
  simp only [List.cons.injEq, and_true] at e0 e1 e2
  subst e0 e1 e2
  have h1 : s.data.toList.length ∈ DataW.weightsEach Tryd.prog [3, 3, 9] [DataW.lit (H := H) (Lit.int IntKind.i64 a), DataW.lit (Lit.int IntKind.i64 b), DataW.lit (Lit.string s.data.toList)] :=
    DataW.weights_mem_each (j := 2) (t := 9) rfl rfl _ (by simp [DataW.weights])
  exact ⟨s, a, b, rfl, rfl, rfl, w0, w1, w2, by simpa [DataW.weights, Tryd.underlying23] using h1⟩
theorem shut_value {H : Type} {enc : TypeId × Value → H} {W : World} {base : Nat} {sp : Nat → Bool} {held : Bool} {a b : Int} {s : ByteArray} (w0 : (Lit.int .i64 a).wf = true) (w1 : (Lit.int .i64 b).wf = true) (w2 : s.size ≤ maxLen) :
    ∃ fuel, DataW.trod enc Tryd.prog W base sp held fuel 23 (Value.agg #[.int .i64 a, .int .i64 b, .string s]).cells.toList = some (.agg [.lit (.int .i64 a), .lit (.int .i64 b), .lit (.string s.data.toList)], []) :=
  shut_agg3 (y0 := (.lit (.int .i64 a), [])) (y1 := (.lit (.int .i64 b), [])) (y2 := (.lit (.string s.data.toList), [])) Tryd.underlying23 (by kernel_rfl) cells23 ⟨1, tr_int w0⟩ ⟨1, tr_int w1⟩ ⟨1, tr_string w2⟩
set_option maxRecDepth 100000 in
theorem lifted (os : Os) (started : os.Started) (H : Type) (enc : TypeId × Value → H) :
    ReturnsInHanded {} Tryd.checked os 3 .any (fun w args => (Rows.fnExactLikeSpec.pre enc Tryd.prog Tryd.f3 [] false w args ∧ laidMetH Tryd.prog Rows.fnExactLikeRow.laid w) ∧ sizedMet enc Tryd.prog Tryd.f3 (OpenSpec.ofChange Rows.fnExactLikeSpec) false w args)
      (Rows.fnExactLikeSpec.post enc Tryd.prog Tryd.f3 false true false false) := by
  refine returnsInHanded_of_change_and (C := Tryd.checked) (X := fun w _ => laidMetH Tryd.prog Rows.fnExactLikeRow.laid w) (fun _ _ _ hh h => h.of_heap hh) own started (by kernel_rfl) Tryd.func3
    (ChangeSpec.witness_shaped (enc := enc) (C := Tryd.checked) (os := os) (X := fun w _ => laidMetH Tryd.prog Rows.fnExactLikeRow.laid w) false (laidWorld os) #[.agg #[.int .i64 0, .int .i64 0, .string ⟨#[]⟩], .agg #[.int .i64 0, .int .i64 0, .string ⟨#[]⟩]] 8 rfl (World.shaped_of_RefB (by kernel_rfl) (by kernel_rfl)) (by kernel_rfl) (by kernel_rfl) (by kernel_rfl) (laid_met os _)) ?_
  intro W base args ds gs before hval0 hW hcnd hsz0 hL _
  have hsz : (DataW.weightsEach Tryd.prog (Tryd.f3.params.toList ++ Rows.fnExactLikeSpec.plain.varTypes Tryd.prog) (ds ++ gs)).all (· ≤ reachBytes) = true := hsz0
  have hval : ∀ (j : Nat) t v, Tryd.f3.params[j]? = some t → args[j]? = some v → Value.okWide Tryd.prog W .any base t v := hval0
  have hW' := hW
  obtain ⟨p, q, hA0, hV, rfl, hfz, hnd⟩ := hW
  have hA : DataW.TrodAll enc Tryd.prog W 0 (fun _ => true) true Tryd.f3.params.toList args.toList ds p := hA0
  rw [Tryd.params3] at hA hval hsz
  obtain ⟨v0, vs0, d0, ds0, p0, q0, hargs, rfl, rfl, h0, r0⟩ := trodAll_cons hA
  obtain ⟨v1, vs1, d1, ds1, p1, q1, rfl, rfl, rfl, h1, r1⟩ := trodAll_cons r0
  obtain ⟨rfl, rfl, rfl⟩ := trodAll_nil r1
  obtain rfl : args = #[v0, v1] := by cases args; simp_all
  obtain ⟨rfl, rfl⟩ := trodVars_none hV
  obtain ⟨s0, a0, b0, rfl, rfl, rfl, u0, u1, u2, l0⟩ := open_value (hval 0 23 v0 rfl rfl) h0
  obtain ⟨s1, a1, b1, rfl, rfl, rfl, u3, u4, u5, l1⟩ := open_value (hval 1 23 v1 rfl rfl) h1
  have g0 : s0.size ≤ 140737488351232 := by
    have := List.all_eq_true.1 hsz _ (DataW.weights_mem_each (j := 0) (t := 23) rfl rfl _ l0)
    have h2 : s0.data.toList.length ≤ reachBytes := of_decide_eq_true this
    have h3 : s0.data.toList.length = s0.size := by simp
    have h4 : reachBytes = 140737488351232 := by decide
    omega
  have g1 : s1.size ≤ 140737488351232 := by
    have := List.all_eq_true.1 hsz _ (DataW.weights_mem_each (j := 1) (t := 23) rfl rfl _ l1)
    have h2 : s1.data.toList.length ≤ reachBytes := of_decide_eq_true this
    have h3 : s1.data.toList.length = s1.size := by simp
    have h4 : reachBytes = 140737488351232 := by decide
    omega
  clear hA0 hval0 hsz0 hsz
  obtain ⟨k, hk⟩ := Pure.FnExactLike a0 b0 s0 a1 b1 s1 g0 g1
  refine (QFnExactLike.laws_FnExactLike.calls k a0 b0 s0 a1 b1 s1 W (tabs_of_laid hL) hk).mono fun e W' ⟨he, bel⟩ => ?_
  subst he
  exact ⟨_, rfl, _, _, _, [], _, [], hW', trodAll_mk1 (shut_bool Tryd.underlying4 _), trodAll_cons_mk (shut_value u0 u1 u2) (trodAll_cons_mk (shut_value u3 u4 u5) trodAll_mk0), rfl, bel.frame _, fun h => by cases h⟩

theorem row_holds : Rows.FnExactLikeSaid :=
  OpenClaim.holds_of_wide 3 Tryd.f3 rfl rfl rfl rfl rfl rfl rfl ⟨rfl, rfl, rfl, rfl, rfl⟩ rfl rfl rfl rfl rfl (by kernel_rfl) Tryd.func3 (by kernel_rfl)
    (of_decide_eq_true (by kernel_rfl)) (by unfold Func.isWrapper; first | (rw [if_pos (by decide +kernel)]; kernel_rfl) | (rw [if_neg (by decide +kernel)]; exact ⟨rfl, rfl⟩))
    (fun os started H enc _ => lifted os started H enc)

theorem proved : Rows.FnExactLikeCardSaid :=
  Claim7.holds_tied_plain_at .later [] [.data, .pinned] true (true, "478e2dd7c459caec18982e74b1ccb4ded59a4a3cf970842fd547ccb902758370") false
    row_holds (fun _ h => by cases h) (by kernel_rfl) (fun _ h => by cases h) fnExactLike_row_tie rfl ⟨rfl, rfl⟩ (by kernel_rfl) rfl
    (fun f fn hf hfn => by
      obtain rfl : f = 3 := Option.some.inj ((show Tryd.prog.funcNamed "loop.example/g00001/laws.FnExactLike" = some 3 by kernel_rfl).symm.trans hf) |>.symm
      obtain rfl : fn = Tryd.f3 := (Option.some.inj (Tryd.func3.symm.trans hfn)).symm
      exact ⟨by kernel_rfl, fun j t ht => by
        rw [Tryd.params3] at ht
        have hm : t ∈ [23] := by simpa using Array.mem_of_getElem? ht
        have hall : ([23].all fun u => !Tryd.prog.wantsStandIn u) = true := by kernel_rfl
        exact (show Tryd.prog.wantsStandIn t = false by simpa using List.all_eq_true.1 hall t hm)⟩)
    (by kernel_rfl)
#print axioms proved
end Go.Proofs.YtaicfmmgmblmiaaDoor.fnExactLike
namespace Go.Proofs.YtaicfmmgmblmiaaDoor
/-- The card, under a short name, for the claim. -/
theorem fnExactLike_holds : Rows.FnExactLikeCardSaid := fnExactLike.proved
end Go.Proofs.YtaicfmmgmblmiaaDoor
