/- Proved: the card of the law FnExactRowBytes: for every row of values that can be read the law returns true, the two tables of unicode/utf8 lying as the program's text lays them. No other conditions. -/
import Derived.Test.YtaicfmmgmblmiaaDoorRows
import Derived.Test.YtaicfmmgmblmiaaDoorTie
import Derived.Test.YtaicfmmgmblmiaaDoorCards
import Derived.Test.YtaicfmmgmblmiaaDoorPureFnExactRowBytes
import Derived.Deep.Slices
import Derived.Deep.Strs
import Derived.Carry
import Derived.WalkKit
import Derived.ProofKit
import Derived.OpenShut
import Derived.ShutString
import Derived.ChangeOld
import Derived.Below
import Derived.SizedLaws
import Derived.LaidMore
import Derived.SevenTiedAt
import Derived.Lib.SmallJoins
import Derived.Lib.LaidU8T
import Derived.Stop.Joined
namespace Go.Proofs.YtaicfmmgmblmiaaDoor.fnExactRowBytes
open Go Go.Deep Go.ChangeShapes Go.WideShapes Go.ChangeAt Go.RowKit Go.Joins Go.Shelf
open Go.ChangeMaps (open_string shut_string)
open Go.Proofs.YtaicfmmgmblmiaaDoorExt

theorem own : ownKnob Tryd.prog.godebug = none := by kernel_rfl
/-- The witness: the settled world, the two tables in it. -/
noncomputable def laidWorld (os : Os) : World :=
  let w0 := World.holding Tryd.prog os ⟨#[], #[], []⟩
  let put (h : Array Obj) (g : Nat) (cs : Array Value) : Array Obj := h.modify g fun
    | .cells _ t frozen => .cells cs t frozen
    | o => o
  let h1 := put w0.heap 0 (Lib.firstTab.map fun z => Value.int .u8 z).toArray
  let h2 := put h1 1 ((List.range 16).flatMap fun i => [Value.int .u8 (Lib.accLo i), Value.int .u8 (Lib.accHi i)]).toArray
  { w0 with heap := h2 }
theorem laid_met (os : Os) (args : Array Value) : laidMetH Tryd.prog Rows.fnExactRowBytesRow.laid ((laidWorld os).forCall (fun _ _ => 0) ⟨#[], args, []⟩).memory :=
  laidMetH_of_parts3 (fuel := 8) (laidMet_of_run' 8 (by kernel_rfl) (by kernel_rfl)) (by kernel_rfl) (by kernel_rfl)

theorem tabs_of_laid {W : World} (h : laidMetH Tryd.prog Rows.fnExactRowBytesRow.laid W) : Tabs W := by
  rw [MakeChecks.laidMetH_plain _ _ _ (by kernel_rfl)] at h
  have e1 : Rows.laid_unicode_utf8_acceptRanges = Lib.acceptData := by kernel_rfl
  have e2 : Rows.laid_unicode_utf8_first = Lib.firstData := by kernel_rfl
  exact utf8Tabs_of_readsT (U8Types.of196 laysValid) ⟨by kernel_rfl, by kernel_rfl, by kernel_rfl, by kernel_rfl, by kernel_rfl, by kernel_rfl, by kernel_rfl⟩
    (Lib.laidMet.reads h (by rw [← e2]; exact .tail _ (.head _))) (Lib.laidMet.reads h (by rw [← e1]; exact .head _))

theorem tr_int {H : Type} {enc : TypeId × Value → H} {W : World} {base : Nat} {sp : Nat → Bool} {held : Bool} {a : Int} (w0 : (Lit.int .i64 a).wf = true) : DataW.trod enc Tryd.prog W base sp held 1 3 [.int .i64 a] = some (.lit (.int .i64 a), []) := by
  simp [DataW.trod, Tryd.underlying3, w0]
theorem tr_string {H : Type} {enc : TypeId × Value → H} {W : World} {base : Nat} {sp : Nat → Bool} {held : Bool} {s : ByteArray} (w0 : s.size ≤ maxLen) : DataW.trod enc Tryd.prog W base sp held 1 9 [.string s] = some (.lit (.string s.data.toList), []) := by
  simp [DataW.trod, Tryd.underlying9, w0]
theorem cells23 : Tryd.prog.cellsOf 23 = 3 := by kernel_rfl
theorem cells31 : Tryd.prog.cellsOf 3 = 1 ∧ Tryd.prog.cellsOf 9 = 1 := ⟨by kernel_rfl, by kernel_rfl⟩
theorem laidOut : laidOutB Tryd.prog = true := by kernel_rfl
theorem mem_all {H : Type} {P : Program} {e : TypeId} {x : Nat} {d : DataW H} : ∀ {l : List (DataW H)}, d ∈ l → x ∈ d.weights P e → x ∈ DataW.weightsAll P e l
  | [], h, _ => by cases h
  | c :: r, h, hx => by
    unfold DataW.weightsAll
    rcases List.mem_cons.mp h with rfl | h
    · exact List.mem_append_left _ hx
    · exact List.mem_append_right _ (mem_all h hx)
open Go.Proofs.YtaicfmmgmblmiaaDoor.QFnExactRowBytes Go.Proofs.YtaicfmmgmblmiaaDoorW.PrintWords in
/-- One value of the row, opened. -/
theorem open_one {H : Type} {enc : TypeId × Value → H} {W : World} {base : Nat} {sp : Nat → Bool} {held : Bool} {a : Addr} {i n : Nat} {cs : List Value} {x : DataW H × List MemPlace}
    (hc : W.cells? base (a.add (i * 3)) 3 = some cs) (h : DataW.trod enc Tryd.prog W base sp held n 23 cs = some x) :
    ∃ s : S23, (∀ j u, [Value.int .i64 s.f0, .int .i64 s.f1, .string s.f2][j]? = some u → W.cell? (a.add (i * 3 + j)) = some u) ∧ (Lit.int .i64 s.f1).wf = true ∧ s.f2.data.toList.length ∈ x.1.weights Tryd.prog 23 := by
  obtain ⟨y0, y1, y2, m, rfl, hl, h0, h1, h2⟩ := trod_struct3 Tryd.underlying23 h
  obtain ⟨_, hlen, hat⟩ := World.cells?_some hc
  match cs, hlen with
  | [c0, c1, c2], _ =>
    simp only [cells31.1, cells31.2, List.drop_zero, List.drop_succ_cons, List.take_succ_cons, List.take_zero] at h0 h1 h2
    obtain ⟨f0, e0, rfl, w0⟩ := DataW.trod_int Tryd.underlying3 h0
    obtain ⟨f1, e1, rfl, w1⟩ := DataW.trod_int Tryd.underlying3 h1
    obtain ⟨f2, e2, rfl, w2⟩ := DataW.trod_string Tryd.underlying9 h2
    simp only [List.cons.injEq, and_true] at e0 e1 e2
    subst e0 e1 e2
    refine ⟨⟨f0, f1, f2⟩, fun j u hu => ?_, w1, ?_⟩
    · have hj : j < 3 := (List.getElem?_eq_some_iff.1 hu).1
      have e := hat j hj
      rw [← hu]
      rw [← e, Go.Deep.add_add]
    · have hm : f2.data.toList.length ∈ DataW.weightsEach Tryd.prog [3, 3, 9] [DataW.lit (H := H) (Lit.int IntKind.i64 f0), DataW.lit (Lit.int IntKind.i64 f1), DataW.lit (Lit.string f2.data.toList)] :=
        DataW.weights_mem_each (j := 2) (t := 9) rfl rfl _ (by simp [DataW.weights])
      simpa [DataW.weights, Tryd.underlying23] using hm
open Go.Proofs.YtaicfmmgmblmiaaDoor.QFnExactRowBytes Go.Proofs.YtaicfmmgmblmiaaDoorW.PrintWords in
/-- A row of values, opened. -/
theorem open_values {H : Type} {enc : TypeId × Value → H} {W : World} {base b2 : Nat} {sp : Nat → Bool} {held : Bool} {v : Value} {d : DataW H} {ps : List MemPlace} (hv : Value.okWide Tryd.prog W .any b2 31 v)
    (h : ∃ fuel, DataW.trod enc Tryd.prog W base sp held fuel 31 v.cells.toList = some (d, ps)) :
    ∃ (A : Option Addr) (l : List S23) (cap : Nat), v = .slice A l.length cap ∧ l.length ≤ cap ∧ cap ≤ maxLen ∧ Kd.C k23 W A l.length l ∧ (l.length = 0 ∨ ∃ z, z ∈ d.weights Tryd.prog 31 ∧ l.length ≤ z) ∧
      ∀ i, i < l.length → (Lit.int .i64 (l.getD i z23).f1).wf = true ∧ (l.getD i z23).f2.data.toList.length ∈ d.weights Tryd.prog 31 := by
  obtain ⟨A, len, cap, rfl⟩ := okWide_slice Tryd.underlying31 hv
  obtain ⟨fuel, hf⟩ := h
  rcases Go.Deep.open_slice Tryd.underlying31 hf with ⟨hcs, _⟩ | ⟨a, l', c', m, n, DD, Pl, hcs, _, hl, hm, hmm, hx, hi⟩
  · simp [Value.cells] at hcs
    obtain ⟨rfl, rfl, rfl⟩ := hcs
    exact ⟨none, [], 0, rfl, Nat.le_refl _, by decide, ⟨rfl, by decide, fun h => absurd h (by decide)⟩, .inl rfl, fun i h => absurd h (Nat.not_lt_zero _)⟩
  · simp [Value.cells] at hcs
    obtain ⟨rfl, rfl, rfl⟩ := hcs
    obtain ⟨rfl, _⟩ := Prod.mk.inj hx
    have hml : len ≤ m := by
      rw [hmm]; split
      · exact hl
      · exact Nat.le_refl _
    have hC : Tryd.prog.cellsOf 23 = 3 := cells23
    have each : ∀ i, ∃ s : S23, i < len → (∀ j u, [Value.int .i64 s.f0, .int .i64 s.f1, .string s.f2][j]? = some u → W.cell? (a.add (i * 3 + j)) = some u) ∧ (Lit.int .i64 s.f1).wf = true ∧ s.f2.data.toList.length ∈ (DD i).weights Tryd.prog 23 := by
      intro i
      by_cases hlt : i < len
      · obtain ⟨cs', hc, ht⟩ := hi i (by omega)
        rw [hC] at hc
        obtain ⟨s, h1, h2, h3⟩ := open_one hc ht
        exact ⟨s, fun _ => ⟨h1, h2, h3⟩⟩
      · exact ⟨z23, fun h => absurd h hlt⟩
    obtain ⟨F, hF⟩ : ∃ F : Nat → S23, ∀ i, i < len → (∀ j u, [Value.int .i64 (F i).f0, .int .i64 (F i).f1, .string (F i).f2][j]? = some u → W.cell? (a.add (i * 3 + j)) = some u) ∧ (Lit.int .i64 (F i).f1).wf = true ∧ (F i).f2.data.toList.length ∈ (DD i).weights Tryd.prog 23 :=
      ⟨fun i => Classical.choose (each i), fun i => Classical.choose_spec (each i)⟩
    have hlen : ((List.range len).map F).length = len := by simp
    refine ⟨some a, (List.range len).map F, cap, by rw [hlen], by rw [hlen]; exact hl, hm, ⟨rfl, by rw [hlen]; have : maxLen = 9223372036854775807 := rfl; omega, fun _ => ⟨a, rfl, fun j p hp => ?_⟩⟩, .inr ⟨_, by simp only [DataW.weights, Tryd.underlying31]; exact List.mem_cons_self, ?_⟩, fun i hlt => ?_⟩
    · have hj : j < len := by
        have := (List.getElem?_eq_some_iff.1 hp).1
        rw [hlen] at this; exact this
      have hpe : p = F j := by
        rw [List.getElem?_map, List.getElem?_range hj] at hp
        exact (Option.some.inj hp).symm
      subst hpe
      exact ⟨_, rfl, k23_mk W _, (hF j hj).1⟩
    · have hb : Tryd.prog.bytesOf 23 = 32 := by kernel_rfl
      rw [hb, hlen, List.length_map, List.length_range]
      omega
    · rw [hlen] at hlt
      have e : ((List.range len).map F).getD i z23 = F i := by simp [List.getD, hlt]
      rw [e]
      refine ⟨(hF i hlt).2.1, ?_⟩
      simp only [DataW.weights, Tryd.underlying31]
      refine List.mem_cons_of_mem _ (List.mem_append_left _ (mem_all (d := DD i) ?_ (hF i hlt).2.2))
      exact List.mem_map.2 ⟨i, List.mem_range.2 hlt, rfl⟩
set_option maxRecDepth 100000 in
theorem lifted (os : Os) (started : os.Started) (H : Type) (enc : TypeId × Value → H) :
    ReturnsInHanded {} Tryd.checked os 4 .any (fun w args => (Rows.fnExactRowBytesSpec.pre enc Tryd.prog Tryd.f4 [] false w args ∧ laidMetH Tryd.prog Rows.fnExactRowBytesRow.laid w) ∧ sizedMet enc Tryd.prog Tryd.f4 (OpenSpec.ofChange Rows.fnExactRowBytesSpec) false w args)
      (Rows.fnExactRowBytesSpec.post enc Tryd.prog Tryd.f4 false true false false) := by
  refine returnsInHanded_of_change_and (C := Tryd.checked) (X := fun w _ => laidMetH Tryd.prog Rows.fnExactRowBytesRow.laid w) (fun _ _ _ hh h => h.of_heap hh) own started (by kernel_rfl) Tryd.func4
    (ChangeSpec.witness_shaped (enc := enc) (C := Tryd.checked) (os := os) (X := fun w _ => laidMetH Tryd.prog Rows.fnExactRowBytesRow.laid w) false (laidWorld os) #[.slice none 0 0] 8 rfl (World.shaped_of_RefB (by kernel_rfl) (by kernel_rfl)) (by kernel_rfl) (by kernel_rfl) (by kernel_rfl) (laid_met os _)) ?_
  intro W base args ds gs before hval0 hW hcnd hsz0 hL _
  have hsz : (DataW.weightsEach Tryd.prog (Tryd.f4.params.toList ++ Rows.fnExactRowBytesSpec.plain.varTypes Tryd.prog) (ds ++ gs)).all (· ≤ reachBytes) = true := hsz0
  have hval : ∀ (j : Nat) t v, Tryd.f4.params[j]? = some t → args[j]? = some v → Value.okWide Tryd.prog W .any base t v := hval0
  have hW' := hW
  obtain ⟨p, q, hA0, hV, rfl, hfz, hnd⟩ := hW
  have hA : DataW.TrodAll enc Tryd.prog W 0 (fun _ => true) true Tryd.f4.params.toList args.toList ds p := hA0
  rw [Tryd.params4] at hA hval hsz
  obtain ⟨v0, d0, rfl, rfl, h0⟩ := trodAll_one hA
  obtain ⟨rfl, rfl⟩ := trodVars_none hV
  have k0 := h0
  have lt0 : ∀ x ∈ p, x.block < W.heap.size := by obtain ⟨m, hm⟩ := k0; exact DataW.trod_lt m _ _ _ hm
  obtain ⟨A, l, cap, rfl, hlc, hcm, hC, hz, hall⟩ := open_values (hval 0 31 v0 rfl rfl) h0
  have hs : ∀ i, i < l.length → (l.getD i QFnExactRowBytes.z23).f2.size ≤ 140737488351232 := by
    intro i hi
    have := List.all_eq_true.1 hsz _ (DataW.weights_mem_each (j := 0) (t := 31) rfl rfl _ (hall i hi).2)
    have h2 : (l.getD i QFnExactRowBytes.z23).f2.data.toList.length ≤ reachBytes := of_decide_eq_true this
    have h3 : (l.getD i QFnExactRowBytes.z23).f2.data.toList.length = (l.getD i QFnExactRowBytes.z23).f2.size := by simp
    have h4 : reachBytes = 140737488351232 := by decide
    omega
  have hn : ∀ i, i < l.length → -9223372036854775808 ≤ (l.getD i QFnExactRowBytes.z23).f1 ∧ (l.getD i QFnExactRowBytes.z23).f1 ≤ 9223372036854775807 := by
    intro i hi
    have := (hall i hi).1
    simpa [Lit.wf, IntKind.min, IntKind.max, IntKind.signed, IntKind.bits] using this
  have hlen : l.length ≤ 281474976710656 := by
    rcases hz with hz | ⟨z, hz, hle⟩
    · omega
    · have h2 : z ≤ reachBytes := of_decide_eq_true (List.all_eq_true.1 hsz _ (DataW.weights_mem_each (j := 0) (t := 31) rfl rfl _ hz))
      have h4 : reachBytes = 140737488351232 := by decide
      omega
  clear hA0 hval0 hsz0 hsz
  obtain ⟨k, hk⟩ := PureFnExactRowBytes.FnExactRowBytes l hlen hs hn
  refine (QFnExactRowBytes.laws_FnExactRowBytes.calls k A cap l true W (tabs_of_laid hL) hC hlc hk).mono fun e W' ⟨he, bel⟩ => ?_
  subst he
  exact ⟨_, rfl, _, _, _, [], _, [], hW', trodAll_mk1 (shut_bool Tryd.underlying4 _), (trodAll_cons_mk (Below.trod laidOut (by kernel_rfl) (of_decide_eq_true (by kernel_rfl)) k0 bel lt0) trodAll_mk0), rfl, bel.frame _, fun h => by cases h⟩

theorem row_holds : Rows.FnExactRowBytesSaid :=
  OpenClaim.holds_of_wide 4 Tryd.f4 rfl rfl rfl rfl rfl rfl rfl ⟨rfl, rfl, rfl, rfl, rfl⟩ rfl rfl rfl rfl rfl (by kernel_rfl) Tryd.func4 (by kernel_rfl)
    (of_decide_eq_true (by kernel_rfl)) (by unfold Func.isWrapper; first | (rw [if_pos (by decide +kernel)]; kernel_rfl) | (rw [if_neg (by decide +kernel)]; exact ⟨rfl, rfl⟩))
    (fun os started H enc _ => lifted os started H enc)

theorem proved : Rows.FnExactRowBytesCardSaid :=
  Claim7.holds_tied_plain_at .later [] [.data, .pinned] true (true, "478e2dd7c459caec18982e74b1ccb4ded59a4a3cf970842fd547ccb902758370") false
    row_holds (fun _ h => by cases h) (by kernel_rfl) (fun _ h => by cases h) fnExactRowBytes_row_tie rfl ⟨rfl, rfl⟩ (by kernel_rfl) rfl
    (fun f fn hf hfn => by
      obtain rfl : f = 4 := Option.some.inj ((show Tryd.prog.funcNamed "loop.example/g00001/laws.FnExactRowBytes" = some 4 by kernel_rfl).symm.trans hf) |>.symm
      obtain rfl : fn = Tryd.f4 := (Option.some.inj (Tryd.func4.symm.trans hfn)).symm
      exact ⟨by kernel_rfl, fun j t ht => by
        rw [Tryd.params4] at ht
        have hm : t ∈ [31] := by simpa using Array.mem_of_getElem? ht
        have hall : ([31].all fun u => !Tryd.prog.wantsStandIn u) = true := by kernel_rfl
        exact (show Tryd.prog.wantsStandIn t = false by simpa using List.all_eq_true.1 hall t hm)⟩)
    (by kernel_rfl)
#print axioms proved
end Go.Proofs.YtaicfmmgmblmiaaDoor.fnExactRowBytes
namespace Go.Proofs.YtaicfmmgmblmiaaDoor
/-- The card, under a short name, for the claim. -/
theorem fnExactRowBytes_holds : Rows.FnExactRowBytesCardSaid := fnExactRowBytes.proved
end Go.Proofs.YtaicfmmgmblmiaaDoor
