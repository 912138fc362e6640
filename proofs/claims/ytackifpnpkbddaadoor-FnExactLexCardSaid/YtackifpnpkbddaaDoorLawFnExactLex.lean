/- Proved: the card of the law FnExactLex: for every text the law returns true, the listed variables lying as the program's text lays them. No other conditions. -/
import Derived.Test.YtackifpnpkbddaaDoorRows
import Derived.Test.YtackifpnpkbddaaDoorTie
import Derived.Test.YtackifpnpkbddaaDoorCards
import Derived.Test.YtackifpnpkbddaaDoorPureFnExactLex
import Derived.WalkKit
import Derived.ProofKit
import Derived.OpenShut
import Derived.ShutString
import Derived.ChangeOld
import Derived.Below
import Derived.SizedLaws
import Derived.LaidMore
import Derived.Lay
import Derived.OpenVars
import Derived.SliceStrings
import Derived.PinnedBridge
import Derived.SevenTiedAt
import Derived.Lib.SmallJoins
import Derived.Lib.LaidU8T
import Derived.Stop.Joined
set_option linter.unusedVariables false
set_option linter.unusedSimpArgs false
namespace Go.Proofs.YtackifpnpkbddaaDoor.fnExactLex
open Go Go.ChangeShapes Go.WideShapes Go.ChangeAt Go.RowKit Go.Joins Go.Shelf
open Go.ChangeMaps (open_string shut_string)
open Go.Proofs.YtackifpnpkbddaaDoorScan

theorem own : ownKnob Tryd.prog.godebug = none := by kernel_rfl
theorem laidOut : laidOutB Tryd.prog = true := by kernel_rfl
/-- A row of strings that is listed: where it lies. -/
theorem row_of_reads {w : World} {name : String} {g t e : Nat} {ls : List ByteArray} (hg : Tryd.prog.globalNamed name = some g) (hy : (Tryd.prog.globals[g]?).map (·.type) = some t)
  (ht : Tryd.prog.underlying t = some (.slice e)) (he : Tryd.prog.underlying e = some .string) (hc : Tryd.prog.cellsOf e = 1)
  (h0l : 0 < ls.length) (h : Lib.VarReads Tryd.prog w name (.slice (ls.map fun x => .lit (.string x.data.toList)) [])) :
  ∃ b o c, w.cell? ⟨g, 0, none⟩ = some (.slice (some ⟨b, o, none⟩) ls.length c) ∧ ∀ j x, ls[j]? = some x → w.cell? ⟨b, o + j, none⟩ = some (.string x) := by
 obtain ⟨g', t', cs, fuel, p, h1, h2, h3, h4⟩ := h
 obtain rfl := Option.some.inj (hg.symm.trans h1)
 obtain rfl := Option.some.inj (hy.symm.trans h2)
 have hcell := World.var?_cell hg h3 0
 rcases open_strings ht he hc h4 with ⟨_, hx⟩ | ⟨a, len, cap, ss, hcs, _, hl, hm, hz, hx, hel, hw⟩
 ·cases hx
 ·simp only [if_true] at hz
  simp only [Prod.mk.injEq, DataW.slice.injEq] at hx
  obtain ⟨⟨hx1, hx2⟩, _⟩ := hx
  have hlen : ls.length = len := by
   have := congrArg List.length hx1
   simp [strs] at this
   omega
  obtain ⟨b, o, sp⟩ := a
  have c0 : w.cell? ⟨g, 0, none⟩ = some (.slice (some ⟨b, o, sp⟩) len cap) := by rw [hcell, ← Array.getElem?_toList, hcs]; rfl
  have each : ∀ j x, ls[j]? = some x → w.cell? ((⟨b, o, sp⟩ : Addr).add j) = some (.string x) := fun j x hj => by
   have hjl : j < ls.length := (List.getElem?_eq_some_iff.1 hj).1
   have e2 := congrArg (fun l => l[j]?) hx1
   simp only [strs, List.getElem?_map, hj, Option.map_some] at e2
   rw [List.getElem?_take_of_lt (by omega), List.getElem?_eq_getElem (by omega : j < ss.length)] at e2
   simp only [Option.map_some, Option.some.injEq, DataW.lit.injEq, Lit.string.injEq] at e2
   rw [hel j (by omega), List.getD, List.getElem?_eq_getElem (by omega : j < ss.length)]
   show some (Value.string ss[j]) = _
   have : ss[j] = x := by
    have e3 : ss[j].data = x.data := by rw [← Array.toArray_toList (xs := ss[j].data), ← e2, Array.toArray_toList]
    cases hs : ss[j]; cases x
    rw [hs] at e3; simp only at e3; rw [e3]
   rw [this]
  have hj := each 0 (ls[0]) (List.getElem?_eq_getElem h0l)
  have hsp : sp = none := by simpa [Addr.add] using World.cell?_spot hj
  subst hsp
  exact ⟨b, o, cap, by rw [hlen]; exact c0, fun j x h9 => by rw [← add_plain]; exact each j x h9⟩
set_option maxRecDepth 100000 in
/-- A listed error: some interface value. -/
theorem iface_of_reads {w : World} {name : String} {g t : Nat} {ms : Array (String × TypeId)} {nm : String} {d : DataW Unit} (hg : Tryd.prog.globalNamed name = some g) (hy : (Tryd.prog.globals[g]?).map (·.type) = some t)
  (ht : Tryd.prog.underlying t = some (.interface ms)) (h : Lib.VarReads Tryd.prog w name (.iface nm d)) : ∃ te pe, w.cell? ⟨g, 0, none⟩ = some (.iface te pe) := by
 obtain ⟨g', t', cs, fuel, p, h1, h2, h3, h4⟩ := h
 obtain rfl := Option.some.inj (hg.symm.trans h1)
 obtain rfl := Option.some.inj (hy.symm.trans h2)
 have hcell := World.var?_cell hg h3 0
 cases fuel with
 | zero => simp [DataW.trod] at h4
 | succ n =>
  rw [DataW.trod_step] at h4
  unfold DataW.trodStep at h4
  rw [ht] at h4
  split at h4
  all_goals first
   | (cases h4; done)
   | (rename_i e1 e2; cases e1; done)
   | (rename_i e1; cases e1; done)
   | (rename_i u v e1 e2; exact ⟨u, v, by rw [hcell, ← Array.getElem?_toList, e2]; rfl⟩)
theorem tabs_of_laid {W : World} (h : laidMetH Tryd.prog Rows.fnExactLexRow.laid W) : Tabs W := by
 rw [MakeChecks.laidMetH_plain _ _ _ (by kernel_rfl)] at h
 have e1 : Rows.laid_unicode_utf8_acceptRanges = Lib.acceptData := by kernel_rfl
 have e2 : Rows.laid_unicode_utf8_first = Lib.firstData := by kernel_rfl
 have e3 : (Rows.laid_loop_example_g00001_impl_signs : DataW Unit) = .slice (signL.map fun x => .lit (.string x.data.toList)) [] := by kernel_rfl
 have r1 := Lib.laidMet.reads h (n := "unicode/utf8.first") (d := Lib.firstData) (by rw [← e2]; exact .tail _ (.tail _ (.tail _ (.tail _ (.tail _ (.tail _ (.tail _ (.tail _ (.head _)))))))))
 have r2 := Lib.laidMet.reads h (n := "unicode/utf8.acceptRanges") (d := Lib.acceptData) (by rw [← e1]; exact .tail _ (.tail _ (.tail _ (.head _))))
 have r3 := Lib.laidMet.reads h (n := "strconv.ErrRange") (d := Rows.laid_strconv_ErrRange) (.tail _ (.tail _ (.tail _ (.tail _ (.head _)))))
 have r4 := Lib.laidMet.reads h (n := "loop.example/g00001/impl.signs") (d := .slice (signL.map fun x => .lit (.string x.data.toList)) []) (by rw [← e3]; exact .tail _ (.tail _ (.tail _ (.tail _ (.tail _ (.tail _ (.head _)))))))
 refine ⟨utf8Tabs_of_readsT (U8Types.of196 laysValid) ⟨by kernel_rfl, by kernel_rfl, by kernel_rfl, by kernel_rfl, by kernel_rfl, by kernel_rfl, by kernel_rfl⟩ r1 r2, ?_, ?_⟩
 ·exact iface_of_reads (g := laysParse_ren.g 16) (by kernel_rfl) (by kernel_rfl) (Tryd.underlying58) r3
 ·exact row_of_reads (g := 0) (by kernel_rfl) (by kernel_rfl) Tryd.underlying48 Tryd.underlying9 (by kernel_rfl) (by decide) r4
/-- The witness: the settled world, the listed variables laid in it. -/
theorem laid_met (os : Os) (args : Array Value) : laidMetH Tryd.prog Rows.fnExactLexRow.laid ((World.laidAll Tryd.prog os Rows.fnExactLexRow.laid).forCall (fun _ _ => 0) ⟨#[], args, []⟩).memory := by
 rw [MakeChecks.laidMetH_plain _ _ _ (by kernel_rfl)]
 exact laidMet_laidAll _ (by kernel_rfl) (by kernel_rfl)
set_option maxRecDepth 100000 in
theorem lifted (os : Os) (started : os.Started) (H : Type) (enc : TypeId × Value → H) :
  ReturnsInHanded {} Tryd.checked os 3 .any (fun w args => (Rows.fnExactLexSpec.pre enc Tryd.prog Tryd.f3 [] false w args ∧ laidMetH Tryd.prog Rows.fnExactLexRow.laid w) ∧ sizedMet enc Tryd.prog Tryd.f3 (OpenSpec.ofChange Rows.fnExactLexSpec) false w args)
   (Rows.fnExactLexSpec.post enc Tryd.prog Tryd.f3 false true false false) := by
 refine returnsInHanded_of_change_and (C := Tryd.checked) (X := fun w _ => laidMetH Tryd.prog Rows.fnExactLexRow.laid w) (fun _ _ _ hh h => h.of_heap hh) own started (by kernel_rfl) Tryd.func3
  (ChangeSpec.witness_shaped (enc := enc) (C := Tryd.checked) (os := os) (X := fun w _ => laidMetH Tryd.prog Rows.fnExactLexRow.laid w) false (World.laidAll Tryd.prog os Rows.fnExactLexRow.laid) #[.string ⟨#[]⟩] 8 (World.laidAll_os _ _ _)
   (World.shaped_of_ZipB (by kernel_rfl) (by kernel_rfl)) (by kernel_rfl) (by kernel_rfl) (by kernel_rfl) (laid_met os _)) ?_
 intro W base args ds gs before hval0 hW hcnd hsz0 hL _
 have hsz : (DataW.weightsEach Tryd.prog (Tryd.f3.params.toList ++ Rows.fnExactLexSpec.plain.varTypes Tryd.prog) (ds ++ gs)).all (· ≤ reachBytes) = true := hsz0
 have hval : ∀ (j : Nat) t v, Tryd.f3.params[j]? = some t → args[j]? = some v → Value.okWide Tryd.prog W .any base t v := hval0
 have hW' := hW
 obtain ⟨p, q, hA0, hV, rfl, hfz, hnd⟩ := hW
 have hA : DataW.TrodAll enc Tryd.prog W 0 (fun _ => true) true Tryd.f3.params.toList args.toList ds p := hA0
 rw [Tryd.params3] at hA hval hsz
 obtain ⟨v0, d0, rfl, rfl, h0⟩ := trodAll_one hA
 obtain ⟨gg, tt, cs, fuel, d1, p1, rfl, _, _, _, _, _⟩ := trodVars_one hV
 obtain ⟨s0, rfl, rfl, rfl, u0⟩ := open_string Tryd.underlying9 (hval 0 9 v0 rfl rfl) h0
 have g0 : s0.size ≤ 140737488351232 := by
  have := List.all_eq_true.1 hsz _ (DataW.weights_mem_each (j := 0) (t := 9) rfl rfl s0.data.toList.length (by simp [DataW.weights]))
  have h2 : s0.data.toList.length ≤ reachBytes := of_decide_eq_true this
  have h3 : s0.data.toList.length = s0.size := by simp
  have h4 : reachBytes = 140737488351232 := by decide
  omega
 clear hA0 hval0 hsz0 hsz
 obtain ⟨k, hk⟩ := PureFnExactLex.FnExactLex s0
 refine (QFnExactLex.laws_FnExactLex.calls k s0 true W (tabs_of_laid hL) hk).mono fun e W' ⟨he, bel⟩ => ?_
 subst he
 exact ⟨_, rfl, _, _, _, [], [], _, hW', trodAll_mk1 (shut_bool Tryd.underlying4 _), trodAll_mk1 (shut_string Tryd.underlying9 u0), bel.trodVars laidOut (by kernel_rfl) hV, bel.frame _, fun h => by cases h⟩

theorem row_holds : Rows.FnExactLexSaid :=
 OpenClaim.holds_of_wide 3 Tryd.f3 rfl rfl rfl rfl rfl rfl rfl ⟨rfl, rfl, rfl, rfl, rfl⟩ rfl rfl rfl rfl rfl (by kernel_rfl) Tryd.func3 (by kernel_rfl)
  (of_decide_eq_true (by kernel_rfl)) (by unfold Func.isWrapper; first | (rw [if_pos (by decide +kernel)]; kernel_rfl) | (rw [if_neg (by decide +kernel)]; exact ⟨rfl, rfl⟩))
  (fun os started H enc _ => lifted os started H enc)

theorem proved : Rows.FnExactLexCardSaid :=
 Claim7.holds_tied_plain_at .later [] [.data, .data, .data, .data, .sentinel, .sentinel, .data, .pinned, .pinned] true (true, "dd48af0f56c501feab1acefe55ed36da69ae0dd389ff90b1a5fb4202a94a0dec") true
  row_holds (fun _ h => by cases h) (by kernel_rfl) (fun _ h => by cases h) fnExactLex_row_tie rfl ⟨rfl, rfl⟩ (by kernel_rfl) rfl
  (fun f fn hf hfn => by
   obtain rfl : f = 3 := Option.some.inj ((show Tryd.prog.funcNamed "loop.example/g00001/laws.FnExactLex" = some 3 by kernel_rfl).symm.trans hf) |>.symm
   obtain rfl : fn = Tryd.f3 := (Option.some.inj (Tryd.func3.symm.trans hfn)).symm
   exact ⟨by kernel_rfl, fun j t ht => by
    rw [Tryd.params3] at ht
    have hm : t ∈ [9] := by simpa using Array.mem_of_getElem? ht
    have hall : ([9].all fun u => !Tryd.prog.wantsStandIn u) = true := by kernel_rfl
    exact (show Tryd.prog.wantsStandIn t = false by simpa using List.all_eq_true.1 hall t hm)⟩)
  (by kernel_rfl)
#print axioms proved
end Go.Proofs.YtackifpnpkbddaaDoor.fnExactLex
namespace Go.Proofs.YtackifpnpkbddaaDoor
/-- The card, under a short name, for the claim. -/
theorem fnExactLex_holds : Rows.FnExactLexCardSaid := fnExactLex.proved
end Go.Proofs.YtackifpnpkbddaaDoor
