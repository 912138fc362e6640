/- Proved: the card of the law FnLexed: for every row of bytes the law returns true, the listed variables lying as the program's text lays them. No other conditions. -/
import Derived.Test.YtackifpnpkbddaaGreatDoorRows
import Derived.Test.YtackifpnpkbddaaGreatDoorTie
import Derived.Test.YtackifpnpkbddaaGreatDoorCards
import Derived.Test.YtackifpnpkbddaaGreatDoorPureFnLexed
import Derived.WalkKit
import Derived.ProofKit
import Derived.OpenShut
import Derived.ShutString
import Derived.ChangeOld
import Derived.Below
import Derived.SizedLaws
import Derived.LaidMore
import Derived.Lay
import Derived.OpenVars
import Derived.SliceStrings
import Derived.PinnedBridge
import Derived.SevenTiedAt
import Derived.Lib.SmallJoins
import Derived.Lib.LaidU8T
import Derived.Stop.Joined
import Derived.Test.YtackifpnpkbddaaGreatDoorWSized
import Derived.HandedShaped
import Derived.Deep.Slices
import Derived.Deep.Strs
import Derived.Carry
set_option linter.unusedVariables false
set_option linter.unusedSimpArgs false
namespace Go.Proofs.YtackifpnpkbddaaGreatDoor.fnLexed
open Go Go.ChangeShapes Go.WideShapes Go.ChangeAt Go.RowKit Go.Joins Go.Shelf
open Go.ChangeMaps (open_string shut_string)
open Go.Proofs.YtackifpnpkbddaaGreatDoorScan

theorem own : ownKnob Tryz.prog.godebug = none := by kernel_rfl
theorem laidOut : laidOutB Tryz.prog = true := by kernel_rfl
/-- A row of strings that is listed: where it lies. -/
theorem row_of_reads {w : World} {name : String} {g t e : Nat} {ls : List ByteArray} (hg : Tryz.prog.globalNamed name = some g) (hy : (Tryz.prog.globals[g]?).map (·.type) = some t)
  (ht : Tryz.prog.underlying t = some (.slice e)) (he : Tryz.prog.underlying e = some .string) (hc : Tryz.prog.cellsOf e = 1)
  (h0l : 0 < ls.length) (h : Lib.VarReads Tryz.prog w name (.slice (ls.map fun x => .lit (.string x.data.toList)) [])) :
  ∃ b o c, w.cell? ⟨g, 0, none⟩ = some (.slice (some ⟨b, o, none⟩) ls.length c) ∧ ∀ j x, ls[j]? = some x → w.cell? ⟨b, o + j, none⟩ = some (.string x) := by
 obtain ⟨g', t', cs, fuel, p, h1, h2, h3, h4⟩ := h
 obtain rfl := Option.some.inj (hg.symm.trans h1)
 obtain rfl := Option.some.inj (hy.symm.trans h2)
 have hcell := World.var?_cell hg h3 0
 rcases open_strings ht he hc h4 with ⟨_, hx⟩ | ⟨a, len, cap, ss, hcs, _, hl, hm, hz, hx, hel, hw⟩
 ·cases hx
 ·simp only [if_true] at hz
  simp only [Prod.mk.injEq, DataW.slice.injEq] at hx
  obtain ⟨⟨hx1, hx2⟩, _⟩ := hx
  have hlen : ls.length = len := by
   have := congrArg List.length hx1
   simp [strs] at this
   omega
  obtain ⟨b, o, sp⟩ := a
  have c0 : w.cell? ⟨g, 0, none⟩ = some (.slice (some ⟨b, o, sp⟩) len cap) := by rw [hcell, ← Array.getElem?_toList, hcs]; rfl
  have each : ∀ j x, ls[j]? = some x → w.cell? ((⟨b, o, sp⟩ : Addr).add j) = some (.string x) := fun j x hj => by
   have hjl : j < ls.length := (List.getElem?_eq_some_iff.1 hj).1
   have e2 := congrArg (fun l => l[j]?) hx1
   simp only [strs, List.getElem?_map, hj, Option.map_some] at e2
   rw [List.getElem?_take_of_lt (by omega), List.getElem?_eq_getElem (by omega : j < ss.length)] at e2
   simp only [Option.map_some, Option.some.injEq, DataW.lit.injEq, Lit.string.injEq] at e2
   rw [hel j (by omega), List.getD, List.getElem?_eq_getElem (by omega : j < ss.length)]
   show some (Value.string ss[j]) = _
   have : ss[j] = x := by
    have e3 : ss[j].data = x.data := by rw [← Array.toArray_toList (xs := ss[j].data), ← e2, Array.toArray_toList]
    cases hs : ss[j]; cases x
    rw [hs] at e3; simp only at e3; rw [e3]
   rw [this]
  have hj := each 0 (ls[0]) (List.getElem?_eq_getElem h0l)
  have hsp : sp = none := by simpa [Addr.add] using World.cell?_spot hj
  subst hsp
  exact ⟨b, o, cap, by rw [hlen]; exact c0, fun j x h9 => by rw [← add_plain]; exact each j x h9⟩
set_option maxRecDepth 100000 in
/-- A listed error: some interface value. -/
theorem iface_of_reads {w : World} {name : String} {g t : Nat} {ms : Array (String × TypeId)} {nm : String} {d : DataW Unit} (hg : Tryz.prog.globalNamed name = some g) (hy : (Tryz.prog.globals[g]?).map (·.type) = some t)
  (ht : Tryz.prog.underlying t = some (.interface ms)) (h : Lib.VarReads Tryz.prog w name (.iface nm d)) : ∃ te pe, w.cell? ⟨g, 0, none⟩ = some (.iface te pe) := by
 obtain ⟨g', t', cs, fuel, p, h1, h2, h3, h4⟩ := h
 obtain rfl := Option.some.inj (hg.symm.trans h1)
 obtain rfl := Option.some.inj (hy.symm.trans h2)
 have hcell := World.var?_cell hg h3 0
 cases fuel with
 | zero => simp [DataW.trod] at h4
 | succ n =>
  rw [DataW.trod_step] at h4
  unfold DataW.trodStep at h4
  rw [ht] at h4
  split at h4
  all_goals first
   | (cases h4; done)
   | (rename_i e1 e2; cases e1; done)
   | (rename_i e1; cases e1; done)
   | (rename_i u v e1 e2; exact ⟨u, v, by rw [hcell, ← Array.getElem?_toList, e2]; rfl⟩)
theorem tabs_of_laid {W : World} (hsh : W.ShapedOpen Tryz.prog) (h : laidMetH Tryz.prog Rows.fnLexedRow.laid W) : Tabs W := by
 rw [MakeChecks.laidMetH_plain _ _ _ (by kernel_rfl)] at h
 have e1 : Rows.laid_unicode_utf8_acceptRanges = Lib.acceptData := by kernel_rfl
 have e2 : Rows.laid_unicode_utf8_first = Lib.firstData := by kernel_rfl
 have e3 : (Rows.laid_loop_example_g00001_impl_signs : DataW Unit) = .slice (signL.map fun x => .lit (.string x.data.toList)) [] := by kernel_rfl
 have r1 := Lib.laidMet.reads h (n := "unicode/utf8.first") (d := Lib.firstData) (by rw [← e2]; exact .tail _ (.tail _ (.tail _ (.tail _ (.tail _ (.tail _ (.tail _ (.tail _ (.head _)))))))))
 have r2 := Lib.laidMet.reads h (n := "unicode/utf8.acceptRanges") (d := Lib.acceptData) (by rw [← e1]; exact .tail _ (.tail _ (.tail _ (.head _))))
 have r3 := Lib.laidMet.reads h (n := "strconv.ErrRange") (d := Rows.laid_strconv_ErrRange) (.tail _ (.tail _ (.tail _ (.tail _ (.head _)))))
 have r4 := Lib.laidMet.reads h (n := "loop.example/g00001/impl.signs") (d := .slice (signL.map fun x => .lit (.string x.data.toList)) []) (by rw [← e3]; exact .tail _ (.tail _ (.tail _ (.tail _ (.tail _ (.tail _ (.head _)))))))
 refine ⟨utf8Tabs_of_readsT (U8Types.of196 laysValid) ⟨by kernel_rfl, by kernel_rfl, by kernel_rfl, by kernel_rfl, by kernel_rfl, by kernel_rfl, by kernel_rfl⟩ r1 r2, ?_, ?_, ?_⟩
 ·exact iface_of_reads (g := laysParse_ren.g 16) (by kernel_rfl) (by kernel_rfl) (Tryz.underlying68) r3
 ·exact cell_of_shapedOpen_int (P := Tryz.prog) (g := 3) (t := 3) (zero := #[.int .i64 0]) hsh (of_decide_eq_true (by kernel_rfl)) (by kernel_rfl) rfl (by kernel_rfl) (by kernel_rfl) Tryz.underlying3
 ·exact row_of_reads (g := 0) (by kernel_rfl) (by kernel_rfl) Tryz.underlying42 Tryz.underlying9 (by kernel_rfl) (by decide) r4
def IsRow (k : IntKind) (w : World) (a : Option Addr) (len cap : Nat) (zs : List Int) : Prop :=
 (a = none ∧ len = 0 ∧ cap = 0 ∧ zs = []) ∨
 ∃ x, a = some x ∧ len ≤ cap ∧ cap ≤ maxLen ∧ zs.length = cap ∧ (∀ i, i < zs.length → w.cell? (x.add i) = some (.int k (zs.getD i 0))) ∧ ∀ n ∈ zs, (Lit.int k n).wf = true
theorem pure_holds : QFnLexed.laws_FnLexed.Pure := fun l _ _ hw => PureFnLexed.FnLexed l hw
/-- The wrap with a condition on the world and the world's shape. -/
theorem handed_and_shaped {H : Type} {enc : TypeId × Value → H} {a : Assume} {C : Checked} {os : Os} {f : FuncId} {fn : Func} {s : ChangeSpec} {conds : List PathCond} {apart fresh handsOn again : Bool} {X : World → Array Value → Prop}
  (hX : ∀ (w w' : World) (args : Array Value), w.heap = w'.heap → X w args → X w' args)
  (own : ownKnob C.prog.godebug = none) (started : os.Started) (noInit : C.prog.inits.idxOf? f = none) (hfn : C.prog.funcs[f]? = some fn)
  (witness : ∃ (w : World) (tape : Tape) (i : Input), w.os = os ∧ (w.forCall tape i).Shaped C.prog ∧ i.vars = [] ∧ Input.okWide C.prog (w.forCall tape i) .any w.heap.size f i ∧
   ((s.pre enc C.prog fn conds apart (w.forCall tape i).memory i.args ∧ X (w.forCall tape i).memory i.args) ∧ sizedMet enc C.prog fn (OpenSpec.ofChange s) apart (w.forCall tape i).memory i.args) ∧ a.holds C.prog (lone (Frame.enter C.prog f i.args .normal) [] (w.forCall tape i)))
  (contract : ∀ (W : World) (base : Nat) (args : Array Value) (ds gs : List (DataW H)) (before : List MemPlace),
   (∀ (j : Nat) t v, fn.params[j]? = some t → args[j]? = some v → Value.okWide C.prog W .any base t v) →
   DataW.Whole enc C.prog fn.params.toList s.vars apart W args.toList ds gs before →
   conds.all (PathCond.test C.prog ⟨fn.params.toList, ds, s.plain.varTypes C.prog, gs⟩) = true →
   (DataW.weightsEach C.prog (fn.params.toList ++ s.plain.varTypes C.prog) (ds ++ gs)).all (· ≤ reachBytes) = true → X W args → W.ShapedOpen C.prog →
   Calls C.prog f args W fun e W' => ∃ v, e = .returned v ∧ s.post enc C.prog fn apart fresh handsOn again W args v W') :
  ReturnsInHanded a C os f .any (fun w args => (s.pre enc C.prog fn conds apart w args ∧ X w args) ∧ sizedMet enc C.prog fn (OpenSpec.ofChange s) apart w args) (s.post enc C.prog fn apart fresh handsOn again) := by
 refine returnsInHanded_of_calls own started noInit witness ?_
 intro w tape i _ hsh _ hok hpre hholds
 obtain ⟨_, _, _, fn', hfn', _, _, _, _, hval⟩ := hok
 have e : fn' = fn := Option.some.inj (hfn'.symm.trans hfn)
 subst e
 obtain ⟨⟨⟨ds, gs, before, hw, hc⟩, hx⟩, hz⟩ := hpre
 have hw' := DataW.Whole.of_heap (w' := w.forCall tape i) (by rfl) hw
 refine (contract (w.forCall tape i) w.heap.size i.args ds gs before hval hw' hc (hz.weights hw) (hX _ _ _ (by rfl) hx) hsh).mono fun e W' ⟨v, he, hp⟩ => ?_
 subst he
 exact ChangeSpec.post_blind hp
/-- The witness: the settled world, the listed variables laid in it. -/
theorem laid_met (os : Os) (args : Array Value) : laidMetH Tryz.prog Rows.fnLexedRow.laid ((World.laidAll Tryz.prog os Rows.fnLexedRow.laid).forCall (fun _ _ => 0) ⟨#[], args, []⟩).memory := by
 rw [MakeChecks.laidMetH_plain _ _ _ (by kernel_rfl)]
 exact laidMet_laidAll _ (by kernel_rfl) (by kernel_rfl)
set_option maxRecDepth 100000 in
theorem lifted (os : Os) (started : os.Started) (H : Type) (enc : TypeId × Value → H) :
  ReturnsInHanded {} Tryz.checked os 4 .any (fun w args => (Rows.fnLexedSpec.pre enc Tryz.prog Tryz.f4 [] false w args ∧ laidMetH Tryz.prog Rows.fnLexedRow.laid w) ∧ sizedMet enc Tryz.prog Tryz.f4 (OpenSpec.ofChange Rows.fnLexedSpec) false w args)
   (Rows.fnLexedSpec.post enc Tryz.prog Tryz.f4 false true false false) := by
 refine handed_and_shaped (C := Tryz.checked) (X := fun w _ => laidMetH Tryz.prog Rows.fnLexedRow.laid w) (fun _ _ _ hh h => h.of_heap hh) own started (by kernel_rfl) Tryz.func4
  (ChangeSpec.witness_shaped (enc := enc) (C := Tryz.checked) (os := os) (X := fun w _ => laidMetH Tryz.prog Rows.fnLexedRow.laid w) false (World.laidAll Tryz.prog os Rows.fnLexedRow.laid) #[.slice none 0 0] 8 (World.laidAll_os _ _ _)
   (World.shaped_of_ZipB (by kernel_rfl) (by kernel_rfl)) (by kernel_rfl) (by kernel_rfl) (by kernel_rfl) (laid_met os _)) ?_
 intro W base args ds gs before hval0 hW hcnd hsz0 hL hsh
 have hsz : (DataW.weightsEach Tryz.prog (Tryz.f4.params.toList ++ Rows.fnLexedSpec.plain.varTypes Tryz.prog) (ds ++ gs)).all (· ≤ reachBytes) = true := hsz0
 have hval : ∀ (j : Nat) t v, Tryz.f4.params[j]? = some t → args[j]? = some v → Value.okWide Tryz.prog W .any base t v := hval0
 have hW' := hW
 obtain ⟨p, q, hA0, hV, rfl, hfz, hnd⟩ := hW
 have hA : DataW.TrodAll enc Tryz.prog W 0 (fun _ => true) true Tryz.f4.params.toList args.toList ds p := hA0
 rw [Tryz.params4] at hA hval hsz
 obtain ⟨v0, d0, rfl, rfl, h0⟩ := trodAll_one hA
 obtain ⟨gg, tt, cs, fuel, d1, p1, rfl, _, _, _, _, _⟩ := trodVars_one hV
 have k0 := h0
 have lt0 : ∀ x ∈ p, x.block < W.heap.size := by obtain ⟨m, hm⟩ := k0; exact DataW.trod_lt m _ _ _ hm
 obtain ⟨a1, len1, cap1, rfl⟩ := okWide_slice Tryz.underlying30 (hval 0 30 v0 rfl rfl)
 obtain ⟨z1, w1⟩ : ∃ zs, IsRow .u8 W a1 len1 cap1 zs := by
  obtain ⟨fuel, hf⟩ := h0
  rcases open_ints Tryz.underlying30 Tryz.underlying5 (by kernel_rfl) hf with ⟨hcs, _⟩ | ⟨x, l, c, zs, hcs, _, hl, hm, hz, _, hcell, hwz⟩
  ·simp [Value.cells] at hcs
   obtain ⟨rfl, rfl, rfl⟩ := hcs
   exact ⟨[], .inl ⟨rfl, rfl, rfl, rfl⟩⟩
  ·simp [Value.cells] at hcs
   obtain ⟨rfl, rfl, rfl⟩ := hcs
   exact ⟨zs, .inr ⟨_, rfl, hl, hm, by simpa using hz, hcell, hwz⟩⟩
 have y1 : len1 * 1 ≤ 140737488351232 := YtackifpnpkbddaaGreatDoorW.PrintWords.sized_ints hsz (j := 0) (t := 30) rfl rfl Tryz.underlying30 Tryz.underlying5 (by kernel_rfl) (by kernel_rfl) h0
 clear hA0 hval0 hsz0 hsz
 refine (QFnLexed.laws_FnLexed.walk pure_holds a1 len1 cap1 z1 W (tabs_of_laid hsh hL) w1 y1).mono fun e W' ⟨he, bel⟩ => ?_
 subst he
 exact ⟨_, rfl, _, _, _, [], _, _, hW', trodAll_mk1 (shut_bool Tryz.underlying4 _), (trodAll_cons_mk (Below.trod laidOut (by kernel_rfl) (of_decide_eq_true (by kernel_rfl)) k0 bel lt0) trodAll_mk0), bel.trodVars laidOut (by kernel_rfl) hV, bel.frame _, fun h => by cases h⟩

theorem row_holds : Rows.FnLexedSaid :=
 OpenClaim.holds_of_wide 4 Tryz.f4 rfl rfl rfl rfl rfl rfl rfl ⟨rfl, rfl, rfl, rfl, rfl⟩ rfl rfl rfl rfl rfl (by kernel_rfl) Tryz.func4 (by kernel_rfl)
  (of_decide_eq_true (by kernel_rfl)) (by unfold Func.isWrapper; first | (rw [if_pos (by decide +kernel)]; kernel_rfl) | (rw [if_neg (by decide +kernel)]; exact ⟨rfl, rfl⟩))
  (fun os started H enc _ => lifted os started H enc)

theorem proved : Rows.FnLexedCardSaid :=
 Claim7.holds_tied_plain_at .later [] [.data, .data, .data, .data, .sentinel, .sentinel, .data, .pinned, .pinned] true (true, "8330a8f722a02fa913a1355c73178dd53f1fab747f8f76a4ccd262ffd31a6950") true
  row_holds (fun _ h => by cases h) (by kernel_rfl) (fun _ h => by cases h) fnLexed_row_tie rfl ⟨rfl, rfl⟩ (by kernel_rfl) rfl
  (fun f fn hf hfn => by
   obtain rfl : f = 4 := Option.some.inj ((show Tryz.prog.funcNamed "loop.example/g00001/laws.FnLexed" = some 4 by kernel_rfl).symm.trans hf) |>.symm
   obtain rfl : fn = Tryz.f4 := (Option.some.inj (Tryz.func4.symm.trans hfn)).symm
   exact ⟨by kernel_rfl, fun j t ht => by
    rw [Tryz.params4] at ht
    have hm : t ∈ [30] := by simpa using Array.mem_of_getElem? ht
    have hall : ([30].all fun u => !Tryz.prog.wantsStandIn u) = true := by kernel_rfl
    exact (show Tryz.prog.wantsStandIn t = false by simpa using List.all_eq_true.1 hall t hm)⟩)
  (by kernel_rfl)
#print axioms proved
end Go.Proofs.YtackifpnpkbddaaGreatDoor.fnLexed
namespace Go.Proofs.YtackifpnpkbddaaGreatDoor
/-- The card, under a short name, for the claim. -/
theorem fnLexed_holds : Rows.FnLexedCardSaid := fnLexed.proved
end Go.Proofs.YtackifpnpkbddaaGreatDoor
