/- Proved: the card of the law FnExactUnlex: for every list of tokens the law returns true, the listed variables lying as the program's text lays them. No other conditions. -/
import Derived.Test.YtackifpnpkbddaaGreatDoorRows
import Derived.Test.YtackifpnpkbddaaGreatDoorTie
import Derived.Test.YtackifpnpkbddaaGreatDoorCards
import Derived.Test.YtackifpnpkbddaaGreatDoorPureFnExactUnlex
import Derived.WalkKit
import Derived.ProofKit
import Derived.OpenShut
import Derived.ShutString
import Derived.ChangeOld
import Derived.Below
import Derived.SizedLaws
import Derived.LaidMore
import Derived.Lay
import Derived.OpenVars
import Derived.SliceStrings
import Derived.PinnedBridge
import Derived.SevenTiedAt
import Derived.Lib.SmallJoins
import Derived.Lib.LaidU8T
import Derived.Stop.Joined
import Derived.HandedShaped
import Derived.Deep.Slices
import Derived.Deep.Strs
import Derived.Carry
set_option linter.unusedVariables false
set_option linter.unusedSimpArgs false
namespace Go.Proofs.YtackifpnpkbddaaGreatDoor.fnExactUnlex
open Go Go.ChangeShapes Go.WideShapes Go.ChangeAt Go.RowKit Go.Joins Go.Shelf
open Go.ChangeMaps (open_string shut_string)
open Go.Proofs.YtackifpnpkbddaaGreatDoorScan

theorem own : ownKnob Tryz.prog.godebug = none := by kernel_rfl
theorem laidOut : laidOutB Tryz.prog = true := by kernel_rfl
/-- A row of strings that is listed: where it lies. -/
theorem row_of_reads {w : World} {name : String} {g t e : Nat} {ls : List ByteArray} (hg : Tryz.prog.globalNamed name = some g) (hy : (Tryz.prog.globals[g]?).map (·.type) = some t)
  (ht : Tryz.prog.underlying t = some (.slice e)) (he : Tryz.prog.underlying e = some .string) (hc : Tryz.prog.cellsOf e = 1)
  (h0l : 0 < ls.length) (h : Lib.VarReads Tryz.prog w name (.slice (ls.map fun x => .lit (.string x.data.toList)) [])) :
  ∃ b o c, w.cell? ⟨g, 0, none⟩ = some (.slice (some ⟨b, o, none⟩) ls.length c) ∧ ∀ j x, ls[j]? = some x → w.cell? ⟨b, o + j, none⟩ = some (.string x) := by
 obtain ⟨g', t', cs, fuel, p, h1, h2, h3, h4⟩ := h
 obtain rfl := Option.some.inj (hg.symm.trans h1)
 obtain rfl := Option.some.inj (hy.symm.trans h2)
 have hcell := World.var?_cell hg h3 0
 rcases open_strings ht he hc h4 with ⟨_, hx⟩ | ⟨a, len, cap, ss, hcs, _, hl, hm, hz, hx, hel, hw⟩
 ·cases hx
 ·simp only [if_true] at hz
  simp only [Prod.mk.injEq, DataW.slice.injEq] at hx
  obtain ⟨⟨hx1, hx2⟩, _⟩ := hx
  have hlen : ls.length = len := by
   have := congrArg List.length hx1
   simp [strs] at this
   omega
  obtain ⟨b, o, sp⟩ := a
  have c0 : w.cell? ⟨g, 0, none⟩ = some (.slice (some ⟨b, o, sp⟩) len cap) := by rw [hcell, ← Array.getElem?_toList, hcs]; rfl
  have each : ∀ j x, ls[j]? = some x → w.cell? ((⟨b, o, sp⟩ : Addr).add j) = some (.string x) := fun j x hj => by
   have hjl : j < ls.length := (List.getElem?_eq_some_iff.1 hj).1
   have e2 := congrArg (fun l => l[j]?) hx1
   simp only [strs, List.getElem?_map, hj, Option.map_some] at e2
   rw [List.getElem?_take_of_lt (by omega), List.getElem?_eq_getElem (by omega : j < ss.length)] at e2
   simp only [Option.map_some, Option.some.injEq, DataW.lit.injEq, Lit.string.injEq] at e2
   rw [hel j (by omega), List.getD, List.getElem?_eq_getElem (by omega : j < ss.length)]
   show some (Value.string ss[j]) = _
   have : ss[j] = x := by
    have e3 : ss[j].data = x.data := by rw [← Array.toArray_toList (xs := ss[j].data), ← e2, Array.toArray_toList]
    cases hs : ss[j]; cases x
    rw [hs] at e3; simp only at e3; rw [e3]
   rw [this]
  have hj := each 0 (ls[0]) (List.getElem?_eq_getElem h0l)
  have hsp : sp = none := by simpa [Addr.add] using World.cell?_spot hj
  subst hsp
  exact ⟨b, o, cap, by rw [hlen]; exact c0, fun j x h9 => by rw [← add_plain]; exact each j x h9⟩
set_option maxRecDepth 100000 in
/-- A listed error: some interface value. -/
theorem iface_of_reads {w : World} {name : String} {g t : Nat} {ms : Array (String × TypeId)} {nm : String} {d : DataW Unit} (hg : Tryz.prog.globalNamed name = some g) (hy : (Tryz.prog.globals[g]?).map (·.type) = some t)
  (ht : Tryz.prog.underlying t = some (.interface ms)) (h : Lib.VarReads Tryz.prog w name (.iface nm d)) : ∃ te pe, w.cell? ⟨g, 0, none⟩ = some (.iface te pe) := by
 obtain ⟨g', t', cs, fuel, p, h1, h2, h3, h4⟩ := h
 obtain rfl := Option.some.inj (hg.symm.trans h1)
 obtain rfl := Option.some.inj (hy.symm.trans h2)
 have hcell := World.var?_cell hg h3 0
 cases fuel with
 | zero => simp [DataW.trod] at h4
 | succ n =>
  rw [DataW.trod_step] at h4
  unfold DataW.trodStep at h4
  rw [ht] at h4
  split at h4
  all_goals first
   | (cases h4; done)
   | (rename_i e1 e2; cases e1; done)
   | (rename_i e1; cases e1; done)
   | (rename_i u v e1 e2; exact ⟨u, v, by rw [hcell, ← Array.getElem?_toList, e2]; rfl⟩)
theorem tabs_of_laid {W : World} (hsh : W.ShapedOpen Tryz.prog) (h : laidMetH Tryz.prog Rows.fnExactUnlexRow.laid W) : Tabs W := by
 rw [MakeChecks.laidMetH_plain _ _ _ (by kernel_rfl)] at h
 have e1 : Rows.laid_unicode_utf8_acceptRanges = Lib.acceptData := by kernel_rfl
 have e2 : Rows.laid_unicode_utf8_first = Lib.firstData := by kernel_rfl
 have e3 : (Rows.laid_loop_example_g00001_impl_signs : DataW Unit) = .slice (signL.map fun x => .lit (.string x.data.toList)) [] := by kernel_rfl
 have r1 := Lib.laidMet.reads h (n := "unicode/utf8.first") (d := Lib.firstData) (by rw [← e2]; exact .tail _ (.tail _ (.tail _ (.tail _ (.tail _ (.tail _ (.tail _ (.tail _ (.head _)))))))))
 have r2 := Lib.laidMet.reads h (n := "unicode/utf8.acceptRanges") (d := Lib.acceptData) (by rw [← e1]; exact .tail _ (.tail _ (.tail _ (.head _))))
 have r3 := Lib.laidMet.reads h (n := "strconv.ErrRange") (d := Rows.laid_strconv_ErrRange) (.tail _ (.tail _ (.tail _ (.tail _ (.head _)))))
 have r4 := Lib.laidMet.reads h (n := "loop.example/g00001/impl.signs") (d := .slice (signL.map fun x => .lit (.string x.data.toList)) []) (by rw [← e3]; exact .tail _ (.tail _ (.tail _ (.tail _ (.tail _ (.tail _ (.head _)))))))
 refine ⟨utf8Tabs_of_readsT (U8Types.of196 laysValid) ⟨by kernel_rfl, by kernel_rfl, by kernel_rfl, by kernel_rfl, by kernel_rfl, by kernel_rfl, by kernel_rfl⟩ r1 r2, ?_, ?_, ?_⟩
 ·exact iface_of_reads (g := laysParse_ren.g 16) (by kernel_rfl) (by kernel_rfl) (Tryz.underlying68) r3
 ·exact cell_of_shapedOpen_int (P := Tryz.prog) (g := 3) (t := 3) (zero := #[.int .i64 0]) hsh (of_decide_eq_true (by kernel_rfl)) (by kernel_rfl) rfl (by kernel_rfl) (by kernel_rfl) Tryz.underlying3
 ·exact row_of_reads (g := 0) (by kernel_rfl) (by kernel_rfl) Tryz.underlying42 Tryz.underlying9 (by kernel_rfl) (by decide) r4
theorem cells38 : Tryz.prog.cellsOf 38 = 3 := by kernel_rfl
theorem cells1 : Tryz.prog.cellsOf 3 = 1 ∧ Tryz.prog.cellsOf 9 = 1 := ⟨by kernel_rfl, by kernel_rfl⟩
theorem mem_all {H : Type} {P : Program} {e : TypeId} {x : Nat} {d : DataW H} : ∀ {l : List (DataW H)}, d ∈ l → x ∈ d.weights P e → x ∈ DataW.weightsAll P e l
 | [], h, _ => by cases h
 | c :: r, h, hx => by
  unfold DataW.weightsAll
  rcases List.mem_cons.mp h with rfl | h
  ·exact List.mem_append_left _ hx
  ·exact List.mem_append_right _ (mem_all h hx)
set_option maxRecDepth 100000 in
open Go.Deep Go.Proofs.YtackifpnpkbddaaGreatDoor.QFnExactUnlex Go.Proofs.YtackifpnpkbddaaGreatDoorW.PrintWords in
/-- One value of the row, opened. -/
theorem open_one {H : Type} {enc : TypeId × Value → H} {W : World} {base : Nat} {sp : Nat → Bool} {held : Bool} {a : Addr} {i n : Nat} {cs : List Value} {x : DataW H × List MemPlace}
  (hc : W.cells? base (a.add (i * 3)) 3 = some cs) (h : DataW.trod enc Tryz.prog W base sp held n 38 cs = some x) :
  ∃ s : S38, (∀ j u, [Value.int .i64 s.f0, .string s.f1, .int .i64 s.f2][j]? = some u → W.cell? (a.add (i * 3 + j)) = some u) ∧ (Lit.int .i64 s.f0).wf = true ∧ s.f1.data.toList.length ∈ x.1.weights Tryz.prog 38 := by
 obtain ⟨y0, y1, y2, m, rfl, hl, h0, h1, h2⟩ := trod_struct3 Tryz.underlying38 h
 obtain ⟨_, hlen, hat⟩ := World.cells?_some hc
 match cs, hlen with
 | [c0, c1, c2], _ =>
  simp only [cells1.1, cells1.2, List.drop_zero, List.drop_succ_cons, List.take_succ_cons, List.take_zero] at h0 h1 h2
  obtain ⟨f0, e0, rfl, w0⟩ := DataW.trod_int Tryz.underlying3 h0
  obtain ⟨f1, e1, rfl, w1⟩ := DataW.trod_string Tryz.underlying9 h1
  obtain ⟨f2, e2, rfl, w2⟩ := DataW.trod_int Tryz.underlying3 h2
  simp only [List.cons.injEq, and_true] at e0 e1 e2
  subst e0 e1 e2
  refine ⟨⟨f0, f1, f2⟩, fun j u hu => ?_, w0, ?_⟩
  ·have hj : j < 3 := (List.getElem?_eq_some_iff.1 hu).1
   have e := hat j hj
   rw [← hu]
   rw [← e, Go.Deep.add_add]
  ·have hm : f1.data.toList.length ∈ DataW.weightsEach Tryz.prog [3, 9, 3] [DataW.lit (H := H) (Lit.int IntKind.i64 f0), DataW.lit (Lit.string f1.data.toList), DataW.lit (Lit.int IntKind.i64 f2)] :=
    DataW.weights_mem_each (j := 1) (t := 9) rfl rfl _ (by simp [DataW.weights])
   simpa [DataW.weights, Tryz.underlying38] using hm
set_option maxRecDepth 100000 in
open Go.Deep Go.Proofs.YtackifpnpkbddaaGreatDoor.QFnExactUnlex Go.Proofs.YtackifpnpkbddaaGreatDoorW.PrintWords in
/-- A row of values, opened. -/
theorem open_values {H : Type} {enc : TypeId × Value → H} {W : World} {base b2 : Nat} {sp : Nat → Bool} {held : Bool} {v : Value} {d : DataW H} {ps : List MemPlace} (hv : Value.okWide Tryz.prog W .any b2 22 v)
  (h : ∃ fuel, DataW.trod enc Tryz.prog W base sp held fuel 22 v.cells.toList = some (d, ps)) :
  ∃ (A : Option Addr) (l : List S38) (cap : Nat), v = .slice A l.length cap ∧ l.length ≤ cap ∧ cap ≤ maxLen ∧ Kd.C k38 W A l.length l ∧ (l.length = 0 ∨ ∃ z, z ∈ d.weights Tryz.prog 22 ∧ l.length ≤ z) ∧
   ∀ i, i < l.length → (Lit.int .i64 (l.getD i z38).f0).wf = true ∧ (l.getD i z38).f1.data.toList.length ∈ d.weights Tryz.prog 22 := by
 obtain ⟨A, len, cap, rfl⟩ := okWide_slice Tryz.underlying22 hv
 obtain ⟨fuel, hf⟩ := h
 rcases Go.Deep.open_slice Tryz.underlying22 hf with ⟨hcs, _⟩ | ⟨a, l', c', m, n, DD, Pl, hcs, _, hl, hm, hmm, hx, hi⟩
 ·simp [Value.cells] at hcs
  obtain ⟨rfl, rfl, rfl⟩ := hcs
  exact ⟨none, [], 0, rfl, Nat.le_refl _, by decide, ⟨rfl, by decide, fun h => absurd h (by decide)⟩, .inl rfl, fun i h => absurd h (Nat.not_lt_zero _)⟩
 ·simp [Value.cells] at hcs
  obtain ⟨rfl, rfl, rfl⟩ := hcs
  obtain ⟨rfl, _⟩ := Prod.mk.inj hx
  have hml : len ≤ m := by
   rw [hmm]; split
   ·exact hl
   ·exact Nat.le_refl _
  have hC : Tryz.prog.cellsOf 38 = 3 := cells38
  have each : ∀ i, ∃ s : S38, i < len → (∀ j u, [Value.int .i64 s.f0, .string s.f1, .int .i64 s.f2][j]? = some u → W.cell? (a.add (i * 3 + j)) = some u) ∧ (Lit.int .i64 s.f0).wf = true ∧ s.f1.data.toList.length ∈ (DD i).weights Tryz.prog 38 := by
   intro i
   by_cases hlt : i < len
   ·obtain ⟨cs', hc, ht⟩ := hi i (by omega)
    rw [hC] at hc
    obtain ⟨s, h1, h2, h3⟩ := open_one hc ht
    exact ⟨s, fun _ => ⟨h1, h2, h3⟩⟩
   ·exact ⟨z38, fun h => absurd h hlt⟩
  obtain ⟨F, hF⟩ : ∃ F : Nat → S38, ∀ i, i < len → (∀ j u, [Value.int .i64 (F i).f0, .string (F i).f1, .int .i64 (F i).f2][j]? = some u → W.cell? (a.add (i * 3 + j)) = some u) ∧ (Lit.int .i64 (F i).f0).wf = true ∧ (F i).f1.data.toList.length ∈ (DD i).weights Tryz.prog 38 :=
   ⟨fun i => Classical.choose (each i), fun i => Classical.choose_spec (each i)⟩
  have hlen : ((List.range len).map F).length = len := by simp
  refine ⟨some a, (List.range len).map F, cap, by rw [hlen], by rw [hlen]; exact hl, hm, ⟨rfl, by rw [hlen]; have : maxLen = 9223372036854775807 := rfl; omega, fun _ => ⟨a, rfl, fun j p hp => ?_⟩⟩, .inr ⟨_, by simp only [DataW.weights, Tryz.underlying22]; exact List.mem_cons_self, ?_⟩, fun i hlt => ?_⟩
  ·have hj : j < len := by
    have := (List.getElem?_eq_some_iff.1 hp).1
    rw [hlen] at this; exact this
   have hpe : p = F j := by
    rw [List.getElem?_map, List.getElem?_range hj] at hp
    exact (Option.some.inj hp).symm
   subst hpe
   exact ⟨_, rfl, k38_mk W _, (hF j hj).1⟩
  ·have hb : Tryz.prog.bytesOf 38 = 32 := by kernel_rfl
   rw [hb, hlen, List.length_map, List.length_range]
   omega
  ·rw [hlen] at hlt
   have e : ((List.range len).map F).getD i z38 = F i := by simp [List.getD, hlt]
   rw [e]
   refine ⟨(hF i hlt).2.1, ?_⟩
   simp only [DataW.weights, Tryz.underlying22]
   refine List.mem_cons_of_mem _ (List.mem_append_left _ (mem_all (d := DD i) ?_ (hF i hlt).2.2))
   exact List.mem_map.2 ⟨i, List.mem_range.2 hlt, rfl⟩
/-- The wrap with a condition on the world and the world's shape. -/
theorem handed_and_shaped {H : Type} {enc : TypeId × Value → H} {a : Assume} {C : Checked} {os : Os} {f : FuncId} {fn : Func} {s : ChangeSpec} {conds : List PathCond} {apart fresh handsOn again : Bool} {X : World → Array Value → Prop}
  (hX : ∀ (w w' : World) (args : Array Value), w.heap = w'.heap → X w args → X w' args)
  (own : ownKnob C.prog.godebug = none) (started : os.Started) (noInit : C.prog.inits.idxOf? f = none) (hfn : C.prog.funcs[f]? = some fn)
  (witness : ∃ (w : World) (tape : Tape) (i : Input), w.os = os ∧ (w.forCall tape i).Shaped C.prog ∧ i.vars = [] ∧ Input.okWide C.prog (w.forCall tape i) .any w.heap.size f i ∧
   ((s.pre enc C.prog fn conds apart (w.forCall tape i).memory i.args ∧ X (w.forCall tape i).memory i.args) ∧ sizedMet enc C.prog fn (OpenSpec.ofChange s) apart (w.forCall tape i).memory i.args) ∧ a.holds C.prog (lone (Frame.enter C.prog f i.args .normal) [] (w.forCall tape i)))
  (contract : ∀ (W : World) (base : Nat) (args : Array Value) (ds gs : List (DataW H)) (before : List MemPlace),
   (∀ (j : Nat) t v, fn.params[j]? = some t → args[j]? = some v → Value.okWide C.prog W .any base t v) →
   DataW.Whole enc C.prog fn.params.toList s.vars apart W args.toList ds gs before →
   conds.all (PathCond.test C.prog ⟨fn.params.toList, ds, s.plain.varTypes C.prog, gs⟩) = true →
   (DataW.weightsEach C.prog (fn.params.toList ++ s.plain.varTypes C.prog) (ds ++ gs)).all (· ≤ reachBytes) = true → X W args → W.ShapedOpen C.prog →
   Calls C.prog f args W fun e W' => ∃ v, e = .returned v ∧ s.post enc C.prog fn apart fresh handsOn again W args v W') :
  ReturnsInHanded a C os f .any (fun w args => (s.pre enc C.prog fn conds apart w args ∧ X w args) ∧ sizedMet enc C.prog fn (OpenSpec.ofChange s) apart w args) (s.post enc C.prog fn apart fresh handsOn again) := by
 refine returnsInHanded_of_calls own started noInit witness ?_
 intro w tape i _ hsh _ hok hpre hholds
 obtain ⟨_, _, _, fn', hfn', _, _, _, _, hval⟩ := hok
 have e : fn' = fn := Option.some.inj (hfn'.symm.trans hfn)
 subst e
 obtain ⟨⟨⟨ds, gs, before, hw, hc⟩, hx⟩, hz⟩ := hpre
 have hw' := DataW.Whole.of_heap (w' := w.forCall tape i) (by rfl) hw
 refine (contract (w.forCall tape i) w.heap.size i.args ds gs before hval hw' hc (hz.weights hw) (hX _ _ _ (by rfl) hx) hsh).mono fun e W' ⟨v, he, hp⟩ => ?_
 subst he
 exact ChangeSpec.post_blind hp
/-- The witness: the settled world, the listed variables laid in it. -/
theorem laid_met (os : Os) (args : Array Value) : laidMetH Tryz.prog Rows.fnExactUnlexRow.laid ((World.laidAll Tryz.prog os Rows.fnExactUnlexRow.laid).forCall (fun _ _ => 0) ⟨#[], args, []⟩).memory := by
 rw [MakeChecks.laidMetH_plain _ _ _ (by kernel_rfl)]
 exact laidMet_laidAll _ (by kernel_rfl) (by kernel_rfl)
set_option maxRecDepth 100000 in
theorem lifted (os : Os) (started : os.Started) (H : Type) (enc : TypeId × Value → H) :
  ReturnsInHanded {} Tryz.checked os 3 .any (fun w args => (Rows.fnExactUnlexSpec.pre enc Tryz.prog Tryz.f3 [] false w args ∧ laidMetH Tryz.prog Rows.fnExactUnlexRow.laid w) ∧ sizedMet enc Tryz.prog Tryz.f3 (OpenSpec.ofChange Rows.fnExactUnlexSpec) false w args)
   (Rows.fnExactUnlexSpec.post enc Tryz.prog Tryz.f3 false true false false) := by
 refine handed_and_shaped (C := Tryz.checked) (X := fun w _ => laidMetH Tryz.prog Rows.fnExactUnlexRow.laid w) (fun _ _ _ hh h => h.of_heap hh) own started (by kernel_rfl) Tryz.func3
  (ChangeSpec.witness_shaped (enc := enc) (C := Tryz.checked) (os := os) (X := fun w _ => laidMetH Tryz.prog Rows.fnExactUnlexRow.laid w) false (World.laidAll Tryz.prog os Rows.fnExactUnlexRow.laid) #[.slice none 0 0] 8 (World.laidAll_os _ _ _)
   (World.shaped_of_ZipB (by kernel_rfl) (by kernel_rfl)) (by kernel_rfl) (by kernel_rfl) (by kernel_rfl) (laid_met os _)) ?_
 intro W base args ds gs before hval0 hW hcnd hsz0 hL hsh
 have hsz : (DataW.weightsEach Tryz.prog (Tryz.f3.params.toList ++ Rows.fnExactUnlexSpec.plain.varTypes Tryz.prog) (ds ++ gs)).all (· ≤ reachBytes) = true := hsz0
 have hval : ∀ (j : Nat) t v, Tryz.f3.params[j]? = some t → args[j]? = some v → Value.okWide Tryz.prog W .any base t v := hval0
 have hW' := hW
 obtain ⟨p, q, hA0, hV, rfl, hfz, hnd⟩ := hW
 have hA : DataW.TrodAll enc Tryz.prog W 0 (fun _ => true) true Tryz.f3.params.toList args.toList ds p := hA0
 rw [Tryz.params3] at hA hval hsz
 obtain ⟨v0, d0, rfl, rfl, h0⟩ := trodAll_one hA
 obtain ⟨gg, tt, cs, fuel, d1, p1, rfl, _, _, _, _, _⟩ := trodVars_one hV
 have k0 := h0
 have lt0 : ∀ x ∈ p, x.block < W.heap.size := by obtain ⟨m, hm⟩ := k0; exact DataW.trod_lt m _ _ _ hm
 obtain ⟨A, l, cap, rfl, hlc, hcm, hC, hz, hall⟩ := open_values (hval 0 22 v0 rfl rfl) h0
 have hs : ∀ i, i < l.length → (l.getD i QFnExactUnlex.z38).f1.size ≤ 140737488351232 := by
  intro i hi
  have := List.all_eq_true.1 hsz _ (DataW.weights_mem_each (j := 0) (t := 22) rfl rfl _ (hall i hi).2)
  have h2 : (l.getD i QFnExactUnlex.z38).f1.data.toList.length ≤ reachBytes := of_decide_eq_true this
  have h3 : (l.getD i QFnExactUnlex.z38).f1.data.toList.length = (l.getD i QFnExactUnlex.z38).f1.size := by simp
  have h4 : reachBytes = 140737488351232 := by decide
  omega
 have hlen : l.length ≤ 281474976710656 := by
  rcases hz with hz | ⟨z, hz, hle⟩
  ·omega
  ·have h2 : z ≤ reachBytes := of_decide_eq_true (List.all_eq_true.1 hsz _ (DataW.weights_mem_each (j := 0) (t := 22) rfl rfl _ hz))
   have h4 : reachBytes = 140737488351232 := by decide
   omega
 clear hA0 hval0 hsz0 hsz
 obtain ⟨k, hk⟩ := PureFnExactUnlex.FnExactUnlex l hlen hs
 refine (QFnExactUnlex.laws_FnExactUnlex.calls k A cap l true W (tabs_of_laid hsh hL) hC hlc hk).mono fun e W' ⟨he, bel⟩ => ?_
 subst he
 exact ⟨_, rfl, _, _, _, [], _, _, hW', trodAll_mk1 (shut_bool Tryz.underlying4 _), (trodAll_cons_mk (Below.trod laidOut (by kernel_rfl) (of_decide_eq_true (by kernel_rfl)) k0 bel lt0) trodAll_mk0), bel.trodVars laidOut (by kernel_rfl) hV, bel.frame _, fun h => by cases h⟩

theorem row_holds : Rows.FnExactUnlexSaid :=
 OpenClaim.holds_of_wide 3 Tryz.f3 rfl rfl rfl rfl rfl rfl rfl ⟨rfl, rfl, rfl, rfl, rfl⟩ rfl rfl rfl rfl rfl (by kernel_rfl) Tryz.func3 (by kernel_rfl)
  (of_decide_eq_true (by kernel_rfl)) (by unfold Func.isWrapper; first | (rw [if_pos (by decide +kernel)]; kernel_rfl) | (rw [if_neg (by decide +kernel)]; exact ⟨rfl, rfl⟩))
  (fun os started H enc _ => lifted os started H enc)

theorem proved : Rows.FnExactUnlexCardSaid :=
 Claim7.holds_tied_plain_at .later [] [.data, .data, .data, .data, .sentinel, .sentinel, .data, .pinned, .pinned] true (true, "8330a8f722a02fa913a1355c73178dd53f1fab747f8f76a4ccd262ffd31a6950") true
  row_holds (fun _ h => by cases h) (by kernel_rfl) (fun _ h => by cases h) fnExactUnlex_row_tie rfl ⟨rfl, rfl⟩ (by kernel_rfl) rfl
  (fun f fn hf hfn => by
   obtain rfl : f = 3 := Option.some.inj ((show Tryz.prog.funcNamed "loop.example/g00001/laws.FnExactUnlex" = some 3 by kernel_rfl).symm.trans hf) |>.symm
   obtain rfl : fn = Tryz.f3 := (Option.some.inj (Tryz.func3.symm.trans hfn)).symm
   exact ⟨by kernel_rfl, fun j t ht => by
    rw [Tryz.params3] at ht
    have hm : t ∈ [22] := by simpa using Array.mem_of_getElem? ht
    have hall : ([22].all fun u => !Tryz.prog.wantsStandIn u) = true := by kernel_rfl
    exact (show Tryz.prog.wantsStandIn t = false by simpa using List.all_eq_true.1 hall t hm)⟩)
  (by kernel_rfl)
#print axioms proved
end Go.Proofs.YtackifpnpkbddaaGreatDoor.fnExactUnlex
namespace Go.Proofs.YtackifpnpkbddaaGreatDoor
/-- The card, under a short name, for the claim. -/
theorem fnExactUnlex_holds : Rows.FnExactUnlexCardSaid := fnExactUnlex.proved
end Go.Proofs.YtackifpnpkbddaaGreatDoor
