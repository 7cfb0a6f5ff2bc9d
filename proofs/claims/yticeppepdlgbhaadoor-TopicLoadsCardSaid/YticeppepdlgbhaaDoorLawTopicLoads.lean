import Derived.Test.YticeppepdlgbhaaDoorTt16
import Derived.Test.YticeppepdlgbhaaDoorAmD
import Derived.Test.YticeppepdlgbhaaDoorRows
import Derived.WalkKit
import Derived.ProofKit
import Derived.OpenShut
import Derived.ShutString
import Derived.ChangeOld
import Derived.Below
import Derived.SizedLaws
import Derived.Carry
import Derived.SliceStrings
import Derived.Test.YticeppepdlgbhaaDoorTie
import Derived.Test.YticeppepdlgbhaaDoorCards
import Derived.LaidMore
import Derived.Stop.Joined
import Derived.SevenTiedAt
/- TopicLoads is proved for every input: the call returns true, and the arguments read as before. The functions that it reaches are walked in the text Tt16, over the abstract machine of the texts Am1 to Am40. -/
namespace Go.Proofs.YticeppepdlgbhaaDoor.topicLoads
open Go.ChangeShapes Go.WideShapes Go.ChangeAt Go.RowKit Go.Am C17
open Go.ChangeMaps (open_string shut_string)
set_option linter.unusedVariables false
theorem own : ownKnob Tryd.prog.godebug = none := by kernel_rfl
theorem u9 : Tryd.prog.underlying 9 = some .string := by kernel_rfl
abbrev laid1 : List (String × DataW Unit) := [("carillon/codec.sizes", Rows.laid_carillon_codec_sizes)]
theorem gName : Tryd.prog.globalNamed "carillon/codec.sizes" = some 0 := by kernel_rfl
theorem gType : (Tryd.prog.globals[0]?).map (·.type) = some 127 := by kernel_rfl
theorem door_met (os : Os) (args : Array Value) : laidMetH Tryd.prog laid1 ((World.doorLaid Tryd.prog 14 os).forCall (fun _ _ => 0) ⟨#[], args, []⟩).memory :=
 laidMetH_of_parts3 (fuel := 8) (laidMet_of_run' 8 (by kernel_rfl) (by kernel_rfl)) (by kernel_rfl) (by kernel_rfl)
set_option maxRecDepth 100000 in
theorem of_laid {W : World} (h : laidMetH Tryd.prog laid1 W) : ∃ ge, W.heap[0]? = some (.cells #[.int .i64 0, .int .i64 1, .int .i64 4, .int .i64 8, .int .i64 0] ge (0, 0)) := by
 rw [MakeChecks.laidMetH_plain _ _ _ (by kernel_rfl)] at h
 obtain ⟨ps, ⟨g0, t0, cs0, f0, p0, q0, hg0, ht0, hv0, hd0, -, hps⟩, -, hcell⟩ := h
 obtain rfl := Option.some.inj (gName.symm.trans hg0)
 obtain rfl := Option.some.inj (gType.symm.trans ht0)
 have u3 : Tryd.prog.underlying 3 = some (.int .i64) := by kernel_rfl
 obtain ⟨xs, m1, rfl, hx1, hlen, hn, hel⟩ := DataW.trod_array Tryd.underlying127 hd0
 have c3 : Tryd.prog.cellsOf 3 = 1 := by kernel_rfl
 have c5 : Tryd.prog.cellsOf 127 = 5 := by kernel_rfl
 rw [c3] at hel
 rw [c5] at hlen
 obtain ⟨l0⟩ := cs0
 match l0, hlen with
 | [c0, c1, c2, c3, c4], _ =>
  match xs, hn with
  | [x0, x1, x2, x3, x4], _ =>
   obtain ⟨n0, e0, e0', -⟩ := DataW.trod_int u3 (show DataW.trod _ Tryd.prog W 0 _ false m1 3 [c0] = some x0 from hel 0 (by decide))
   obtain ⟨n1, e1, e1', -⟩ := DataW.trod_int u3 (show DataW.trod _ Tryd.prog W 0 _ false m1 3 [c1] = some x1 from hel 1 (by decide))
   obtain ⟨n2, e2, e2', -⟩ := DataW.trod_int u3 (show DataW.trod _ Tryd.prog W 0 _ false m1 3 [c2] = some x2 from hel 2 (by decide))
   obtain ⟨n3, e3, e3', -⟩ := DataW.trod_int u3 (show DataW.trod _ Tryd.prog W 0 _ false m1 3 [c3] = some x3 from hel 3 (by decide))
   obtain ⟨n4, e4, e4', -⟩ := DataW.trod_int u3 (show DataW.trod _ Tryd.prog W 0 _ false m1 3 [c4] = some x4 from hel 4 (by decide))
   simp only [List.cons.injEq, and_true] at e0 e1 e2 e3 e4
   subst e0 e1 e2 e3 e4 e0' e1' e2' e3' e4'
   have hx2 := congrArg Prod.fst hx1
   simp only [Rows.laid_carillon_codec_sizes, List.map_cons, List.map_nil, DataW.agg.injEq, List.cons.injEq, DataW.lit.injEq, Lit.int.injEq, true_and, and_true] at hx2
   obtain ⟨h0, h1, h2, h3, h4⟩ := hx2
   subst h0 h1 h2 h3 h4
   obtain ⟨⟨c, t, hc⟩, -⟩ := hcell 0 0 (by rw [hps]; exact List.mem_append_left _ (List.mem_append_left _ (by simp [MemPlace.row])))
   simp only [World.var?, gName, Option.bind_some, hc, Option.some.injEq] at hv0
   exact ⟨t, by rw [hc, hv0]⟩
set_option maxRecDepth 100000 in
theorem lifted (os : Os) (started : os.Started) (H : Type) (enc : TypeId × Value → H) :
  ReturnsInHanded {} Tryd.checked os 3 .any (fun w args => (Rows.topicLoadsSpec.pre enc Tryd.prog Tryd.f3 [] false w args ∧ laidMetH Tryd.prog laid1 w) ∧ sizedMet enc Tryd.prog Tryd.f3 (OpenSpec.ofChange Rows.topicLoadsSpec) false w args) (Rows.topicLoadsSpec.post enc Tryd.prog Tryd.f3 false true false false) := by
 refine returnsInHanded_of_change_and (C := Tryd.checked) (X := fun w _ => laidMetH Tryd.prog laid1 w) (fun _ _ _ hh h => h.of_heap hh) own started (by kernel_rfl) Tryd.func3
  (ChangeSpec.witness_shaped (enc := enc) (C := Tryd.checked) (os := os) (X := fun w _ => laidMetH Tryd.prog laid1 w) false (World.doorLaid Tryd.prog 14 os) #[.string ByteArray.empty] 8 rfl (World.shaped_of_RefB (by kernel_rfl) (by kernel_rfl)) (by kernel_rfl) (by kernel_rfl) (by kernel_rfl) (door_met os _)) ?_
 intro W base args ds gs before hval0 hW hcnd hsz0 hL _
 obtain ⟨ge, hG⟩ := of_laid hL
 have hsz : (DataW.weightsEach Tryd.prog (Tryd.f3.params.toList ++ Rows.topicLoadsSpec.plain.varTypes Tryd.prog) (ds ++ gs)).all (· ≤ reachBytes) = true := hsz0
 have hval : ∀ (j : Nat) t v, Tryd.f3.params[j]? = some t → args[j]? = some v → Value.okWide Tryd.prog W .any base t v := hval0
 have hW' := hW
 obtain ⟨p, q, hA0, hV, rfl, hfz, hnd⟩ := hW
 have hA : DataW.TrodAll enc Tryd.prog W 0 (fun _ => true) true Tryd.f3.params.toList args.toList ds p := hA0
 rw [Tryd.params3] at hA hval hsz
 obtain ⟨v0, vs0, d0, ds0, p0, q0, hargs, rfl, rfl, h0, r0⟩ := trodAll_cons hA
 obtain ⟨rfl, rfl, rfl⟩ := trodAll_nil r0
 obtain rfl : args = #[v0] := by cases args; simp_all
 obtain ⟨rfl, rfl⟩ := trodVars_none hV
 obtain ⟨a0, rfl, rfl, rfl, y0⟩ := open_string u9 (hval 0 9 v0 rfl rfl) h0
 have sz0 : a0.size ≤ 140737488351232 := by
  have z := sized_string hsz (j := 0) (t := 9) rfl rfl
  rw [Array.length_toList] at z
  exact z
 clear hA0 hval0 hsz0 hsz
 refine (call_of_soundG (G := fun b => if b = 0 then some (AObj.it (.cells #[.int .i64 0, .int .i64 1, .int .i64 4, .int .i64 8, .int .i64 0] ge (0, 0))) else none) (glob_one hG) (args := [.raw (.string a0)]) rfl (SoundCall.mono (snd3 ge (0, 0) a0 _ rfl (by omega)) fun _ _ h => h.1) ?_).mono fun e W' ⟨he, bel⟩ => ?_
 ·intro i A v hA hv
  match i, hA, hv with
  | 0, hA, hv => simp at hA hv; subst hA; subst hv; exact ⟨.raw _, by simp [AVal.free]⟩
  | n + 1, hA, hv => simp at hA
 subst he
 exact ⟨_, rfl, _, _, _, [], _, [], hW', trodAll_mk1 (shut_bool Tryd.underlying4 _), (trodAll_cons_mk (shut_string u9 y0) trodAll_mk0), rfl, bel.frame _, fun h => by cases h⟩
theorem over : Rows.topicLoadsRow.holds Tryd.pinned (OpenSpec.ofChange Rows.topicLoadsSpec) :=
 OpenClaim.holds_of_wide 3 Tryd.f3 rfl rfl rfl rfl rfl rfl rfl ⟨rfl, rfl, rfl, rfl, rfl⟩ rfl rfl rfl rfl rfl (by kernel_rfl) Tryd.func3 (by kernel_rfl)
  (of_decide_eq_true (by kernel_rfl)) (by unfold Func.isWrapper; first | (rw [if_pos (by decide +kernel)]; kernel_rfl) | (rw [if_neg (by decide +kernel)]; exact ⟨rfl, rfl⟩))
  (fun os started H enc _ => lifted os started H enc)
theorem proved : Rows.TopicLoadsSaid := over
set_option maxRecDepth 100000 in
theorem card : Rows.TopicLoadsCardSaid :=
 Claim7.holds_tied_plain_at .later [] [.data] true Rows.topicLoadsCard.stood.harness false
  proved (fun _ h => by cases h) (by kernel_rfl) (fun _ h => by cases h) topicLoads_row_tie rfl ⟨rfl, rfl⟩ (by kernel_rfl) rfl
  (fun f fn hf hfn => by
   obtain rfl : f = 3 := Option.some.inj ((show Tryd.prog.funcNamed "carillon/carillonlaw15.TopicLoads" = some 3 by kernel_rfl).symm.trans hf) |>.symm
   obtain rfl : fn = Tryd.f3 := (Option.some.inj (Tryd.func3.symm.trans hfn)).symm
   exact ⟨by kernel_rfl, fun j t ht => by
    rw [Tryd.params3] at ht
    have hm : t ∈ [9] := by simpa using Array.mem_of_getElem? ht
    have hall : ([9].all fun u => !Tryd.prog.wantsStandIn u) = true := by kernel_rfl
    exact (show Tryd.prog.wantsStandIn t = false by simpa using List.all_eq_true.1 hall t hm)⟩)
  (by kernel_rfl)
#print axioms card
#print axioms proved
end Go.Proofs.YticeppepdlgbhaaDoor.topicLoads
namespace Go.Proofs.YticeppepdlgbhaaDoor
/-- The row, under a short name, for the claim. -/
theorem topicLoads_holds : Rows.TopicLoadsCardSaid := topicLoads.card
end Go.Proofs.YticeppepdlgbhaaDoor
