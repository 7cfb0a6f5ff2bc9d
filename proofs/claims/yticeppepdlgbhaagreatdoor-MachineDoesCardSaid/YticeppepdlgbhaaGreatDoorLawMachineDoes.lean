import Derived.Test.YticeppepdlgbhaaGreatDoorHz
import Derived.Test.YticeppepdlgbhaaGreatDoorZw27
import Derived.Test.YticeppepdlgbhaaGreatDoorAmD
import Derived.Test.YticeppepdlgbhaaGreatDoorRows
import Derived.WalkKit
import Derived.ProofKit
import Derived.OpenShut
import Derived.ShutString
import Derived.ChangeOld
import Derived.Below
import Derived.SizedLaws
import Derived.Carry
import Derived.SliceStrings
import Derived.Test.YticeppepdlgbhaaGreatDoorTie
import Derived.Test.YticeppepdlgbhaaGreatDoorCards
import Derived.LaidMore
import Derived.Stop.Joined
import Derived.SevenTiedAt
/- MachineDoes is proved for every input: the call returns true, and the arguments read as before. The functions that it reaches are walked in the text Zw28, over the abstract machine of the texts Am1 to Am40. -/
namespace Go.Proofs.YticeppepdlgbhaaGreatDoor.machineDoes
open Go.ChangeShapes Go.WideShapes Go.ChangeAt Go.RowKit Go.Am C17
open Go.ChangeMaps (open_string shut_string)
set_option linter.unusedVariables false
theorem own : ownKnob Tryz.prog.godebug = none := by kernel_rfl
theorem laidOut : laidOutB Tryz.prog = true := by kernel_rfl
theorem u3 : Tryz.prog.underlying 3 = some (.int .i64) := by kernel_rfl
theorem u9 : Tryz.prog.underlying 9 = some .string := by kernel_rfl
theorem us47 : Tryz.prog.underlying 47 = some (.slice 51) := by kernel_rfl
def toldCmd {H : Type} (r : Cmd) : DataW H := .agg [.lit (.int .i64 r.kind), .lit (.string r.topic.data.toList), .lit (.string r.name.data.toList), .lit (.int .i64 r.seq), .lit (.string r.key.data.toList), .lit (.string r.val.data.toList), .lit (.int .i64 r.n), .lit (.int .i64 r.node), .lit (.int .i64 r.ask)]
set_option maxRecDepth 20000 in
theorem elemCmd {H : Type} {enc : TypeId × Value → H} {w : World} {spare : Nat → Bool} {held : Bool} (m : Nat) (cs : List Value) (d : DataW H) (pl : List MemPlace) (h : DataW.trod enc Tryz.prog w 0 spare held m 49 cs = some (d, pl)) (hl : cs.length = 9) :
    ∃ a : Cmd, True ∧ d = toldCmd a ∧ Plain (encC a) cs ∧ pl = [] := by
  obtain ⟨xs, n, rfl, hx, _, hlen, hf⟩ := DataW.trod_struct Tryz.underlying49 h
  match cs, hl with
  | [c0, c1, c2, c3, c4, c5, c6, c7, c8], _ =>
    have f0 : DataW.trod enc Tryz.prog w 0 spare held n 3 [c0] = xs[0]? := by
      have : DataW.trod enc Tryz.prog w 0 spare held n 3 (([c0, c1, c2, c3, c4, c5, c6, c7, c8].drop 0).take (Tryz.prog.cellsOf 3)) = xs[0]? := hf 0 _ rfl
      rw [show Tryz.prog.cellsOf 3 = 1 from by kernel_rfl] at this
      exact this
    have f1 : DataW.trod enc Tryz.prog w 0 spare held n 9 [c1] = xs[1]? := by
      have : DataW.trod enc Tryz.prog w 0 spare held n 9 (([c0, c1, c2, c3, c4, c5, c6, c7, c8].drop 1).take (Tryz.prog.cellsOf 9)) = xs[1]? := hf 1 _ rfl
      rw [show Tryz.prog.cellsOf 9 = 1 from by kernel_rfl] at this
      exact this
    have f2 : DataW.trod enc Tryz.prog w 0 spare held n 9 [c2] = xs[2]? := by
      have : DataW.trod enc Tryz.prog w 0 spare held n 9 (([c0, c1, c2, c3, c4, c5, c6, c7, c8].drop 2).take (Tryz.prog.cellsOf 9)) = xs[2]? := hf 2 _ rfl
      rw [show Tryz.prog.cellsOf 9 = 1 from by kernel_rfl] at this
      exact this
    have f3 : DataW.trod enc Tryz.prog w 0 spare held n 3 [c3] = xs[3]? := by
      have : DataW.trod enc Tryz.prog w 0 spare held n 3 (([c0, c1, c2, c3, c4, c5, c6, c7, c8].drop 3).take (Tryz.prog.cellsOf 3)) = xs[3]? := hf 3 _ rfl
      rw [show Tryz.prog.cellsOf 3 = 1 from by kernel_rfl] at this
      exact this
    have f4 : DataW.trod enc Tryz.prog w 0 spare held n 9 [c4] = xs[4]? := by
      have : DataW.trod enc Tryz.prog w 0 spare held n 9 (([c0, c1, c2, c3, c4, c5, c6, c7, c8].drop 4).take (Tryz.prog.cellsOf 9)) = xs[4]? := hf 4 _ rfl
      rw [show Tryz.prog.cellsOf 9 = 1 from by kernel_rfl] at this
      exact this
    have f5 : DataW.trod enc Tryz.prog w 0 spare held n 9 [c5] = xs[5]? := by
      have : DataW.trod enc Tryz.prog w 0 spare held n 9 (([c0, c1, c2, c3, c4, c5, c6, c7, c8].drop 5).take (Tryz.prog.cellsOf 9)) = xs[5]? := hf 5 _ rfl
      rw [show Tryz.prog.cellsOf 9 = 1 from by kernel_rfl] at this
      exact this
    have f6 : DataW.trod enc Tryz.prog w 0 spare held n 3 [c6] = xs[6]? := by
      have : DataW.trod enc Tryz.prog w 0 spare held n 3 (([c0, c1, c2, c3, c4, c5, c6, c7, c8].drop 6).take (Tryz.prog.cellsOf 3)) = xs[6]? := hf 6 _ rfl
      rw [show Tryz.prog.cellsOf 3 = 1 from by kernel_rfl] at this
      exact this
    have f7 : DataW.trod enc Tryz.prog w 0 spare held n 3 [c7] = xs[7]? := by
      have : DataW.trod enc Tryz.prog w 0 spare held n 3 (([c0, c1, c2, c3, c4, c5, c6, c7, c8].drop 7).take (Tryz.prog.cellsOf 3)) = xs[7]? := hf 7 _ rfl
      rw [show Tryz.prog.cellsOf 3 = 1 from by kernel_rfl] at this
      exact this
    have f8 : DataW.trod enc Tryz.prog w 0 spare held n 3 [c8] = xs[8]? := by
      have : DataW.trod enc Tryz.prog w 0 spare held n 3 (([c0, c1, c2, c3, c4, c5, c6, c7, c8].drop 8).take (Tryz.prog.cellsOf 3)) = xs[8]? := hf 8 _ rfl
      rw [show Tryz.prog.cellsOf 3 = 1 from by kernel_rfl] at this
      exact this
    match xs, hlen with
    | [x0, x1, x2, x3, x4, x5, x6, x7, x8], _ =>
      obtain ⟨n0, h0, h0', w0⟩ := DataW.trod_int u3 f0
      simp only [List.cons.injEq, and_true] at h0
      subst h0 h0'
      obtain ⟨n1, h1, h1', w1⟩ := DataW.trod_string u9 f1
      simp only [List.cons.injEq, and_true] at h1
      subst h1 h1'
      obtain ⟨n2, h2, h2', w2⟩ := DataW.trod_string u9 f2
      simp only [List.cons.injEq, and_true] at h2
      subst h2 h2'
      obtain ⟨n3, h3, h3', w3⟩ := DataW.trod_int u3 f3
      simp only [List.cons.injEq, and_true] at h3
      subst h3 h3'
      obtain ⟨n4, h4, h4', w4⟩ := DataW.trod_string u9 f4
      simp only [List.cons.injEq, and_true] at h4
      subst h4 h4'
      obtain ⟨n5, h5, h5', w5⟩ := DataW.trod_string u9 f5
      simp only [List.cons.injEq, and_true] at h5
      subst h5 h5'
      obtain ⟨n6, h6, h6', w6⟩ := DataW.trod_int u3 f6
      simp only [List.cons.injEq, and_true] at h6
      subst h6 h6'
      obtain ⟨n7, h7, h7', w7⟩ := DataW.trod_int u3 f7
      simp only [List.cons.injEq, and_true] at h7
      subst h7 h7'
      obtain ⟨n8, h8, h8', w8⟩ := DataW.trod_int u3 f8
      simp only [List.cons.injEq, and_true] at h8
      subst h8 h8'
      refine ⟨⟨n0, n1, n2, n3, n4, n5, n6, n7, n8⟩, trivial, congrArg Prod.fst hx, ?_, congrArg Prod.snd hx⟩
      rfl
def toldMDe {H : Type} (r : MDe) : DataW H := .agg [toldCmd r.c, .lit (.string r.s.data.toList)]
set_option maxRecDepth 20000 in
theorem elemMDe {H : Type} {enc : TypeId × Value → H} {w : World} {spare : Nat → Bool} {held : Bool} (m : Nat) (cs : List Value) (d : DataW H) (pl : List MemPlace) (h : DataW.trod enc Tryz.prog w 0 spare held m 51 cs = some (d, pl)) (hl : cs.length = 10) :
    ∃ a : MDe, True ∧ d = toldMDe a ∧ Plain (encMD a) cs ∧ pl = [] := by
  obtain ⟨xs, n, rfl, hx, _, hlen, hf⟩ := DataW.trod_struct Tryz.underlying51 h
  match cs, hl with
  | [c0, c1, c2, c3, c4, c5, c6, c7, c8, c9], _ =>
    have f0 : DataW.trod enc Tryz.prog w 0 spare held n 49 [c0, c1, c2, c3, c4, c5, c6, c7, c8] = xs[0]? := by
      have : DataW.trod enc Tryz.prog w 0 spare held n 49 (([c0, c1, c2, c3, c4, c5, c6, c7, c8, c9].drop 0).take (Tryz.prog.cellsOf 49)) = xs[0]? := hf 0 _ rfl
      rw [show Tryz.prog.cellsOf 49 = 9 from by kernel_rfl] at this
      exact this
    have f1 : DataW.trod enc Tryz.prog w 0 spare held n 9 [c9] = xs[1]? := by
      have : DataW.trod enc Tryz.prog w 0 spare held n 9 (([c0, c1, c2, c3, c4, c5, c6, c7, c8, c9].drop 9).take (Tryz.prog.cellsOf 9)) = xs[1]? := hf 1 _ rfl
      rw [show Tryz.prog.cellsOf 9 = 1 from by kernel_rfl] at this
      exact this
    match xs, hlen with
    | [x0, x1], _ =>
      obtain ⟨n0, w0, h0', h0, p0⟩ := elemCmd _ _ x0.1 x0.2 f0 rfl
      obtain ⟨n1, h1, h1', w1⟩ := DataW.trod_string u9 f1
      simp only [List.cons.injEq, and_true] at h1
      subst h1 h1'
      obtain ⟨x0a, x0b⟩ := x0
      simp only at h0' p0
      subst h0' p0
      refine ⟨⟨n0, n1⟩, trivial, congrArg Prod.fst hx, ?_, congrArg Prod.snd hx⟩
      show (encC n0).cells ++ [AVal.raw (.string n1)] = _
      rw [show (encC n0).cells = _ from h0]
      rfl
abbrev laid1 : List (String × DataW Unit) := [("carillon/codec.sizes", Rows.laid_carillon_codec_sizes)]
theorem gName : Tryz.prog.globalNamed "carillon/codec.sizes" = some 0 := by kernel_rfl
theorem gType : (Tryz.prog.globals[0]?).map (·.type) = some 183 := by kernel_rfl
theorem door_met (os : Os) (args : Array Value) : laidMetH Tryz.prog laid1 ((World.doorLaid Tryz.prog 14 os).forCall (fun _ _ => 0) ⟨#[], args, []⟩).memory :=
  laidMetH_of_parts3 (fuel := 8) (laidMet_of_run' 8 (by kernel_rfl) (by kernel_rfl)) (by kernel_rfl) (by kernel_rfl)
set_option maxRecDepth 100000 in
theorem of_laid {W : World} (h : laidMetH Tryz.prog laid1 W) : ∃ ge, W.heap[0]? = some (.cells #[.int .i64 0, .int .i64 1, .int .i64 4, .int .i64 8, .int .i64 0] ge (0, 0)) := by
  rw [MakeChecks.laidMetH_plain _ _ _ (by kernel_rfl)] at h
  obtain ⟨ps, ⟨g0, t0, cs0, f0, p0, q0, hg0, ht0, hv0, hd0, -, hps⟩, -, hcell⟩ := h
  obtain rfl := Option.some.inj (gName.symm.trans hg0)
  obtain rfl := Option.some.inj (gType.symm.trans ht0)
  have u3 : Tryz.prog.underlying 3 = some (.int .i64) := by kernel_rfl
  obtain ⟨xs, m1, rfl, hx1, hlen, hn, hel⟩ := DataW.trod_array Tryz.underlying183 hd0
  have c3 : Tryz.prog.cellsOf 3 = 1 := by kernel_rfl
  have c5 : Tryz.prog.cellsOf 183 = 5 := by kernel_rfl
  rw [c3] at hel
  rw [c5] at hlen
  obtain ⟨l0⟩ := cs0
  match l0, hlen with
  | [c0, c1, c2, c3, c4], _ =>
    match xs, hn with
    | [x0, x1, x2, x3, x4], _ =>
      obtain ⟨n0, e0, e0', -⟩ := DataW.trod_int u3 (show DataW.trod _ Tryz.prog W 0 _ false m1 3 [c0] = some x0 from hel 0 (by decide))
      obtain ⟨n1, e1, e1', -⟩ := DataW.trod_int u3 (show DataW.trod _ Tryz.prog W 0 _ false m1 3 [c1] = some x1 from hel 1 (by decide))
      obtain ⟨n2, e2, e2', -⟩ := DataW.trod_int u3 (show DataW.trod _ Tryz.prog W 0 _ false m1 3 [c2] = some x2 from hel 2 (by decide))
      obtain ⟨n3, e3, e3', -⟩ := DataW.trod_int u3 (show DataW.trod _ Tryz.prog W 0 _ false m1 3 [c3] = some x3 from hel 3 (by decide))
      obtain ⟨n4, e4, e4', -⟩ := DataW.trod_int u3 (show DataW.trod _ Tryz.prog W 0 _ false m1 3 [c4] = some x4 from hel 4 (by decide))
      simp only [List.cons.injEq, and_true] at e0 e1 e2 e3 e4
      subst e0 e1 e2 e3 e4 e0' e1' e2' e3' e4'
      have hx2 := congrArg Prod.fst hx1
      simp only [Rows.laid_carillon_codec_sizes, List.map_cons, List.map_nil, DataW.agg.injEq, List.cons.injEq, DataW.lit.injEq, Lit.int.injEq, true_and, and_true] at hx2
      obtain ⟨h0, h1, h2, h3, h4⟩ := hx2
      subst h0 h1 h2 h3 h4
      obtain ⟨⟨c, t, hc⟩, -⟩ := hcell 0 0 (by rw [hps]; exact List.mem_append_left _ (List.mem_append_left _ (by simp [MemPlace.row])))
      simp only [World.var?, gName, Option.bind_some, hc, Option.some.injEq] at hv0
      exact ⟨t, by rw [hc, hv0]⟩
set_option maxRecDepth 100000 in
theorem lifted (os : Os) (started : os.Started) (H : Type) (enc : TypeId × Value → H) :
    ReturnsInHanded {} Tryz.checked os 5 .any (fun w args => (Rows.machineDoesSpec.pre enc Tryz.prog Tryz.f5 [] false w args ∧ laidMetH Tryz.prog laid1 w) ∧ sizedMet enc Tryz.prog Tryz.f5 (OpenSpec.ofChange Rows.machineDoesSpec) false w args) (Rows.machineDoesSpec.post enc Tryz.prog Tryz.f5 false true false false) := by
  refine returnsInHanded_of_change_and (C := Tryz.checked) (X := fun w _ => laidMetH Tryz.prog laid1 w) (fun _ _ _ hh h => h.of_heap hh) own started (by kernel_rfl) Tryz.func5
    (ChangeSpec.witness_shaped (enc := enc) (C := Tryz.checked) (os := os) (X := fun w _ => laidMetH Tryz.prog laid1 w) false (World.doorLaid Tryz.prog 14 os) #[.int .i64 0, .slice none 0 0] 8 rfl (World.shaped_of_RefB (by kernel_rfl) (by kernel_rfl)) (by kernel_rfl) (by kernel_rfl) (by kernel_rfl) (door_met os _)) ?_
  intro W base args ds gs before hval0 hW hcnd hsz0 hL _
  obtain ⟨ge, hG⟩ := of_laid hL
  have hsz : (DataW.weightsEach Tryz.prog (Tryz.f5.params.toList ++ Rows.machineDoesSpec.plain.varTypes Tryz.prog) (ds ++ gs)).all (· ≤ reachBytes) = true := hsz0
  have hval : ∀ (j : Nat) t v, Tryz.f5.params[j]? = some t → args[j]? = some v → Value.okWide Tryz.prog W .any base t v := hval0
  have hW' := hW
  obtain ⟨p, q, hA0, hV, rfl, hfz, hnd⟩ := hW
  have hA : DataW.TrodAll enc Tryz.prog W 0 (fun _ => true) true Tryz.f5.params.toList args.toList ds p := hA0
  rw [Tryz.params5] at hA hval hsz
  obtain ⟨v0, vs0, d0, ds0, p0, q0, hargs, rfl, rfl, h0, r0⟩ := trodAll_cons hA
  obtain ⟨v1, vs1, d1, ds1, p1, q1, rfl, rfl, rfl, h1, r1⟩ := trodAll_cons r0
  obtain ⟨rfl, rfl, rfl⟩ := trodAll_nil r1
  obtain rfl : args = #[v0, v1] := by cases args; simp_all
  obtain ⟨rfl, rfl⟩ := trodVars_none hV
  obtain ⟨a0, rfl, rfl, rfl, w0⟩ := open_int u3 (hval 0 3 v0 rfl rfl) h0
  have k1 := h1
  obtain ⟨l1, rep1, wf1, hd1, hm1, lt1⟩ := open_flat encMD toldMDe (fun a => True) us47 (by kernel_rfl) (by decide) elemMDe (hval 1 47 v1 rfl rfl) h1
  have hlen1 : l1.length * 120 ≤ 140737488351232 := by
    rcases hd1 with ⟨rfl, rfl⟩ | ⟨r, rfl⟩
    · simp
    · have := sized_slice hsz (j := 1) rfl rfl us47
      rw [List.length_map, show Tryz.prog.bytesOf 51 = 120 from by kernel_rfl] at this
      have h2 : reachBytes = 140737488351232 := rfl
      rw [h2] at this
      exact Nat.le_trans (Nat.mul_le_mul_right 120 (Nat.le_add_right _ _)) this
  have sf1_c_topic : ∀ a ∈ l1, a.c.topic.size ≤ 140737488351232 := by
    intro a ha
    rcases hd1 with ⟨rfl, rfl⟩ | ⟨r, rfl⟩
    · simp at ha
    · exact sized_sfld2 hsz (j := 1) rfl rfl us47 Tryz.underlying51 (List.mem_map.2 ⟨a, ha, rfl⟩) (q := 0) rfl rfl Tryz.underlying49 (q' := 1) rfl rfl
  have sf1_c_name : ∀ a ∈ l1, a.c.name.size ≤ 140737488351232 := by
    intro a ha
    rcases hd1 with ⟨rfl, rfl⟩ | ⟨r, rfl⟩
    · simp at ha
    · exact sized_sfld2 hsz (j := 1) rfl rfl us47 Tryz.underlying51 (List.mem_map.2 ⟨a, ha, rfl⟩) (q := 0) rfl rfl Tryz.underlying49 (q' := 2) rfl rfl
  have sf1_s : ∀ a ∈ l1, a.s.size ≤ 140737488351232 := by
    intro a ha
    rcases hd1 with ⟨rfl, rfl⟩ | ⟨r, rfl⟩
    · simp at ha
    · exact sized_sfld hsz (j := 1) rfl rfl us47 Tryz.underlying51 (List.mem_map.2 ⟨a, ha, rfl⟩) (q := 1) rfl rfl
  clear hA0 hval0 hsz0 hsz
  refine (call_of_soundG (G := fun b => if b = 0 then some (AObj.it (.cells #[.int .i64 0, .int .i64 1, .int .i64 4, .int .i64 8, .int .i64 0] ge (0, 0))) else none) (glob_one hG) (args := [.raw (.int .i64 a0), .sl (l1.map encMD) false]) rfl (SoundCall.mono (does5 ge (0, 0) a0 l1 false _ rfl (by omega) (fun d hd => ⟨⟨Nat.lt_of_le_of_lt (sf1_c_topic d hd) (by decide), Nat.lt_of_le_of_lt (sf1_c_name d hd) (by decide)⟩, Nat.lt_of_le_of_lt (sf1_s d hd) (by decide)⟩)) fun _ _ h => h.1) ?_).mono fun e W' ⟨he, bel⟩ => ?_
  · intro i A v hA hv
    match i, hA, hv with
    | 0, hA, hv => simp at hA hv; subst hA; subst hv; exact ⟨.raw _, by simp [AVal.free]⟩
    | 1, hA, hv => simp at hA hv; subst hA; subst hv; exact ⟨rep1, by simp [AVal.free]⟩
    | n + 2, hA, hv => simp at hA
  subst he
  exact ⟨_, rfl, _, _, _, [], _, [], hW', trodAll_mk1 (shut_bool Tryz.underlying4 _), (trodAll_cons_mk (shut_int u3 w0) (trodAll_cons_mk (Below.trod laidOut (by kernel_rfl) (of_decide_eq_true (by kernel_rfl)) k1 bel lt1) trodAll_mk0)), rfl, bel.frame _, fun h => by cases h⟩
theorem over : Rows.machineDoesRow.holds Tryz.pinned (OpenSpec.ofChange Rows.machineDoesSpec) :=
  OpenClaim.holds_of_wide 5 Tryz.f5 rfl rfl rfl rfl rfl rfl rfl ⟨rfl, rfl, rfl, rfl, rfl⟩ rfl rfl rfl rfl rfl (by kernel_rfl) Tryz.func5 (by kernel_rfl)
    (of_decide_eq_true (by kernel_rfl)) (by unfold Func.isWrapper; first | (rw [if_pos (by decide +kernel)]; kernel_rfl) | (rw [if_neg (by decide +kernel)]; exact ⟨rfl, rfl⟩))
    (fun os started H enc _ => lifted os started H enc)
theorem proved : Rows.MachineDoesSaid := over
set_option maxRecDepth 100000 in
theorem card : Rows.MachineDoesCardSaid :=
  Claim7.holds_tied_plain_at .later [] [.data] true Rows.machineDoesCard.stood.harness false
    proved (fun _ h => by cases h) (by kernel_rfl) (fun _ h => by cases h) machineDoes_row_tie rfl ⟨rfl, rfl⟩ (by kernel_rfl) rfl
    (fun f fn hf hfn => by
      obtain rfl : f = 5 := Option.some.inj ((show Tryz.prog.funcNamed "carillon/carillonlaw17.MachineDoes" = some 5 by kernel_rfl).symm.trans hf) |>.symm
      obtain rfl : fn = Tryz.f5 := (Option.some.inj (Tryz.func5.symm.trans hfn)).symm
      exact ⟨by kernel_rfl, fun j t ht => by
        rw [Tryz.params5] at ht
        have hm : t ∈ [3, 47] := by simpa using Array.mem_of_getElem? ht
        have hall : ([3, 47].all fun u => !Tryz.prog.wantsStandIn u) = true := by kernel_rfl
        exact (show Tryz.prog.wantsStandIn t = false by simpa using List.all_eq_true.1 hall t hm)⟩)
    (by kernel_rfl)
#print axioms card
#print axioms proved
end Go.Proofs.YticeppepdlgbhaaGreatDoor.machineDoes
namespace Go.Proofs.YticeppepdlgbhaaGreatDoor
/-- The row, under a short name, for the claim. -/
theorem machineDoes_holds : Rows.MachineDoesCardSaid := machineDoes.card
end Go.Proofs.YticeppepdlgbhaaGreatDoor
