import Derived.Test.YthmhdhmfkegpiaaGreatDoorHz
import Derived.Test.YthmhdhmfkegpiaaGreatDoorNn29
import Derived.Test.YthmhdhmfkegpiaaGreatDoorAmH
import Derived.Test.YthmhdhmfkegpiaaGreatDoorAmD
import Derived.Test.YthmhdhmfkegpiaaGreatDoorRows
import Derived.WalkKit
import Derived.ProofKit
import Derived.OpenShut
import Derived.ShutString
import Derived.ChangeOld
import Derived.Below
import Derived.SizedLaws
import Derived.Carry
import Derived.SliceStrings
import Derived.Test.YthmhdhmfkegpiaaGreatDoorTie
import Derived.Test.YthmhdhmfkegpiaaGreatDoorCards
import Derived.LaidMore
import Derived.Stop.Joined
import Derived.SevenTiedAt
/- NodeBack is proved for every input: the call returns true, and the arguments read as before. The functions that it reaches are walked in the text Nn29. -/
namespace Go.Proofs.YthmhdhmfkegpiaaGreatDoor.nodeBack
open Go.ChangeShapes Go.WideShapes Go.ChangeAt Go.RowKit Go.Am C17
open Go.ChangeMaps (open_string shut_string)
set_option linter.unusedVariables false
theorem own : ownKnob Tryz.prog.godebug = none := by kernel_rfl
theorem laidOut : laidOutB Tryz.prog = true := by kernel_rfl
theorem u3 : Tryz.prog.underlying 3 = some (.int .i64) := by kernel_rfl
theorem u9 : Tryz.prog.underlying 9 = some .string := by kernel_rfl
theorem us24 : Tryz.prog.underlying 24 = some (.slice 9) := by kernel_rfl
def toldB {H : Type} (b : Bal) : DataW H := .agg [.lit (.int .i64 b.round), .lit (.int .i64 b.node)]
set_option maxRecDepth 20000 in
theorem elemB {H : Type} {enc : TypeId × Value → H} {w : World} {spare : Nat → Bool} {held : Bool} (m : Nat) (cs : List Value) (d : DataW H) (pl : List MemPlace) (h : DataW.trod enc Tryz.prog w 0 spare held m 23 cs = some (d, pl)) (hl : cs.length = 2) : ∃ b : Bal, d = toldB b ∧ cs = [.int .i64 b.round, .int .i64 b.node] := by
  obtain ⟨xs, n, rfl, hx, _, hlen, hf⟩ := DataW.trod_struct Tryz.underlying23 h
  match cs, hl with
  | [c0, c1], _ =>
    have f0 : DataW.trod enc Tryz.prog w 0 spare held n 3 [c0] = xs[0]? := by
      have : DataW.trod enc Tryz.prog w 0 spare held n 3 (([c0, c1].drop 0).take (Tryz.prog.cellsOf 3)) = xs[0]? := hf 0 _ rfl
      rw [show Tryz.prog.cellsOf 3 = 1 from by kernel_rfl] at this
      exact this
    have f1 : DataW.trod enc Tryz.prog w 0 spare held n 3 [c1] = xs[1]? := by
      have : DataW.trod enc Tryz.prog w 0 spare held n 3 (([c0, c1].drop 1).take (Tryz.prog.cellsOf 3)) = xs[1]? := hf 1 _ rfl
      rw [show Tryz.prog.cellsOf 3 = 1 from by kernel_rfl] at this
      exact this
    match xs, hlen with
    | [x0, x1], _ =>
      obtain ⟨n0, h0, h0', w0⟩ := DataW.trod_int u3 f0
      simp only [List.cons.injEq, and_true] at h0
      subst h0 h0'
      obtain ⟨n1, h1, h1', w1⟩ := DataW.trod_int u3 f1
      simp only [List.cons.injEq, and_true] at h1
      subst h1 h1'
      exact ⟨⟨n0, n1⟩, congrArg Prod.fst hx, rfl⟩
def wfM {H : Type} (x : Msg × DataW H) : Prop := (x.2 = .nil ∧ x.1.texts = []) ∨ ∃ y r, x.2 = .slice y r ∧ x.1.texts.length = y.length
def toldM {H : Type} (x : Msg × DataW H) : DataW H := .agg [.lit (.int .i64 x.1.kind), .lit (.int .i64 x.1.frm), .lit (.int .i64 x.1.life), .lit (.int .i64 x.1.view), .lit (.int .i64 x.1.n), .lit (.int .i64 x.1.sure), toldB x.1.bal, toldB x.1.tak, .lit (.string x.1.val.data.toList), x.2]
set_option maxRecDepth 20000 in
theorem elemM {H : Type} {enc : TypeId × Value → H} {w : World} {spare : Nat → Bool} {held : Bool} (m : Nat) (cs : List Value) (d : DataW H) (pl : List MemPlace) (h : DataW.trod enc Tryz.prog w 0 spare held m 26 cs = some (d, pl)) (hl : cs.length = 12) : ∃ a : Msg × DataW H, wfM a ∧ d = toldM a ∧ Fits Tryz.prog w (encM a.1) cs := by
  obtain ⟨xs, n, rfl, hx, _, hlen, hf⟩ := DataW.trod_struct Tryz.underlying26 h
  match cs, hl with
  | [c0, c1, c2, c3, c4, c5, c6, c7, c8, c9, c10, c11], _ =>
    have f0 : DataW.trod enc Tryz.prog w 0 spare held n 3 [c0] = xs[0]? := by
      have : DataW.trod enc Tryz.prog w 0 spare held n 3 (([c0, c1, c2, c3, c4, c5, c6, c7, c8, c9, c10, c11].drop 0).take (Tryz.prog.cellsOf 3)) = xs[0]? := hf 0 _ rfl
      rw [show Tryz.prog.cellsOf 3 = 1 from by kernel_rfl] at this
      exact this
    have f1 : DataW.trod enc Tryz.prog w 0 spare held n 3 [c1] = xs[1]? := by
      have : DataW.trod enc Tryz.prog w 0 spare held n 3 (([c0, c1, c2, c3, c4, c5, c6, c7, c8, c9, c10, c11].drop 1).take (Tryz.prog.cellsOf 3)) = xs[1]? := hf 1 _ rfl
      rw [show Tryz.prog.cellsOf 3 = 1 from by kernel_rfl] at this
      exact this
    have f2 : DataW.trod enc Tryz.prog w 0 spare held n 3 [c2] = xs[2]? := by
      have : DataW.trod enc Tryz.prog w 0 spare held n 3 (([c0, c1, c2, c3, c4, c5, c6, c7, c8, c9, c10, c11].drop 2).take (Tryz.prog.cellsOf 3)) = xs[2]? := hf 2 _ rfl
      rw [show Tryz.prog.cellsOf 3 = 1 from by kernel_rfl] at this
      exact this
    have f3 : DataW.trod enc Tryz.prog w 0 spare held n 3 [c3] = xs[3]? := by
      have : DataW.trod enc Tryz.prog w 0 spare held n 3 (([c0, c1, c2, c3, c4, c5, c6, c7, c8, c9, c10, c11].drop 3).take (Tryz.prog.cellsOf 3)) = xs[3]? := hf 3 _ rfl
      rw [show Tryz.prog.cellsOf 3 = 1 from by kernel_rfl] at this
      exact this
    have f4 : DataW.trod enc Tryz.prog w 0 spare held n 3 [c4] = xs[4]? := by
      have : DataW.trod enc Tryz.prog w 0 spare held n 3 (([c0, c1, c2, c3, c4, c5, c6, c7, c8, c9, c10, c11].drop 4).take (Tryz.prog.cellsOf 3)) = xs[4]? := hf 4 _ rfl
      rw [show Tryz.prog.cellsOf 3 = 1 from by kernel_rfl] at this
      exact this
    have f5 : DataW.trod enc Tryz.prog w 0 spare held n 3 [c5] = xs[5]? := by
      have : DataW.trod enc Tryz.prog w 0 spare held n 3 (([c0, c1, c2, c3, c4, c5, c6, c7, c8, c9, c10, c11].drop 5).take (Tryz.prog.cellsOf 3)) = xs[5]? := hf 5 _ rfl
      rw [show Tryz.prog.cellsOf 3 = 1 from by kernel_rfl] at this
      exact this
    have f6 : DataW.trod enc Tryz.prog w 0 spare held n 23 [c6, c7] = xs[6]? := by
      have : DataW.trod enc Tryz.prog w 0 spare held n 23 (([c0, c1, c2, c3, c4, c5, c6, c7, c8, c9, c10, c11].drop 6).take (Tryz.prog.cellsOf 23)) = xs[6]? := hf 6 _ rfl
      rw [show Tryz.prog.cellsOf 23 = 2 from by kernel_rfl] at this
      exact this
    have f7 : DataW.trod enc Tryz.prog w 0 spare held n 23 [c8, c9] = xs[7]? := by
      have : DataW.trod enc Tryz.prog w 0 spare held n 23 (([c0, c1, c2, c3, c4, c5, c6, c7, c8, c9, c10, c11].drop 8).take (Tryz.prog.cellsOf 23)) = xs[7]? := hf 7 _ rfl
      rw [show Tryz.prog.cellsOf 23 = 2 from by kernel_rfl] at this
      exact this
    have f8 : DataW.trod enc Tryz.prog w 0 spare held n 9 [c10] = xs[8]? := by
      have : DataW.trod enc Tryz.prog w 0 spare held n 9 (([c0, c1, c2, c3, c4, c5, c6, c7, c8, c9, c10, c11].drop 10).take (Tryz.prog.cellsOf 9)) = xs[8]? := hf 8 _ rfl
      rw [show Tryz.prog.cellsOf 9 = 1 from by kernel_rfl] at this
      exact this
    have f9 : DataW.trod enc Tryz.prog w 0 spare held n 24 [c11] = xs[9]? := by
      have : DataW.trod enc Tryz.prog w 0 spare held n 24 (([c0, c1, c2, c3, c4, c5, c6, c7, c8, c9, c10, c11].drop 11).take (Tryz.prog.cellsOf 24)) = xs[9]? := hf 9 _ rfl
      rw [show Tryz.prog.cellsOf 24 = 1 from by kernel_rfl] at this
      exact this
    match xs, hlen with
    | [x0, x1, x2, x3, x4, x5, x6, x7, x8, x9], _ =>
      obtain ⟨n0, h0, h0', w0⟩ := DataW.trod_int u3 f0
      simp only [List.cons.injEq, and_true] at h0
      subst h0 h0'
      obtain ⟨n1, h1, h1', w1⟩ := DataW.trod_int u3 f1
      simp only [List.cons.injEq, and_true] at h1
      subst h1 h1'
      obtain ⟨n2, h2, h2', w2⟩ := DataW.trod_int u3 f2
      simp only [List.cons.injEq, and_true] at h2
      subst h2 h2'
      obtain ⟨n3, h3, h3', w3⟩ := DataW.trod_int u3 f3
      simp only [List.cons.injEq, and_true] at h3
      subst h3 h3'
      obtain ⟨n4, h4, h4', w4⟩ := DataW.trod_int u3 f4
      simp only [List.cons.injEq, and_true] at h4
      subst h4 h4'
      obtain ⟨n5, h5, h5', w5⟩ := DataW.trod_int u3 f5
      simp only [List.cons.injEq, and_true] at h5
      subst h5 h5'
      obtain ⟨n6, h6', h6⟩ := elemB _ _ x6.1 x6.2 f6 rfl
      simp only [List.cons.injEq, and_true] at h6
      obtain ⟨rfl, rfl⟩ := h6
      obtain ⟨n7, h7', h7⟩ := elemB _ _ x7.1 x7.2 f7 rfl
      simp only [List.cons.injEq, and_true] at h7
      obtain ⟨rfl, rfl⟩ := h7
      obtain ⟨n8, h8, h8', w8⟩ := DataW.trod_string u9 f8
      simp only [List.cons.injEq, and_true] at h8
      subst h8 h8'
      obtain ⟨l9, rep9, -, len9⟩ := inner_sl str (fun _ => True) us24 (by kernel_rfl) (fun m v d pl h => by
        obtain ⟨z, hz, -, -⟩ := DataW.trod_string u9 h
        obtain rfl := (List.cons.inj hz).1
        exact ⟨z, trivial, .raw _, rfl⟩) f9
      refine ⟨(⟨n0, n1, n2, n3, n4, n5, n6, n7, n8, l9⟩, x9.1), len9, ?_, rfl, fun j Y v hY hv => ?_⟩
      · have h := congrArg Prod.fst hx
        simp only [List.map_cons, List.map_nil, h6', h7'] at h
        exact h
      match j, hY, hv with
      | 0, hY, hv => cases hY; cases hv; exact .raw _
      | 1, hY, hv => cases hY; cases hv; exact .raw _
      | 2, hY, hv => cases hY; cases hv; exact .raw _
      | 3, hY, hv => cases hY; cases hv; exact .raw _
      | 4, hY, hv => cases hY; cases hv; exact .raw _
      | 5, hY, hv => cases hY; cases hv; exact .raw _
      | 6, hY, hv => cases hY; cases hv; exact .raw _
      | 7, hY, hv => cases hY; cases hv; exact .raw _
      | 8, hY, hv => cases hY; cases hv; exact .raw _
      | 9, hY, hv => cases hY; cases hv; exact .raw _
      | 10, hY, hv => cases hY; cases hv; exact .raw _
      | 11, hY, hv => cases hY; cases hv; exact rep9
      | j + 12, hY, hv => simp at hv
abbrev laid1 : List (String × DataW Unit) := [("carillon/codec.sizes", Rows.laid_carillon_codec_sizes)]
theorem gName : Tryz.prog.globalNamed "carillon/codec.sizes" = some 0 := by kernel_rfl
theorem gType : (Tryz.prog.globals[0]?).map (·.type) = some 180 := by kernel_rfl
theorem door_met (os : Os) (args : Array Value) : laidMetH Tryz.prog laid1 ((World.doorLaid Tryz.prog 14 os).forCall (fun _ _ => 0) ⟨#[], args, []⟩).memory :=
  laidMetH_of_parts3 (fuel := 8) (laidMet_of_run' 8 (by kernel_rfl) (by kernel_rfl)) (by kernel_rfl) (by kernel_rfl)
set_option maxRecDepth 100000 in
theorem of_laid {W : World} (h : laidMetH Tryz.prog laid1 W) : ∃ ge, W.heap[0]? = some (.cells #[.int .i64 0, .int .i64 1, .int .i64 4, .int .i64 8, .int .i64 0] ge (0, 0)) := by
  rw [MakeChecks.laidMetH_plain _ _ _ (by kernel_rfl)] at h
  obtain ⟨ps, ⟨g0, t0, cs0, f0, p0, q0, hg0, ht0, hv0, hd0, -, hps⟩, -, hcell⟩ := h
  obtain rfl := Option.some.inj (gName.symm.trans hg0)
  obtain rfl := Option.some.inj (gType.symm.trans ht0)
  have u3 : Tryz.prog.underlying 3 = some (.int .i64) := by kernel_rfl
  obtain ⟨xs, m1, rfl, hx1, hlen, hn, hel⟩ := DataW.trod_array Tryz.underlying180 hd0
  have c3 : Tryz.prog.cellsOf 3 = 1 := by kernel_rfl
  have c5 : Tryz.prog.cellsOf 180 = 5 := by kernel_rfl
  rw [c3] at hel
  rw [c5] at hlen
  obtain ⟨l0⟩ := cs0
  match l0, hlen with
  | [c0, c1, c2, c3, c4], _ =>
    match xs, hn with
    | [x0, x1, x2, x3, x4], _ =>
      obtain ⟨n0, e0, e0', -⟩ := DataW.trod_int u3 (show DataW.trod _ Tryz.prog W 0 _ false m1 3 [c0] = some x0 from hel 0 (by decide))
      obtain ⟨n1, e1, e1', -⟩ := DataW.trod_int u3 (show DataW.trod _ Tryz.prog W 0 _ false m1 3 [c1] = some x1 from hel 1 (by decide))
      obtain ⟨n2, e2, e2', -⟩ := DataW.trod_int u3 (show DataW.trod _ Tryz.prog W 0 _ false m1 3 [c2] = some x2 from hel 2 (by decide))
      obtain ⟨n3, e3, e3', -⟩ := DataW.trod_int u3 (show DataW.trod _ Tryz.prog W 0 _ false m1 3 [c3] = some x3 from hel 3 (by decide))
      obtain ⟨n4, e4, e4', -⟩ := DataW.trod_int u3 (show DataW.trod _ Tryz.prog W 0 _ false m1 3 [c4] = some x4 from hel 4 (by decide))
      simp only [List.cons.injEq, and_true] at e0 e1 e2 e3 e4
      subst e0 e1 e2 e3 e4 e0' e1' e2' e3' e4'
      have hx2 := congrArg Prod.fst hx1
      simp only [Rows.laid_carillon_codec_sizes, List.map_cons, List.map_nil, DataW.agg.injEq, List.cons.injEq, DataW.lit.injEq, Lit.int.injEq, true_and, and_true] at hx2
      obtain ⟨h0, h1, h2, h3, h4⟩ := hx2
      subst h0 h1 h2 h3 h4
      obtain ⟨⟨c, t, hc⟩, -⟩ := hcell 0 0 (by rw [hps]; exact List.mem_append_left _ (List.mem_append_left _ (by simp [MemPlace.row])))
      simp only [World.var?, gName, Option.bind_some, hc, Option.some.injEq] at hv0
      exact ⟨t, by rw [hc, hv0]⟩
set_option maxRecDepth 100000 in
theorem lifted (os : Os) (started : os.Started) (H : Type) (enc : TypeId × Value → H) :
    ReturnsInHanded {} Tryz.checked os 4 .any (fun w args => (Rows.nodeBackSpec.pre enc Tryz.prog Tryz.f4 [] false w args ∧ laidMetH Tryz.prog laid1 w) ∧ sizedMet enc Tryz.prog Tryz.f4 (OpenSpec.ofChange Rows.nodeBackSpec) false w args) (Rows.nodeBackSpec.post enc Tryz.prog Tryz.f4 false true false false) := by
  refine returnsInHanded_of_change_and (C := Tryz.checked) (X := fun w _ => laidMetH Tryz.prog laid1 w) (fun _ _ _ hh h => h.of_heap hh) own started (by kernel_rfl) Tryz.func4
    (ChangeSpec.witness_shaped (enc := enc) (C := Tryz.checked) (os := os) (X := fun w _ => laidMetH Tryz.prog laid1 w) false (World.doorLaid Tryz.prog 14 os) #[.agg #[.int .i64 0, .int .i64 0, .int .i64 0, .int .i64 0, .int .i64 0, .int .i64 0, .int .i64 0, .int .i64 0, .int .i64 0, .int .i64 0, .string ByteArray.empty, .slice none 0 0], .string ByteArray.empty] 8 rfl (World.shaped_of_RefB (by kernel_rfl) (by kernel_rfl)) (by kernel_rfl) (by kernel_rfl) (by kernel_rfl) (door_met os _)) ?_
  intro W base args ds gs before hval0 hW hcnd hsz0 hL _
  obtain ⟨ge, hG⟩ := of_laid hL
  have hsz : (DataW.weightsEach Tryz.prog (Tryz.f4.params.toList ++ Rows.nodeBackSpec.plain.varTypes Tryz.prog) (ds ++ gs)).all (· ≤ reachBytes) = true := hsz0
  have hval : ∀ (j : Nat) t v, Tryz.f4.params[j]? = some t → args[j]? = some v → Value.okWide Tryz.prog W .any base t v := hval0
  have hW' := hW
  obtain ⟨p, q, hA0, hV, rfl, hfz, hnd⟩ := hW
  have hA : DataW.TrodAll enc Tryz.prog W 0 (fun _ => true) true Tryz.f4.params.toList args.toList ds p := hA0
  rw [Tryz.params4] at hA hval hsz
  obtain ⟨v0, vs0, d0, ds0, p0, q0, hargs, rfl, rfl, h0, r0⟩ := trodAll_cons hA
  obtain ⟨v1, vs1, d1, ds1, p1, q1, rfl, rfl, rfl, h1, r1⟩ := trodAll_cons r0
  obtain ⟨rfl, rfl, rfl⟩ := trodAll_nil r1
  obtain rfl : args = #[v0, v1] := by cases args; simp_all
  obtain ⟨rfl, rfl⟩ := trodVars_none hV
  have k0 := h0
  obtain ⟨x0, rep0, wf0, hdd0, lt0⟩ := open_deep1 (fun a : Msg × DataW H => encM a.1) toldM wfM Tryz.underlying26 (by kernel_rfl) elemM (fun a => ⟨_, rfl⟩) (hval 0 26 v0 rfl rfl) h0
  have hl0 : x0.1.texts.length * 16 ≤ 140737488351232 := by
    rcases wf0 with ⟨-, h3⟩ | ⟨y, q, h3, h4⟩
    · rw [h3]; simp
    · have h5 := sized_inner1 hsz (j := 0) rfl (congrArg some hdd0) Tryz.underlying26 (q := 9) rfl us24 (congrArg some h3)
      rw [show Tryz.prog.bytesOf 9 = 16 from by kernel_rfl] at h5
      rw [h4]; exact h5
  obtain ⟨a0, hx0⟩ : ∃ a, a = x0.1 := ⟨_, rfl⟩
  have rep0 : Rep Tryz.prog (imm0 W) W (encM a0) v0 := by rw [hx0]; exact rep0
  have hl0 : a0.texts.length * 16 ≤ 140737488351232 := by rw [hx0]; exact hl0
  obtain ⟨a1, rfl, rfl, rfl, y1⟩ := open_string u9 (hval 1 9 v1 rfl rfl) h1
  have sz1 : a1.size ≤ 140737488351232 := by
    have z := sized_string hsz (j := 1) (t := 9) rfl rfl
    rw [Array.length_toList] at z
    exact z
  clear hA0 hval0 hsz0 hsz
  refine (call_of_soundG (G := fun b => if b = 0 then some (AObj.it (.cells #[.int .i64 0, .int .i64 1, .int .i64 4, .int .i64 8, .int .i64 0] ge (0, 0))) else none) (glob_one hG) (args := [encM a0, .raw (.string a1)]) rfl (SoundCall.mono (snd4 a0 a1 ge (0, 0) _ rfl (by omega) (by omega)) fun _ _ h => h.1) ?_).mono fun e W' ⟨he, bel⟩ => ?_
  · intro i A v hA hv
    match i, hA, hv with
    | 0, hA, hv => simp at hA hv; subst hA; subst hv; exact ⟨rep0, by simp [AVal.free, encM]⟩
    | 1, hA, hv => simp at hA hv; subst hA; subst hv; exact ⟨.raw _, by simp [AVal.free]⟩
    | n + 2, hA, hv => simp at hA
  subst he
  exact ⟨_, rfl, _, _, _, [], _, [], hW', trodAll_mk1 (shut_bool Tryz.underlying4 _), (trodAll_cons_mk (Below.trod laidOut (by kernel_rfl) (of_decide_eq_true (by kernel_rfl)) k0 bel lt0) (trodAll_cons_mk (shut_string u9 y1) trodAll_mk0)), rfl, bel.frame _, fun h => by cases h⟩
theorem joined_mk {P : Program} {f : FuncId} {fn : Func} {s : ChangeSpec} {c : OpenClaim} (k1 : c.wf (OpenSpec.ofChange s) = true) (k2 : laidOutB P = true) (k3 : mapsRowed P = true) (k4 : fn.params.all (P.readableRec ·) = true) (k5 : namedTie P c.named s.vars = true) (k6 : (c.stops == []) = true) (k7 : (P.stops == []) = true) (k8 : (c.knobs == []) = true) (k9 : (P.stopKnobs == []) = true) (k10 : (c.inPlace == P.inPlace f) = true) (k11 : (c.unfollowed == P.unfollowed f) = true) (k12 : (c.recurses == P.recurses f) = true) (k13 : (c.named == P.varsNamed f) = true) (k14 : (c.maps == (fn.params.toList ++ s.plain.varTypes P).any (P.mapsRec ·)) = true) (k15 : (c.ifaces == (fn.params.toList ++ s.plain.varTypes P).any (P.ifacesRec ·)) = true) (k16 : (c.mapsOut == P.mapsAmong fn.resultTypes.toList) = true) (k17 : (c.loops == (fn.params.toList ++ s.plain.varTypes P).any (P.loopsFrom ·)) = true) (k18 : (c.wideKeys == (fn.params.toList ++ s.plain.varTypes P ++ fn.resultTypes.toList).any (P.wideKeysFrom ·)) = true) (k19 : s.vars.all (P.varReadable ·) = true) (k20 : fn.resultTypes.all (fun t => P.readableRec t && decide (t < P.types.size)) = true) (k21 : (c.ifacesOut == fn.resultTypes.toList.any (P.ifacesRec ·)) = true) (k22 : (c.loopsOut == fn.resultTypes.toList.any (P.loopsFrom ·)) = true) (k23 : (c.plainKeys == P.plainKeys) = true) (k24 : c.shortTexts.isNone = true) (k25 : P.stopsHeard = true) (k26 : P.mayEnter = true) (k27 : (c.lifted == P.liftsFinal) = true) (k28 : (P.make == some c.make) = true) (k29 : (c.kinds == (if c.domain.isEmpty then [] else fn.params.toList.map fun t => match P.underlying t with | some (.int k) => some k | _ => none)) = true) (k30 : (c.pinned == c.pinnedBy) = true) (k31 : (c.veiled == (fn.params.toList ++ s.plain.varTypes P ++ fn.resultTypes.toList).any (P.veiledRec ·)) = true) (k32 : c.veiledFits P fn.params.toList (fn.params.toList ++ s.plain.varTypes P ++ fn.resultTypes.toList) = true) : joinedFacts P f fn s c = true := by
  unfold joinedFacts
  exact (Bool.and_eq_true_iff.2 ⟨(Bool.and_eq_true_iff.2 ⟨(Bool.and_eq_true_iff.2 ⟨(Bool.and_eq_true_iff.2 ⟨(Bool.and_eq_true_iff.2 ⟨(Bool.and_eq_true_iff.2 ⟨(Bool.and_eq_true_iff.2 ⟨(Bool.and_eq_true_iff.2 ⟨(Bool.and_eq_true_iff.2 ⟨(Bool.and_eq_true_iff.2 ⟨(Bool.and_eq_true_iff.2 ⟨(Bool.and_eq_true_iff.2 ⟨(Bool.and_eq_true_iff.2 ⟨(Bool.and_eq_true_iff.2 ⟨(Bool.and_eq_true_iff.2 ⟨(Bool.and_eq_true_iff.2 ⟨(Bool.and_eq_true_iff.2 ⟨(Bool.and_eq_true_iff.2 ⟨(Bool.and_eq_true_iff.2 ⟨(Bool.and_eq_true_iff.2 ⟨(Bool.and_eq_true_iff.2 ⟨(Bool.and_eq_true_iff.2 ⟨(Bool.and_eq_true_iff.2 ⟨(Bool.and_eq_true_iff.2 ⟨(Bool.and_eq_true_iff.2 ⟨(Bool.and_eq_true_iff.2 ⟨(Bool.and_eq_true_iff.2 ⟨(Bool.and_eq_true_iff.2 ⟨(Bool.and_eq_true_iff.2 ⟨(Bool.and_eq_true_iff.2 ⟨(Bool.and_eq_true_iff.2 ⟨k1, k2⟩), k3⟩), k4⟩), k5⟩), k6⟩), k7⟩), k8⟩), k9⟩), k10⟩), k11⟩), k12⟩), k13⟩), k14⟩), k15⟩), k16⟩), k17⟩), k18⟩), k19⟩), k20⟩), k21⟩), k22⟩), k23⟩), k24⟩), k25⟩), k26⟩), k27⟩), k28⟩), k29⟩), k30⟩), k31⟩), k32⟩)
theorem jk1 : Rows.nodeBackRow.wf (OpenSpec.ofChange Rows.nodeBackSpec) = true := by kernel_rfl
theorem jk3 : mapsRowed Tryz.prog = true := by kernel_rfl
theorem jk5 : namedTie Tryz.prog Rows.nodeBackRow.named Rows.nodeBackSpec.vars = true := by kernel_rfl
theorem jk10 : (Rows.nodeBackRow.inPlace == Tryz.prog.inPlace 4) = true := by kernel_rfl
theorem jk11 : (Rows.nodeBackRow.unfollowed == Tryz.prog.unfollowed 4) = true := by kernel_rfl
theorem jk12 : (Rows.nodeBackRow.recurses == Tryz.prog.recurses 4) = true := by kernel_rfl
theorem jk13 : (Rows.nodeBackRow.named == Tryz.prog.varsNamed 4) = true := by kernel_rfl
theorem jk23 : (Rows.nodeBackRow.plainKeys == Tryz.prog.plainKeys) = true := by kernel_rfl
theorem jk25 : Tryz.prog.stopsHeard = true := by kernel_rfl
theorem jk26 : Tryz.prog.mayEnter = true := by kernel_rfl
theorem jk27 : (Rows.nodeBackRow.lifted == Tryz.prog.liftsFinal) = true := by kernel_rfl
theorem closed : joinedFacts Tryz.prog 4 Tryz.f4 Rows.nodeBackSpec Rows.nodeBackRow = true := joined_mk jk1 laidOut jk3 (by kernel_rfl) jk5 (by kernel_rfl) (by kernel_rfl) (by kernel_rfl) (by kernel_rfl) jk10 jk11 jk12 jk13 (by kernel_rfl) (by kernel_rfl) (by kernel_rfl) (by kernel_rfl) (by kernel_rfl) (by kernel_rfl) (by kernel_rfl) (by kernel_rfl) (by kernel_rfl) jk23 (by kernel_rfl) jk25 jk26 jk27 (by kernel_rfl) (by kernel_rfl) (by kernel_rfl) (by kernel_rfl) (by kernel_rfl)
theorem named : Tryz.prog.funcNamed Rows.nodeBackRow.func = some 4 := by kernel_rfl
theorem inst : Tryz.f4.isInstance Tryz.prog Rows.nodeBackRow.origin Rows.nodeBackRow.targs := of_decide_eq_true (by kernel_rfl)
theorem wrap : Tryz.f4.isWrapper Tryz.prog Rows.nodeBackRow.wrapper Rows.nodeBackRow.mainSum := by unfold Func.isWrapper; first | (rw [if_pos (by decide +kernel)]; kernel_rfl) | (rw [if_neg (by decide +kernel)]; exact ⟨rfl, rfl⟩)
theorem over : Rows.nodeBackRow.holds Tryz.pinned (OpenSpec.ofChange Rows.nodeBackSpec) :=
  OpenClaim.holds_of_wide 4 Tryz.f4 rfl rfl rfl rfl rfl rfl rfl ⟨rfl, rfl, rfl, rfl, rfl⟩ rfl rfl rfl rfl rfl named Tryz.func4 closed inst wrap
    (fun os started H enc _ => lifted os started H enc)
theorem proved : Rows.NodeBackSaid := over
theorem byText : Rows.nodeBackRow.wfByText (OpenSpec.ofChange Rows.nodeBackSpec) = true := by kernel_rfl
theorem mainIs : Tryz.prog.mainIs = some (Rows.nodeBackCard.stood.harness.1, Rows.nodeBackCard.stood.harness.2.toList) := by kernel_rfl
theorem looks : false = Tryz.prog.looks [] := by kernel_rfl
theorem goesBy : false = Rows.nodeBackRow.goesBy Tryz.prog := by kernel_rfl
set_option maxRecDepth 100000 in
theorem card : Rows.NodeBackCardSaid :=
  Claim7.holds_tied_plain_at .later [] [.data] true Rows.nodeBackCard.stood.harness false
    proved (fun _ h => by cases h) byText (fun _ h => by cases h) nodeBack_row_tie rfl ⟨rfl, rfl⟩ mainIs rfl
    (fun f fn hf hfn => by
      obtain rfl : f = 4 := Option.some.inj (named.symm.trans hf) |>.symm
      obtain rfl : fn = Tryz.f4 := (Option.some.inj (Tryz.func4.symm.trans hfn)).symm
      exact ⟨looks, fun j t ht => by
        rw [Tryz.params4] at ht
        have hm : t ∈ [26, 9] := by simpa using Array.mem_of_getElem? ht
        have hall : ([26, 9].all fun u => !Tryz.prog.wantsStandIn u) = true := by kernel_rfl
        exact (show Tryz.prog.wantsStandIn t = false by simpa using List.all_eq_true.1 hall t hm)⟩)
    goesBy
#print axioms card
#print axioms proved
end Go.Proofs.YthmhdhmfkegpiaaGreatDoor.nodeBack
namespace Go.Proofs.YthmhdhmfkegpiaaGreatDoor
/-- The row, under a short name, for the claim. -/
theorem nodeBack_holds : Rows.NodeBackCardSaid := nodeBack.card
end Go.Proofs.YthmhdhmfkegpiaaGreatDoor
