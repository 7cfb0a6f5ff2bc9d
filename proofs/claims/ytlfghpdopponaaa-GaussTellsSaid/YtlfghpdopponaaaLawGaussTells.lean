/- GaussTells is proved for every input: the call returns true, and the arguments read as before. The functions that it reaches are walked in the text L3, over the abstract machine of the texts Am1 to Am40. -/
import Derived.Test.YtlfghpdopponaaaL3
import Derived.Test.YtlfghpdopponaaaAm41
import Derived.Test.YtlfghpdopponaaaRows
import Derived.WalkKit
import Derived.ProofKit
import Derived.OpenShut
import Derived.ShutString
import Derived.ChangeOld
import Derived.Below
import Derived.SizedLaws
import Derived.Carry
import Derived.SliceStrings
namespace Go.Proofs.Ytlfghpdopponaaa.gaussTells
open Go.ChangeShapes Go.WideShapes Go.ChangeAt Go.RowKit Go.Am C3
open Go.ChangeMaps (open_string shut_string)
set_option linter.unusedVariables false
theorem own : ownKnob Try.prog.godebug = none := by kernel_rfl
theorem laidOut : laidOutB Try.prog = true := by kernel_rfl
theorem u3 : Try.prog.underlying 3 = some (.int .i64) := by kernel_rfl
theorem u5 : Try.prog.underlying 5 = some (.int .u8) := by kernel_rfl
theorem u9 : Try.prog.underlying 9 = some .string := by kernel_rfl
def toldPr {H : Type} (r : Pr) : DataW H := .agg [.lit (.int .i64 r.re), .lit (.int .i64 r.im)]
theorem elemPr {H : Type} {enc : TypeId × Value → H} {w : World} {spare : Nat → Bool} {held : Bool} (m : Nat) (cs : List Value) (d : DataW H) (pl : List MemPlace) (h : DataW.trod enc Try.prog w 0 spare held m 23 cs = some (d, pl)) (hl : cs.length = 2) :
    ∃ a : Pr, True ∧ d = toldPr a ∧ Plain (encP a) cs ∧ pl = [] := by
  obtain ⟨xs, n, rfl, hx, _, hlen, hf⟩ := DataW.trod_struct Try.underlying23 h
  match cs, hl with
  | [c0, c1], _ =>
    have f0 : DataW.trod enc Try.prog w 0 spare held n 3 [c0] = xs[0]? := by
      have : DataW.trod enc Try.prog w 0 spare held n 3 (([c0, c1].drop 0).take (Try.prog.cellsOf 3)) = xs[0]? := hf 0 _ rfl
      rw [show Try.prog.cellsOf 3 = 1 from by kernel_rfl] at this
      exact this
    have f1 : DataW.trod enc Try.prog w 0 spare held n 3 [c1] = xs[1]? := by
      have : DataW.trod enc Try.prog w 0 spare held n 3 (([c0, c1].drop 1).take (Try.prog.cellsOf 3)) = xs[1]? := hf 1 _ rfl
      rw [show Try.prog.cellsOf 3 = 1 from by kernel_rfl] at this
      exact this
    match xs, hlen with
    | [x0, x1], _ =>
      obtain ⟨n0, h0, h0', w0⟩ := DataW.trod_int u3 f0
      simp only [List.cons.injEq, and_true] at h0
      subst h0 h0'
      obtain ⟨n1, h1, h1', w1⟩ := DataW.trod_int u3 f1
      simp only [List.cons.injEq, and_true] at h1
      subst h1 h1'
      refine ⟨⟨n0, n1⟩, trivial, congrArg Prod.fst hx, ?_, congrArg Prod.snd hx⟩
      rfl
set_option maxRecDepth 100000 in
theorem lifted (os : Os) (started : os.Started) (H : Type) (enc : TypeId × Value → H) :
    ReturnsInHanded {} Try.checked os 3 .any (Rows.gaussTellsSpec.pre6 enc Try.prog Try.f3 Rows.gaussTellsRow.domain false) (Rows.gaussTellsSpec.post enc Try.prog Try.f3 false true false false) := by
  refine returnsInHanded_of_change_sized (C := Try.checked) own started (by kernel_rfl) Try.func3
    (ChangeSpec.witness6 (enc := enc) (C := Try.checked) false ⟨#[], #[.agg #[.int .i64 0, .int .i64 0], .string ByteArray.empty, .int .i64 0, .int .u8 0], []⟩ 8 (by kernel_rfl) (by kernel_rfl) (by kernel_rfl) (by kernel_rfl)) ?_
  intro W base args ds gs before hval0 hW hcnd hsz0 _
  have hsz : (DataW.weightsEach Try.prog (Try.f3.params.toList ++ Rows.gaussTellsSpec.plain.varTypes Try.prog) (ds ++ gs)).all (· ≤ reachBytes) = true := hsz0
  have hval : ∀ (j : Nat) t v, Try.f3.params[j]? = some t → args[j]? = some v → Value.okWide Try.prog W .any base t v := hval0
  have hW' := hW
  obtain ⟨p, q, hA0, hV, rfl, hfz, hnd⟩ := hW
  have hA : DataW.TrodAll enc Try.prog W 0 (fun _ => true) true Try.f3.params.toList args.toList ds p := hA0
  rw [Try.params3] at hA hval hsz
  obtain ⟨v0, vs0, d0, ds0, p0, q0, hargs, rfl, rfl, h0, r0⟩ := trodAll_cons hA
  obtain ⟨v1, vs1, d1, ds1, p1, q1, rfl, rfl, rfl, h1, r1⟩ := trodAll_cons r0
  obtain ⟨v2, vs2, d2, ds2, p2, q2, rfl, rfl, rfl, h2, r2⟩ := trodAll_cons r1
  obtain ⟨v3, vs3, d3, ds3, p3, q3, rfl, rfl, rfl, h3, r3⟩ := trodAll_cons r2
  obtain ⟨rfl, rfl, rfl⟩ := trodAll_nil r3
  obtain rfl : args = #[v0, v1, v2, v3] := by cases args; simp_all
  obtain ⟨rfl, rfl⟩ := trodVars_none hV
  have k0 := h0
  obtain ⟨a0, rep0, wf0, -, lt0⟩ := open_flat1 encP toldPr (fun a => True) Try.underlying23 (by kernel_rfl) elemPr (fun a => ⟨_, rfl⟩) (hval 0 23 v0 rfl rfl) h0
  obtain ⟨a1, rfl, rfl, rfl, y1⟩ := open_string u9 (hval 1 9 v1 rfl rfl) h1
  have sz1 : a1.size ≤ 140737488351232 := by
    have z := sized_string hsz (j := 1) (t := 9) rfl rfl
    rw [Array.length_toList] at z
    exact z
  obtain ⟨a2, rfl, rfl, rfl, w2⟩ := open_int u3 (hval 2 3 v2 rfl rfl) h2
  obtain ⟨a3, rfl, rfl, rfl, w3⟩ := open_int u5 (hval 3 5 v3 rfl rfl) h3
  clear hA0 hval0 hsz0 hsz
  obtain ⟨u, hu⟩ := u8_of a3 w3
  have i2 := i64_of w2
  have hcall : SoundCall Try.prog 3 [encP a0, .raw (.string a1), .raw (.int .i64 a2), .raw (.int .u8 a3)] (fun _ => none) fun r M' => r = .raw (.bool true) ∧ M' = (fun _ => none) := by
    rw [hu]
    exact tells a0 a1 a2 u _ (by omega) i2
  refine (call_of_sound (args := [encP a0, .raw (.string a1), .raw (.int .i64 a2), .raw (.int .u8 a3)]) rfl (hcall) ?_).mono fun e W' ⟨he, bel⟩ => ?_
  · intro i A v hA hv
    match i, hA, hv with
    | 0, hA, hv => simp at hA hv; subst hA; subst hv; exact ⟨rep0, by simp [AVal.free, encP]⟩
    | 1, hA, hv => simp at hA hv; subst hA; subst hv; exact ⟨.raw _, by simp [AVal.free]⟩
    | 2, hA, hv => simp at hA hv; subst hA; subst hv; exact ⟨.raw _, by simp [AVal.free]⟩
    | 3, hA, hv => simp at hA hv; subst hA; subst hv; exact ⟨.raw _, by simp [AVal.free]⟩
    | n + 4, hA, hv => simp at hA
  subst he
  exact ⟨_, rfl, _, _, _, [], _, [], hW', trodAll_mk1 (shut_bool Try.underlying4 _), (trodAll_cons_mk (Below.trod laidOut (by kernel_rfl) (of_decide_eq_true (by kernel_rfl)) k0 bel lt0) (trodAll_cons_mk (shut_string u9 y1) (trodAll_cons_mk (shut_int u3 w2) (trodAll_cons_mk (shut_int u5 w3) trodAll_mk0)))), rfl, bel.frame _, fun h => by cases h⟩
theorem over : Rows.gaussTellsRow.holds Try.pinned (OpenSpec.ofChange Rows.gaussTellsSpec) :=
  OpenClaim.holds_of_wide 3 Try.f3 rfl rfl rfl rfl rfl rfl rfl ⟨rfl, rfl, rfl, rfl, rfl⟩ rfl rfl rfl rfl rfl (by kernel_rfl) Try.func3 (by kernel_rfl)
    (of_decide_eq_true (by kernel_rfl)) (by unfold Func.isWrapper; first | (rw [if_pos (by decide +kernel)]; kernel_rfl) | (rw [if_neg (by decide +kernel)]; exact ⟨rfl, rfl⟩))
    (fun os started H enc _ => lifted os started H enc)
theorem proved : Rows.GaussTellsSaid := over
#print axioms proved
end Go.Proofs.Ytlfghpdopponaaa.gaussTells
namespace Go.Proofs.Ytlfghpdopponaaa
/-- The row, under a short name, for the claim. -/
theorem gaussTells_holds : Rows.GaussTellsSaid := gaussTells.proved
end Go.Proofs.Ytlfghpdopponaaa
