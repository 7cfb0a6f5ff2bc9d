/- GaussInverses is proved for every input: the call returns true, and the arguments read as before. The functions that it reaches are walked in the text L3, over the abstract machine of the texts Am1 to Am40. -/
import Derived.Test.YtlfghpdopponaaaL3
import Derived.Test.YtlfghpdopponaaaAm41
import Derived.Test.YtlfghpdopponaaaRows
import Derived.WalkKit
import Derived.ProofKit
import Derived.OpenShut
import Derived.ShutString
import Derived.ChangeOld
import Derived.Below
import Derived.SizedLaws
import Derived.Carry
import Derived.SliceStrings
namespace Go.Proofs.Ytlfghpdopponaaa.gaussInverses
open Go.ChangeShapes Go.WideShapes Go.ChangeAt Go.RowKit Go.Am C3
open Go.ChangeMaps (open_string shut_string)
set_option linter.unusedVariables false
theorem own : ownKnob Try.prog.godebug = none := by kernel_rfl
theorem laidOut : laidOutB Try.prog = true := by kernel_rfl
theorem u3 : Try.prog.underlying 3 = some (.int .i64) := by kernel_rfl
def toldPr {H : Type} (r : Pr) : DataW H := .agg [.lit (.int .i64 r.re), .lit (.int .i64 r.im)]
theorem elemPr {H : Type} {enc : TypeId × Value → H} {w : World} {spare : Nat → Bool} {held : Bool} (m : Nat) (cs : List Value) (d : DataW H) (pl : List MemPlace) (h : DataW.trod enc Try.prog w 0 spare held m 23 cs = some (d, pl)) (hl : cs.length = 2) :
    ∃ a : Pr, True ∧ d = toldPr a ∧ Plain (encP a) cs ∧ pl = [] := by
  obtain ⟨xs, n, rfl, hx, _, hlen, hf⟩ := DataW.trod_struct Try.underlying23 h
  match cs, hl with
  | [c0, c1], _ =>
    have f0 : DataW.trod enc Try.prog w 0 spare held n 3 [c0] = xs[0]? := by
      have : DataW.trod enc Try.prog w 0 spare held n 3 (([c0, c1].drop 0).take (Try.prog.cellsOf 3)) = xs[0]? := hf 0 _ rfl
      rw [show Try.prog.cellsOf 3 = 1 from by kernel_rfl] at this
      exact this
    have f1 : DataW.trod enc Try.prog w 0 spare held n 3 [c1] = xs[1]? := by
      have : DataW.trod enc Try.prog w 0 spare held n 3 (([c0, c1].drop 1).take (Try.prog.cellsOf 3)) = xs[1]? := hf 1 _ rfl
      rw [show Try.prog.cellsOf 3 = 1 from by kernel_rfl] at this
      exact this
    match xs, hlen with
    | [x0, x1], _ =>
      obtain ⟨n0, h0, h0', w0⟩ := DataW.trod_int u3 f0
      simp only [List.cons.injEq, and_true] at h0
      subst h0 h0'
      obtain ⟨n1, h1, h1', w1⟩ := DataW.trod_int u3 f1
      simp only [List.cons.injEq, and_true] at h1
      subst h1 h1'
      refine ⟨⟨n0, n1⟩, trivial, congrArg Prod.fst hx, ?_, congrArg Prod.snd hx⟩
      rfl
set_option maxRecDepth 100000 in
theorem lifted (os : Os) (started : os.Started) (H : Type) (enc : TypeId × Value → H) :
    ReturnsInHanded {} Try.checked os 8 .any (Rows.gaussInversesSpec.pre6 enc Try.prog Try.f8 Rows.gaussInversesRow.domain false) (Rows.gaussInversesSpec.post enc Try.prog Try.f8 false true false false) := by
  refine returnsInHanded_of_change_sized (C := Try.checked) own started (by kernel_rfl) Try.func8
    (ChangeSpec.witness6 (enc := enc) (C := Try.checked) false ⟨#[], #[.agg #[.int .i64 0, .int .i64 0], .int .i64 0, .int .i64 0], []⟩ 8 (by kernel_rfl) (by kernel_rfl) (by kernel_rfl) (by kernel_rfl)) ?_
  intro W base args ds gs before hval0 hW hcnd hsz0 _
  have hsz : (DataW.weightsEach Try.prog (Try.f8.params.toList ++ Rows.gaussInversesSpec.plain.varTypes Try.prog) (ds ++ gs)).all (· ≤ reachBytes) = true := hsz0
  have hval : ∀ (j : Nat) t v, Try.f8.params[j]? = some t → args[j]? = some v → Value.okWide Try.prog W .any base t v := hval0
  have hW' := hW
  obtain ⟨p, q, hA0, hV, rfl, hfz, hnd⟩ := hW
  have hA : DataW.TrodAll enc Try.prog W 0 (fun _ => true) true Try.f8.params.toList args.toList ds p := hA0
  rw [Try.params8] at hA hval hsz
  obtain ⟨v0, vs0, d0, ds0, p0, q0, hargs, rfl, rfl, h0, r0⟩ := trodAll_cons hA
  obtain ⟨v1, vs1, d1, ds1, p1, q1, rfl, rfl, rfl, h1, r1⟩ := trodAll_cons r0
  obtain ⟨v2, vs2, d2, ds2, p2, q2, rfl, rfl, rfl, h2, r2⟩ := trodAll_cons r1
  obtain ⟨rfl, rfl, rfl⟩ := trodAll_nil r2
  obtain rfl : args = #[v0, v1, v2] := by cases args; simp_all
  obtain ⟨rfl, rfl⟩ := trodVars_none hV
  have k0 := h0
  obtain ⟨a0, rep0, wf0, -, lt0⟩ := open_flat1 encP toldPr (fun a => True) Try.underlying23 (by kernel_rfl) elemPr (fun a => ⟨_, rfl⟩) (hval 0 23 v0 rfl rfl) h0
  obtain ⟨a1, rfl, rfl, rfl, w1⟩ := open_int u3 (hval 1 3 v1 rfl rfl) h1
  obtain ⟨a2, rfl, rfl, rfl, w2⟩ := open_int u3 (hval 2 3 v2 rfl rfl) h2
  clear hA0 hval0 hsz0 hsz
  have i1 := i64_of w1
  have i2 := i64_of w2
  refine (call_of_sound (args := [encP a0, .raw (.int .i64 a1), .raw (.int .i64 a2)]) rfl (inverses a0 a1 a2 _ i1 i2) ?_).mono fun e W' ⟨he, bel⟩ => ?_
  · intro i A v hA hv
    match i, hA, hv with
    | 0, hA, hv => simp at hA hv; subst hA; subst hv; exact ⟨rep0, by simp [AVal.free, encP]⟩
    | 1, hA, hv => simp at hA hv; subst hA; subst hv; exact ⟨.raw _, by simp [AVal.free]⟩
    | 2, hA, hv => simp at hA hv; subst hA; subst hv; exact ⟨.raw _, by simp [AVal.free]⟩
    | n + 3, hA, hv => simp at hA
  subst he
  exact ⟨_, rfl, _, _, _, [], _, [], hW', trodAll_mk1 (shut_bool Try.underlying4 _), (trodAll_cons_mk (Below.trod laidOut (by kernel_rfl) (of_decide_eq_true (by kernel_rfl)) k0 bel lt0) (trodAll_cons_mk (shut_int u3 w1) (trodAll_cons_mk (shut_int u3 w2) trodAll_mk0))), rfl, bel.frame _, fun h => by cases h⟩
theorem over : Rows.gaussInversesRow.holds Try.pinned (OpenSpec.ofChange Rows.gaussInversesSpec) :=
  OpenClaim.holds_of_wide 8 Try.f8 rfl rfl rfl rfl rfl rfl rfl ⟨rfl, rfl, rfl, rfl, rfl⟩ rfl rfl rfl rfl rfl (by kernel_rfl) Try.func8 (by kernel_rfl)
    (of_decide_eq_true (by kernel_rfl)) (by unfold Func.isWrapper; first | (rw [if_pos (by decide +kernel)]; kernel_rfl) | (rw [if_neg (by decide +kernel)]; exact ⟨rfl, rfl⟩))
    (fun os started H enc _ => lifted os started H enc)
theorem proved : Rows.GaussInversesSaid := over
#print axioms proved
end Go.Proofs.Ytlfghpdopponaaa.gaussInverses
namespace Go.Proofs.Ytlfghpdopponaaa
/-- The row, under a short name, for the claim. -/
theorem gaussInverses_holds : Rows.GaussInversesSaid := gaussInverses.proved
end Go.Proofs.Ytlfghpdopponaaa
