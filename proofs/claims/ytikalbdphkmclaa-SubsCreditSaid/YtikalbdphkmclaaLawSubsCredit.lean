/- SubsCredit is proved for every input: the call returns true, and the arguments read as before. The functions that it reaches are walked in the text C17, over the abstract machine of the texts Am1 to Am40. -/
import Derived.Test.YtikalbdphkmclaaC17
import Derived.Test.YtikalbdphkmclaaAm41
import Derived.Test.YtikalbdphkmclaaRows
import Derived.WalkKit
import Derived.ProofKit
import Derived.OpenShut
import Derived.ShutString
import Derived.ChangeOld
import Derived.Below
import Derived.SizedLaws
import Derived.Carry
import Derived.SliceStrings
namespace Go.Proofs.Ytikalbdphkmclaa.subsCredit
open Go.ChangeShapes Go.WideShapes Go.ChangeAt Go.RowKit Go.Am C15
open Go.ChangeMaps (open_string shut_string)
set_option linter.unusedVariables false
theorem own : ownKnob Try.prog.godebug = none := by kernel_rfl
theorem laidOut : laidOutB Try.prog = true := by kernel_rfl
theorem u3 : Try.prog.underlying 3 = some (.int .i64) := by kernel_rfl
theorem us42 : Try.prog.underlying 42 = some (.slice 3) := by kernel_rfl
def toldInt {H : Type} (n : Int) : DataW H := .lit (.int .i64 n)
theorem elemints3 {H : Type} {enc : TypeId × Value → H} {w : World} {spare : Nat → Bool} {held : Bool} (m : Nat) (cs : List Value) (d : DataW H) (pl : List MemPlace) (h : DataW.trod enc Try.prog w 0 spare held m 3 cs = some (d, pl)) (hl : cs.length = 1) :
    ∃ a : Int, (Lit.int .i64 a).wf = true ∧ d = toldInt a ∧ Plain (encI a) cs ∧ pl = [] := by
  obtain ⟨a, rfl, hx, hw⟩ := DataW.trod_int u3 h
  exact ⟨a, hw, congrArg Prod.fst hx, rfl, congrArg Prod.snd hx⟩
set_option maxRecDepth 100000 in
theorem lifted (os : Os) (started : os.Started) (H : Type) (enc : TypeId × Value → H) :
    ReturnsInHanded {} Try.checked os 7 .any (Rows.subsCreditSpec.pre6 enc Try.prog Try.f7 Rows.subsCreditRow.domain false) (Rows.subsCreditSpec.post enc Try.prog Try.f7 false true false false) := by
  refine returnsInHanded_of_change_sized (C := Try.checked) own started (by kernel_rfl) Try.func7
    (ChangeSpec.witness6 (enc := enc) (C := Try.checked) false ⟨#[], #[.int .i64 0, .int .i64 0, .slice none 0 0], []⟩ 8 (by kernel_rfl) (by kernel_rfl) (by kernel_rfl) (by kernel_rfl)) ?_
  intro W base args ds gs before hval0 hW hcnd hsz0 _
  have hsz : (DataW.weightsEach Try.prog (Try.f7.params.toList ++ Rows.subsCreditSpec.plain.varTypes Try.prog) (ds ++ gs)).all (· ≤ reachBytes) = true := hsz0
  have hval : ∀ (j : Nat) t v, Try.f7.params[j]? = some t → args[j]? = some v → Value.okWide Try.prog W .any base t v := hval0
  have hW' := hW
  obtain ⟨p, q, hA0, hV, rfl, hfz, hnd⟩ := hW
  have hA : DataW.TrodAll enc Try.prog W 0 (fun _ => true) true Try.f7.params.toList args.toList ds p := hA0
  rw [Try.params7] at hA hval hsz
  obtain ⟨v0, vs0, d0, ds0, p0, q0, hargs, rfl, rfl, h0, r0⟩ := trodAll_cons hA
  obtain ⟨v1, vs1, d1, ds1, p1, q1, rfl, rfl, rfl, h1, r1⟩ := trodAll_cons r0
  obtain ⟨v2, vs2, d2, ds2, p2, q2, rfl, rfl, rfl, h2, r2⟩ := trodAll_cons r1
  obtain ⟨rfl, rfl, rfl⟩ := trodAll_nil r2
  obtain rfl : args = #[v0, v1, v2] := by cases args; simp_all
  obtain ⟨rfl, rfl⟩ := trodVars_none hV
  obtain ⟨a0, rfl, rfl, rfl, w0⟩ := open_int u3 (hval 0 3 v0 rfl rfl) h0
  obtain ⟨a1, rfl, rfl, rfl, w1⟩ := open_int u3 (hval 1 3 v1 rfl rfl) h1
  have k2 := h2
  obtain ⟨l2, rep2, wf2, hd2, hm2, lt2⟩ := open_flat encI toldInt (fun a => (Lit.int .i64 a).wf = true) us42 (by kernel_rfl) (by decide) elemints3 (hval 2 42 v2 rfl rfl) h2
  have hlen2 : l2.length * 8 ≤ 140737488351232 := by
    rcases hd2 with ⟨rfl, rfl⟩ | ⟨r, rfl⟩
    · simp
    · have := sized_slice hsz (j := 2) rfl rfl us42
      rw [List.length_map, show Try.prog.bytesOf 3 = 8 from by kernel_rfl] at this
      have h2 : reachBytes = 140737488351232 := rfl
      rw [h2] at this
      exact Nat.le_trans (Nat.mul_le_mul_right 8 (Nat.le_add_right _ _)) this
  clear hA0 hval0 hsz0 hsz
  have i0 := i64_of w0
  have i1 := i64_of w1
  have q2 := i64_list wf2
  refine (call_of_sound (args := [.raw (.int .i64 a0), .raw (.int .i64 a1), .sl (l2.map encI) false]) rfl ((snd7 a0 a1 l2 false _ i0 i1 (by omega) q2).det) ?_).mono fun e W' ⟨he, bel⟩ => ?_
  · intro i A v hA hv
    match i, hA, hv with
    | 0, hA, hv => simp at hA hv; subst hA; subst hv; exact ⟨.raw _, by simp [AVal.free]⟩
    | 1, hA, hv => simp at hA hv; subst hA; subst hv; exact ⟨.raw _, by simp [AVal.free]⟩
    | 2, hA, hv => simp at hA hv; subst hA; subst hv; exact ⟨rep2, by simp [AVal.free]⟩
    | n + 3, hA, hv => simp at hA
  subst he
  exact ⟨_, rfl, _, _, _, [], _, [], hW', trodAll_mk1 (shut_bool Try.underlying4 _), (trodAll_cons_mk (shut_int u3 w0) (trodAll_cons_mk (shut_int u3 w1) (trodAll_cons_mk (Below.trod laidOut (by kernel_rfl) (of_decide_eq_true (by kernel_rfl)) k2 bel lt2) trodAll_mk0))), rfl, bel.frame _, fun h => by cases h⟩
theorem over : Rows.subsCreditRow.holds Try.pinned (OpenSpec.ofChange Rows.subsCreditSpec) :=
  OpenClaim.holds_of_wide 7 Try.f7 rfl rfl rfl rfl rfl rfl rfl ⟨rfl, rfl, rfl, rfl, rfl⟩ rfl rfl rfl rfl rfl (by kernel_rfl) Try.func7 (by kernel_rfl)
    (of_decide_eq_true (by kernel_rfl)) (by unfold Func.isWrapper; first | (rw [if_pos (by decide +kernel)]; kernel_rfl) | (rw [if_neg (by decide +kernel)]; exact ⟨rfl, rfl⟩))
    (fun os started H enc _ => lifted os started H enc)
theorem proved : Rows.SubsCreditSaid := over
#print axioms proved
end Go.Proofs.Ytikalbdphkmclaa.subsCredit
namespace Go.Proofs.Ytikalbdphkmclaa
/-- The row, under a short name, for the claim. -/
theorem subsCredit_holds : Rows.SubsCreditSaid := subsCredit.proved
end Go.Proofs.Ytikalbdphkmclaa
