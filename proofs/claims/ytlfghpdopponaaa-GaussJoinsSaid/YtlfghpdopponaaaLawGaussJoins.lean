/- GaussJoins is proved for every input: the call returns true, and the arguments read as before. The functions that it reaches are walked in the text L3, over the abstract machine of the texts Am1 to Am40. -/
import Derived.Test.YtlfghpdopponaaaL3
import Derived.Test.YtlfghpdopponaaaAm41
import Derived.Test.YtlfghpdopponaaaRows
import Derived.WalkKit
import Derived.ProofKit
import Derived.OpenShut
import Derived.ShutString
import Derived.ChangeOld
import Derived.Below
import Derived.SizedLaws
import Derived.Carry
import Derived.SliceStrings
namespace Go.Proofs.Ytlfghpdopponaaa.gaussJoins
open Go.ChangeShapes Go.WideShapes Go.ChangeAt Go.RowKit Go.Am C3
open Go.ChangeMaps (open_string shut_string)
set_option linter.unusedVariables false
theorem own : ownKnob Try.prog.godebug = none := by kernel_rfl
theorem laidOut : laidOutB Try.prog = true := by kernel_rfl
theorem u9 : Try.prog.underlying 9 = some .string := by kernel_rfl
theorem us50 : Try.prog.underlying 50 = some (.slice 9) := by kernel_rfl
def toldStr {H : Type} (s : ByteArray) : DataW H := .lit (.string s.data.toList)
theorem elemstrs9 {H : Type} {enc : TypeId × Value → H} {w : World} {spare : Nat → Bool} {held : Bool} (m : Nat) (cs : List Value) (d : DataW H) (pl : List MemPlace) (h : DataW.trod enc Try.prog w 0 spare held m 9 cs = some (d, pl)) (hl : cs.length = 1) :
    ∃ a : ByteArray, a.size ≤ maxLen ∧ d = toldStr a ∧ Plain (str a) cs ∧ pl = [] := by
  obtain ⟨a, rfl, hx, hw⟩ := DataW.trod_string u9 h
  exact ⟨a, hw, congrArg Prod.fst hx, rfl, congrArg Prod.snd hx⟩
set_option maxRecDepth 100000 in
theorem lifted (os : Os) (started : os.Started) (H : Type) (enc : TypeId × Value → H) :
    ReturnsInHanded {} Try.checked os 10 .any (Rows.gaussJoinsSpec.pre6 enc Try.prog Try.f10 Rows.gaussJoinsRow.domain false) (Rows.gaussJoinsSpec.post enc Try.prog Try.f10 false true false false) := by
  refine returnsInHanded_of_change_sized (C := Try.checked) own started (by kernel_rfl) Try.func10
    (ChangeSpec.witness6 (enc := enc) (C := Try.checked) false ⟨#[], #[.slice none 0 0, .slice none 0 0], []⟩ 8 (by kernel_rfl) (by kernel_rfl) (by kernel_rfl) (by kernel_rfl)) ?_
  intro W base args ds gs before hval0 hW hcnd hsz0 _
  have hsz : (DataW.weightsEach Try.prog (Try.f10.params.toList ++ Rows.gaussJoinsSpec.plain.varTypes Try.prog) (ds ++ gs)).all (· ≤ reachBytes) = true := hsz0
  have hval : ∀ (j : Nat) t v, Try.f10.params[j]? = some t → args[j]? = some v → Value.okWide Try.prog W .any base t v := hval0
  have hW' := hW
  obtain ⟨p, q, hA0, hV, rfl, hfz, hnd⟩ := hW
  have hA : DataW.TrodAll enc Try.prog W 0 (fun _ => true) true Try.f10.params.toList args.toList ds p := hA0
  rw [Try.params10] at hA hval hsz
  obtain ⟨v0, vs0, d0, ds0, p0, q0, hargs, rfl, rfl, h0, r0⟩ := trodAll_cons hA
  obtain ⟨v1, vs1, d1, ds1, p1, q1, rfl, rfl, rfl, h1, r1⟩ := trodAll_cons r0
  obtain ⟨rfl, rfl, rfl⟩ := trodAll_nil r1
  obtain rfl : args = #[v0, v1] := by cases args; simp_all
  obtain ⟨rfl, rfl⟩ := trodVars_none hV
  have k0 := h0
  obtain ⟨l0, rep0, wf0, hd0, hm0, lt0⟩ := open_flat str toldStr (fun a => a.size ≤ maxLen) us50 (by kernel_rfl) (by decide) elemstrs9 (hval 0 50 v0 rfl rfl) h0
  have hlen0 : l0.length * 16 ≤ 140737488351232 := by
    rcases hd0 with ⟨rfl, rfl⟩ | ⟨r, rfl⟩
    · simp
    · have := sized_slice hsz (j := 0) rfl rfl us50
      rw [List.length_map, show Try.prog.bytesOf 9 = 16 from by kernel_rfl] at this
      have h2 : reachBytes = 140737488351232 := rfl
      rw [h2] at this
      exact Nat.le_trans (Nat.mul_le_mul_right 16 (Nat.le_add_right _ _)) this
  have ss0 : ∀ s ∈ l0, s.size ≤ 140737488351232 := by
    intro s hs
    rcases hd0 with ⟨rfl, rfl⟩ | ⟨r, rfl⟩
    · simp at hs
    · exact sized_str hsz (j := 0) rfl rfl us50 (List.mem_map.2 ⟨s, hs, rfl⟩)
  have k1 := h1
  obtain ⟨l1, rep1, wf1, hd1, hm1, lt1⟩ := open_flat str toldStr (fun a => a.size ≤ maxLen) us50 (by kernel_rfl) (by decide) elemstrs9 (hval 1 50 v1 rfl rfl) h1
  have hlen1 : l1.length * 16 ≤ 140737488351232 := by
    rcases hd1 with ⟨rfl, rfl⟩ | ⟨r, rfl⟩
    · simp
    · have := sized_slice hsz (j := 1) rfl rfl us50
      rw [List.length_map, show Try.prog.bytesOf 9 = 16 from by kernel_rfl] at this
      have h2 : reachBytes = 140737488351232 := rfl
      rw [h2] at this
      exact Nat.le_trans (Nat.mul_le_mul_right 16 (Nat.le_add_right _ _)) this
  have ss1 : ∀ s ∈ l1, s.size ≤ 140737488351232 := by
    intro s hs
    rcases hd1 with ⟨rfl, rfl⟩ | ⟨r, rfl⟩
    · simp at hs
    · exact sized_str hsz (j := 1) rfl rfl us50 (List.mem_map.2 ⟨s, hs, rfl⟩)
  clear hA0 hval0 hsz0 hsz
  refine (call_of_sound (args := [.sl (l0.map str) false, .sl (l1.map str) false]) rfl (joins l0 l1 false false _ ss0 ss1 (by omega) (by omega)) ?_).mono fun e W' ⟨he, bel⟩ => ?_
  · intro i A v hA hv
    match i, hA, hv with
    | 0, hA, hv => simp at hA hv; subst hA; subst hv; exact ⟨rep0, by simp [AVal.free]⟩
    | 1, hA, hv => simp at hA hv; subst hA; subst hv; exact ⟨rep1, by simp [AVal.free]⟩
    | n + 2, hA, hv => simp at hA
  subst he
  exact ⟨_, rfl, _, _, _, [], _, [], hW', trodAll_mk1 (shut_bool Try.underlying4 _), (trodAll_cons_mk (Below.trod laidOut (by kernel_rfl) (of_decide_eq_true (by kernel_rfl)) k0 bel lt0) (trodAll_cons_mk (Below.trod laidOut (by kernel_rfl) (of_decide_eq_true (by kernel_rfl)) k1 bel lt1) trodAll_mk0)), rfl, bel.frame _, fun h => by cases h⟩
theorem over : Rows.gaussJoinsRow.holds Try.pinned (OpenSpec.ofChange Rows.gaussJoinsSpec) :=
  OpenClaim.holds_of_wide 10 Try.f10 rfl rfl rfl rfl rfl rfl rfl ⟨rfl, rfl, rfl, rfl, rfl⟩ rfl rfl rfl rfl rfl (by kernel_rfl) Try.func10 (by kernel_rfl)
    (of_decide_eq_true (by kernel_rfl)) (by unfold Func.isWrapper; first | (rw [if_pos (by decide +kernel)]; kernel_rfl) | (rw [if_neg (by decide +kernel)]; exact ⟨rfl, rfl⟩))
    (fun os started H enc _ => lifted os started H enc)
theorem proved : Rows.GaussJoinsSaid := over
#print axioms proved
end Go.Proofs.Ytlfghpdopponaaa.gaussJoins
namespace Go.Proofs.Ytlfghpdopponaaa
/-- The row, under a short name, for the claim. -/
theorem gaussJoins_holds : Rows.GaussJoinsSaid := gaussJoins.proved
end Go.Proofs.Ytlfghpdopponaaa
