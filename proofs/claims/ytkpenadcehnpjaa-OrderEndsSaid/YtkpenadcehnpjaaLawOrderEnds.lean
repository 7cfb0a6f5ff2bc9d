/- OrderEnds is proved for every input: the call returns true, and the arguments read as before. The functions that it reaches are walked in the text G18, over the abstract machine of the texts Am1 to Am40. -/
import Derived.Test.YtkpenadcehnpjaaG18
import Derived.Test.YtkpenadcehnpjaaAm41
import Derived.Test.YtkpenadcehnpjaaRows
import Derived.WalkKit
import Derived.ProofKit
import Derived.OpenShut
import Derived.ShutString
import Derived.ChangeOld
import Derived.Below
import Derived.SizedLaws
import Derived.Carry
import Derived.SliceStrings
namespace Go.Proofs.Ytkpenadcehnpjaa.orderEnds
open Go.ChangeShapes Go.WideShapes Go.ChangeAt Go.RowKit Go.Am C18
open Go.ChangeMaps (open_string shut_string)
set_option linter.unusedVariables false
theorem own : ownKnob Try.prog.godebug = none := by kernel_rfl
theorem laidOut : laidOutB Try.prog = true := by kernel_rfl
theorem u3 : Try.prog.underlying 3 = some (.int .i64) := by kernel_rfl
theorem u9 : Try.prog.underlying 9 = some .string := by kernel_rfl
theorem us22 : Try.prog.underlying 22 = some (.slice 9) := by kernel_rfl
def toldStr {H : Type} (s : ByteArray) : DataW H := .lit (.string s.data.toList)
theorem elemstrs9 {H : Type} {enc : TypeId × Value → H} {w : World} {spare : Nat → Bool} {held : Bool} (m : Nat) (cs : List Value) (d : DataW H) (pl : List MemPlace) (h : DataW.trod enc Try.prog w 0 spare held m 9 cs = some (d, pl)) (hl : cs.length = 1) :
    ∃ a : ByteArray, a.size ≤ maxLen ∧ d = toldStr a ∧ Plain (str a) cs ∧ pl = [] := by
  obtain ⟨a, rfl, hx, hw⟩ := DataW.trod_string u9 h
  exact ⟨a, hw, congrArg Prod.fst hx, rfl, congrArg Prod.snd hx⟩
set_option maxRecDepth 100000 in
theorem lifted (os : Os) (started : os.Started) (H : Type) (enc : TypeId × Value → H) :
    ReturnsInHanded {} Try.checked os 3 .any (Rows.orderEndsSpec.pre6 enc Try.prog Try.f3 Rows.orderEndsRow.domain false) (Rows.orderEndsSpec.post enc Try.prog Try.f3 false true false false) := by
  refine returnsInHanded_of_change_sized (C := Try.checked) own started (by kernel_rfl) Try.func3
    (ChangeSpec.witness6 (enc := enc) (C := Try.checked) false ⟨#[], #[.int .i64 0, .slice none 0 0], []⟩ 8 (by kernel_rfl) (by kernel_rfl) (by kernel_rfl) (by kernel_rfl)) ?_
  intro W base args ds gs before hval0 hW hcnd hsz0 _
  have hsz : (DataW.weightsEach Try.prog (Try.f3.params.toList ++ Rows.orderEndsSpec.plain.varTypes Try.prog) (ds ++ gs)).all (· ≤ reachBytes) = true := hsz0
  have hval : ∀ (j : Nat) t v, Try.f3.params[j]? = some t → args[j]? = some v → Value.okWide Try.prog W .any base t v := hval0
  have hW' := hW
  obtain ⟨p, q, hA0, hV, rfl, hfz, hnd⟩ := hW
  have hA : DataW.TrodAll enc Try.prog W 0 (fun _ => true) true Try.f3.params.toList args.toList ds p := hA0
  rw [Try.params3] at hA hval hsz
  obtain ⟨v0, vs0, d0, ds0, p0, q0, hargs, rfl, rfl, h0, r0⟩ := trodAll_cons hA
  obtain ⟨v1, vs1, d1, ds1, p1, q1, rfl, rfl, rfl, h1, r1⟩ := trodAll_cons r0
  obtain ⟨rfl, rfl, rfl⟩ := trodAll_nil r1
  obtain rfl : args = #[v0, v1] := by cases args; simp_all
  obtain ⟨rfl, rfl⟩ := trodVars_none hV
  obtain ⟨a0, rfl, rfl, rfl, w0⟩ := open_int u3 (hval 0 3 v0 rfl rfl) h0
  have k1 := h1
  obtain ⟨l1, rep1, wf1, hd1, hm1, lt1⟩ := open_flat str toldStr (fun a => a.size ≤ maxLen) us22 (by kernel_rfl) (by decide) elemstrs9 (hval 1 22 v1 rfl rfl) h1
  have hlen1 : l1.length * 16 ≤ 140737488351232 := by
    rcases hd1 with ⟨rfl, rfl⟩ | ⟨r, rfl⟩
    · simp
    · have := sized_slice hsz (j := 1) rfl rfl us22
      rw [List.length_map, show Try.prog.bytesOf 9 = 16 from by kernel_rfl] at this
      have h2 : reachBytes = 140737488351232 := rfl
      rw [h2] at this
      exact Nat.le_trans (Nat.mul_le_mul_right 16 (Nat.le_add_right _ _)) this
  have ss1 : ∀ s ∈ l1, s.size ≤ 140737488351232 := by
    intro s hs
    rcases hd1 with ⟨rfl, rfl⟩ | ⟨r, rfl⟩
    · simp at hs
    · exact sized_str hsz (j := 1) rfl rfl us22 (List.mem_map.2 ⟨s, hs, rfl⟩)
  clear hA0 hval0 hsz0 hsz
  have i0 := i64w w0
  have q1 : ∀ s ∈ l1, s.size < 2 ^ 61 := fun s hs => by have := ss1 s hs; omega
  refine (call_of_sound (args := [.raw (.int .i64 a0), .sl (l1.map str) false]) rfl ((snd3 a0 l1 false _ i0 (by omega) q1).det) ?_).mono fun e W' ⟨he, bel⟩ => ?_
  · intro i A v hA hv
    match i, hA, hv with
    | 0, hA, hv => simp at hA hv; subst hA; subst hv; exact ⟨.raw _, by simp [AVal.free]⟩
    | 1, hA, hv => simp at hA hv; subst hA; subst hv; exact ⟨rep1, by simp [AVal.free]⟩
    | n + 2, hA, hv => simp at hA
  subst he
  exact ⟨_, rfl, _, _, _, [], _, [], hW', trodAll_mk1 (shut_bool Try.underlying4 _), (trodAll_cons_mk (shut_int u3 w0) (trodAll_cons_mk (Below.trod laidOut (by kernel_rfl) (of_decide_eq_true (by kernel_rfl)) k1 bel lt1) trodAll_mk0)), rfl, bel.frame _, fun h => by cases h⟩
theorem over : Rows.orderEndsRow.holds Try.pinned (OpenSpec.ofChange Rows.orderEndsSpec) :=
  OpenClaim.holds_of_wide 3 Try.f3 rfl rfl rfl rfl rfl rfl rfl ⟨rfl, rfl, rfl, rfl, rfl⟩ rfl rfl rfl rfl rfl (by kernel_rfl) Try.func3 (by kernel_rfl)
    (of_decide_eq_true (by kernel_rfl)) (by unfold Func.isWrapper; first | (rw [if_pos (by decide +kernel)]; kernel_rfl) | (rw [if_neg (by decide +kernel)]; exact ⟨rfl, rfl⟩))
    (fun os started H enc _ => lifted os started H enc)
theorem proved : Rows.OrderEndsSaid := over
#print axioms proved
end Go.Proofs.Ytkpenadcehnpjaa.orderEnds
namespace Go.Proofs.Ytkpenadcehnpjaa
/-- The row, under a short name, for the claim. -/
theorem orderEnds_holds : Rows.OrderEndsSaid := orderEnds.proved
end Go.Proofs.Ytkpenadcehnpjaa
