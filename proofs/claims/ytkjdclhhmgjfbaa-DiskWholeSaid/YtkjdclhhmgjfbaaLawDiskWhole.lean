import Derived.Test.YtkjdclhhmgjfbaaZ04
import Derived.Test.YtkjdclhhmgjfbaaAmD
import Derived.Test.YtkjdclhhmgjfbaaRows
import Derived.WalkKit
import Derived.ProofKit
import Derived.OpenShut
import Derived.ShutString
import Derived.ChangeOld
import Derived.Below
import Derived.SizedLaws
import Derived.Carry
import Derived.SliceStrings
/- DiskWhole is proved for every input: the call returns true, and the arguments read as before. The functions that it reaches are walked in the text Z04, over the abstract machine of the texts Am1 to Am40. -/
namespace Go.Proofs.Ytkjdclhhmgjfbaa.diskWhole
open Go.ChangeShapes Go.WideShapes Go.ChangeAt Go.RowKit Go.Am C04
open Go.ChangeMaps (open_string shut_string)
set_option linter.unusedVariables false
theorem own : ownKnob Try.prog.godebug = none := by kernel_rfl
theorem laidOut : laidOutB Try.prog = true := by kernel_rfl
theorem u3 : Try.prog.underlying 3 = some (.int .i64) := by kernel_rfl
theorem u9 : Try.prog.underlying 9 = some .string := by kernel_rfl
theorem us38 : Try.prog.underlying 38 = some (.slice 42) := by kernel_rfl
theorem us22 : Try.prog.underlying 22 = some (.slice 3) := by kernel_rfl
def toldDe {H : Type} (x : De × DataW H) : DataW H := .agg [.lit (.int .i64 x.1.kind), .lit (.string x.1.a.data.toList), .lit (.string x.1.b.data.toList), .lit (.int .i64 x.1.n), x.2]
set_option maxRecDepth 20000 in
theorem elemDe {H : Type} {enc : TypeId × Value → H} {w : World} {spare : Nat → Bool} {held : Bool} (m : Nat) (cs : List Value) (d : DataW H) (pl : List MemPlace) (h : DataW.trod enc Try.prog w 0 spare held m 42 cs = some (d, pl)) (hl : cs.length = 5) :
    ∃ a : De × DataW H, okDe a.1 ∧ d = toldDe a ∧ Plain (encDe a.1) cs := by
  obtain ⟨xs, n, rfl, hx, _, hlen, hf⟩ := DataW.trod_struct Try.underlying42 h
  match cs, hl with
  | [c0, c1, c2, c3, c4], _ =>
    have f0 : DataW.trod enc Try.prog w 0 spare held n 3 [c0] = xs[0]? := by
      have : DataW.trod enc Try.prog w 0 spare held n 3 (([c0, c1, c2, c3, c4].drop 0).take (Try.prog.cellsOf 3)) = xs[0]? := hf 0 _ rfl
      rw [show Try.prog.cellsOf 3 = 1 from by kernel_rfl] at this
      exact this
    have f1 : DataW.trod enc Try.prog w 0 spare held n 9 [c1] = xs[1]? := by
      have : DataW.trod enc Try.prog w 0 spare held n 9 (([c0, c1, c2, c3, c4].drop 1).take (Try.prog.cellsOf 9)) = xs[1]? := hf 1 _ rfl
      rw [show Try.prog.cellsOf 9 = 1 from by kernel_rfl] at this
      exact this
    have f2 : DataW.trod enc Try.prog w 0 spare held n 9 [c2] = xs[2]? := by
      have : DataW.trod enc Try.prog w 0 spare held n 9 (([c0, c1, c2, c3, c4].drop 2).take (Try.prog.cellsOf 9)) = xs[2]? := hf 2 _ rfl
      rw [show Try.prog.cellsOf 9 = 1 from by kernel_rfl] at this
      exact this
    have f3 : DataW.trod enc Try.prog w 0 spare held n 3 [c3] = xs[3]? := by
      have : DataW.trod enc Try.prog w 0 spare held n 3 (([c0, c1, c2, c3, c4].drop 3).take (Try.prog.cellsOf 3)) = xs[3]? := hf 3 _ rfl
      rw [show Try.prog.cellsOf 3 = 1 from by kernel_rfl] at this
      exact this
    have f4 : DataW.trod enc Try.prog w 0 spare held n 22 [c4] = xs[4]? := by
      have : DataW.trod enc Try.prog w 0 spare held n 22 (([c0, c1, c2, c3, c4].drop 4).take (Try.prog.cellsOf 22)) = xs[4]? := hf 4 _ rfl
      rw [show Try.prog.cellsOf 22 = 1 from by kernel_rfl] at this
      exact this
    match xs, hlen with
    | [x0, x1, x2, x3, x4], _ =>
      obtain ⟨n0, h0, h0', w0⟩ := DataW.trod_int u3 f0
      simp only [List.cons.injEq, and_true] at h0
      subst h0 h0'
      obtain ⟨n1, h1, h1', w1⟩ := DataW.trod_string u9 f1
      simp only [List.cons.injEq, and_true] at h1
      subst h1 h1'
      obtain ⟨n2, h2, h2', w2⟩ := DataW.trod_string u9 f2
      simp only [List.cons.injEq, and_true] at h2
      subst h2 h2'
      obtain ⟨n3, h3, h3', w3⟩ := DataW.trod_int u3 f3
      simp only [List.cons.injEq, and_true] at h3
      subst h3 h3'
      obtain ⟨b4, l4, p4, e4⟩ : ∃ b l c, c4 = Value.slice b l c := by
        rcases Go.Deep.open_slice us22 f4 with ⟨hc, -⟩ | ⟨a, len, cap, _, _, _, _, hc, -⟩
        · exact ⟨_, _, _, (List.cons.inj hc).1⟩
        · exact ⟨_, _, _, (List.cons.inj hc).1⟩
      subst e4
      refine ⟨(⟨n0, n1, n2, n3, b4, l4, p4⟩, x4.1), ⟨i64w w0, i64w w3⟩, ?_, rfl⟩
      exact congrArg Prod.fst hx
set_option maxRecDepth 100000 in
theorem lifted (os : Os) (started : os.Started) (H : Type) (enc : TypeId × Value → H) :
    ReturnsInHanded {} Try.checked os 6 .any (Rows.diskWholeSpec.pre6 enc Try.prog Try.f6 Rows.diskWholeRow.domain false) (Rows.diskWholeSpec.post enc Try.prog Try.f6 false true false false) := by
  refine returnsInHanded_of_change_sized (C := Try.checked) own started (by kernel_rfl) Try.func6
    (ChangeSpec.witness6 (enc := enc) (C := Try.checked) false ⟨#[], #[.slice none 0 0], []⟩ 8 (by kernel_rfl) (by kernel_rfl) (by kernel_rfl) (by kernel_rfl)) ?_
  intro W base args ds gs before hval0 hW hcnd hsz0 _
  have hsz : (DataW.weightsEach Try.prog (Try.f6.params.toList ++ Rows.diskWholeSpec.plain.varTypes Try.prog) (ds ++ gs)).all (· ≤ reachBytes) = true := hsz0
  have hval : ∀ (j : Nat) t v, Try.f6.params[j]? = some t → args[j]? = some v → Value.okWide Try.prog W .any base t v := hval0
  have hW' := hW
  obtain ⟨p, q, hA0, hV, rfl, hfz, hnd⟩ := hW
  have hA : DataW.TrodAll enc Try.prog W 0 (fun _ => true) true Try.f6.params.toList args.toList ds p := hA0
  rw [Try.params6] at hA hval hsz
  obtain ⟨v0, vs0, d0, ds0, p0, q0, hargs, rfl, rfl, h0, r0⟩ := trodAll_cons hA
  obtain ⟨rfl, rfl, rfl⟩ := trodAll_nil r0
  obtain rfl : args = #[v0] := by cases args; simp_all
  obtain ⟨rfl, rfl⟩ := trodVars_none hV
  have k0 := h0
  obtain ⟨l0, rep0, wf0, hd0, hm0, lt0⟩ := open_deep (fun a => encDe a.1) toldDe (fun a => okDe a.1) (n := 5) us38 (by kernel_rfl) (by decide) (fun m cs d pl h1 h2 => by obtain ⟨a, h3, h4, h5⟩ := elemDe m cs d pl h1 h2; exact ⟨a, h3, h4, h5.fits⟩) (hval 0 38 v0 rfl rfl) h0
  have hlen0 : l0.length * 72 ≤ 140737488351232 := by
    rcases hd0 with ⟨rfl, rfl⟩ | ⟨r, rfl⟩
    · simp
    · have := sized_slice hsz (j := 0) rfl rfl us38
      rw [List.length_map, show Try.prog.bytesOf 42 = 72 from by kernel_rfl] at this
      have h2 : reachBytes = 140737488351232 := rfl
      rw [h2] at this
      exact Nat.le_trans (Nat.mul_le_mul_right 72 (Nat.le_add_right _ _)) this
  have sf0_a : ∀ a ∈ l0, a.1.a.size ≤ 140737488351232 := by
    intro a ha
    rcases hd0 with ⟨rfl, rfl⟩ | ⟨r, rfl⟩
    · simp at ha
    · exact sized_sfld hsz (j := 0) rfl rfl us38 Try.underlying42 (List.mem_map.2 ⟨a, ha, rfl⟩) (q := 1) rfl rfl
  have sf0_b : ∀ a ∈ l0, a.1.b.size ≤ 140737488351232 := by
    intro a ha
    rcases hd0 with ⟨rfl, rfl⟩ | ⟨r, rfl⟩
    · simp at ha
    · exact sized_sfld hsz (j := 0) rfl rfl us38 Try.underlying42 (List.mem_map.2 ⟨a, ha, rfl⟩) (q := 2) rfl rfl
  obtain ⟨m0, q0l⟩ : ∃ m, m = l0.map Prod.fst := ⟨_, rfl⟩
  have rep0 : Rep Try.prog (imm0 W) W (.sl (m0.map encDe) false) v0 := by rw [q0l, List.map_map]; exact rep0
  have wf0 : ∀ a ∈ m0, okDe a := fun a ha => by rw [q0l] at ha; obtain ⟨x, hx, rfl⟩ := List.mem_map.1 ha; exact wf0 x hx
  have sf0_a : ∀ a ∈ m0, a.a.size ≤ 140737488351232 := fun a ha => by rw [q0l] at ha; obtain ⟨x, hx, rfl⟩ := List.mem_map.1 ha; exact sf0_a x hx
  have sf0_b : ∀ a ∈ m0, a.b.size ≤ 140737488351232 := fun a ha => by rw [q0l] at ha; obtain ⟨x, hx, rfl⟩ := List.mem_map.1 ha; exact sf0_b x hx
  have hlen0 : m0.length * 72 ≤ 140737488351232 := by rw [q0l, List.length_map]; exact hlen0
  clear hA0 hval0 hsz0 hsz
  refine (call_of_sound (args := [.sl (m0.map encDe) false]) rfl ((snd6 m0 false (by omega) wf0 (fun o ho => Nat.lt_of_le_of_lt (sf0_b o ho) (by decide)) (fun o ho => Nat.lt_of_le_of_lt (sf0_a o ho) (by decide)) _ rfl).det) ?_).mono fun e W' ⟨he, bel⟩ => ?_
  · intro i A v hA hv
    match i, hA, hv with
    | 0, hA, hv => simp at hA hv; subst hA; subst hv; exact ⟨rep0, by simp [AVal.free]⟩
    | n + 1, hA, hv => simp at hA
  subst he
  exact ⟨_, rfl, _, _, _, [], _, [], hW', trodAll_mk1 (shut_bool Try.underlying4 _), (trodAll_cons_mk (Below.trod laidOut (by kernel_rfl) (of_decide_eq_true (by kernel_rfl)) k0 bel lt0) trodAll_mk0), rfl, bel.frame _, fun h => by cases h⟩
theorem over : Rows.diskWholeRow.holds Try.pinned (OpenSpec.ofChange Rows.diskWholeSpec) :=
  OpenClaim.holds_of_wide 6 Try.f6 rfl rfl rfl rfl rfl rfl rfl ⟨rfl, rfl, rfl, rfl, rfl⟩ rfl rfl rfl rfl rfl (by kernel_rfl) Try.func6 (by kernel_rfl)
    (of_decide_eq_true (by kernel_rfl)) (by unfold Func.isWrapper; first | (rw [if_pos (by decide +kernel)]; kernel_rfl) | (rw [if_neg (by decide +kernel)]; exact ⟨rfl, rfl⟩))
    (fun os started H enc _ => lifted os started H enc)
theorem proved : Rows.DiskWholeSaid := over
#print axioms proved
end Go.Proofs.Ytkjdclhhmgjfbaa.diskWhole
namespace Go.Proofs.Ytkjdclhhmgjfbaa
/-- The row, under a short name, for the claim. -/
theorem diskWhole_holds : Rows.DiskWholeSaid := diskWhole.proved
end Go.Proofs.Ytkjdclhhmgjfbaa
