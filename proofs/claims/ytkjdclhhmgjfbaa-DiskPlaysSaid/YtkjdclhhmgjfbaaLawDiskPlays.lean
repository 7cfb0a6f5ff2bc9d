import Derived.Test.YtkjdclhhmgjfbaaP06
import Derived.Test.YtkjdclhhmgjfbaaAmG
import Derived.Test.YtkjdclhhmgjfbaaRows
import Derived.WalkKit
import Derived.ProofKit
import Derived.OpenShut
import Derived.ShutString
import Derived.ChangeOld
import Derived.Below
import Derived.SizedLaws
import Derived.Carry
import Derived.SliceStrings
/- DiskPlays is proved for every input: the call returns true, and the arguments read as before. The functions that it reaches are walked in the texts P05 and P06, over the abstract machine of the texts Am1 to Am40. -/
namespace Go.Proofs.Ytkjdclhhmgjfbaa.diskPlays
open Go.ChangeShapes Go.WideShapes Go.ChangeAt Go.RowKit Go.Am C04
open Go.ChangeMaps (open_string shut_string)
set_option linter.unusedVariables false
theorem own : ownKnob Try.prog.godebug = none := by kernel_rfl
theorem laidOut : laidOutB Try.prog = true := by kernel_rfl
theorem u3 : Try.prog.underlying 3 = some (.int .i64) := by kernel_rfl
theorem u9 : Try.prog.underlying 9 = some .string := by kernel_rfl
theorem us38 : Try.prog.underlying 38 = some (.slice 42) := by kernel_rfl
theorem us22 : Try.prog.underlying 22 = some (.slice 3) := by kernel_rfl
def wfDe2 {H : Type} (x : De2 × DataW H) : Prop := okDe2 x.1 ∧ ((x.2 = .nil ∧ x.1.keeps = []) ∨ ∃ y r, x.2 = .slice y r ∧ x.1.keeps.length = y.length)
def toldDe2 {H : Type} (x : De2 × DataW H) : DataW H := .agg [.lit (.int .i64 x.1.kind), .lit (.string x.1.a.data.toList), .lit (.string x.1.b.data.toList), .lit (.int .i64 x.1.n), x.2]
set_option maxRecDepth 20000 in
theorem elemDe2 {H : Type} {enc : TypeId × Value → H} {w : World} {spare : Nat → Bool} {held : Bool} (m : Nat) (cs : List Value) (d : DataW H) (pl : List MemPlace) (h : DataW.trod enc Try.prog w 0 spare held m 42 cs = some (d, pl)) (hl : cs.length = 5) :
    ∃ a : De2 × DataW H, wfDe2 a ∧ d = toldDe2 a ∧ Fits Try.prog w (encDe2 a.1) cs := by
  obtain ⟨xs, n, rfl, hx, _, hlen, hf⟩ := DataW.trod_struct Try.underlying42 h
  match cs, hl with
  | [c0, c1, c2, c3, c4], _ =>
    have f0 : DataW.trod enc Try.prog w 0 spare held n 3 [c0] = xs[0]? := by
      have : DataW.trod enc Try.prog w 0 spare held n 3 (([c0, c1, c2, c3, c4].drop 0).take (Try.prog.cellsOf 3)) = xs[0]? := hf 0 _ rfl
      rw [show Try.prog.cellsOf 3 = 1 from by kernel_rfl] at this
      exact this
    have f1 : DataW.trod enc Try.prog w 0 spare held n 9 [c1] = xs[1]? := by
      have : DataW.trod enc Try.prog w 0 spare held n 9 (([c0, c1, c2, c3, c4].drop 1).take (Try.prog.cellsOf 9)) = xs[1]? := hf 1 _ rfl
      rw [show Try.prog.cellsOf 9 = 1 from by kernel_rfl] at this
      exact this
    have f2 : DataW.trod enc Try.prog w 0 spare held n 9 [c2] = xs[2]? := by
      have : DataW.trod enc Try.prog w 0 spare held n 9 (([c0, c1, c2, c3, c4].drop 2).take (Try.prog.cellsOf 9)) = xs[2]? := hf 2 _ rfl
      rw [show Try.prog.cellsOf 9 = 1 from by kernel_rfl] at this
      exact this
    have f3 : DataW.trod enc Try.prog w 0 spare held n 3 [c3] = xs[3]? := by
      have : DataW.trod enc Try.prog w 0 spare held n 3 (([c0, c1, c2, c3, c4].drop 3).take (Try.prog.cellsOf 3)) = xs[3]? := hf 3 _ rfl
      rw [show Try.prog.cellsOf 3 = 1 from by kernel_rfl] at this
      exact this
    have f4 : DataW.trod enc Try.prog w 0 spare held n 22 [c4] = xs[4]? := by
      have : DataW.trod enc Try.prog w 0 spare held n 22 (([c0, c1, c2, c3, c4].drop 4).take (Try.prog.cellsOf 22)) = xs[4]? := hf 4 _ rfl
      rw [show Try.prog.cellsOf 22 = 1 from by kernel_rfl] at this
      exact this
    match xs, hlen with
    | [x0, x1, x2, x3, x4], _ =>
      obtain ⟨n0, h0, h0', w0⟩ := DataW.trod_int u3 f0
      simp only [List.cons.injEq, and_true] at h0
      subst h0 h0'
      obtain ⟨n1, h1, h1', w1⟩ := DataW.trod_string u9 f1
      simp only [List.cons.injEq, and_true] at h1
      subst h1 h1'
      obtain ⟨n2, h2, h2', w2⟩ := DataW.trod_string u9 f2
      simp only [List.cons.injEq, and_true] at h2
      subst h2 h2'
      obtain ⟨n3, h3, h3', w3⟩ := DataW.trod_int u3 f3
      simp only [List.cons.injEq, and_true] at h3
      subst h3 h3'
      obtain ⟨l4, rep4, wf4, len4⟩ := inner_sl int (fun z => (Lit.int .i64 z).wf = true) us22 (by kernel_rfl) (fun m v d pl h => by
        obtain ⟨z, hz, -, hw⟩ := DataW.trod_int u3 h
        obtain rfl := (List.cons.inj hz).1
        exact ⟨z, hw, .raw _, rfl⟩) f4
      refine ⟨(⟨n0, n1, n2, n3, l4⟩, x4.1), ⟨⟨i64w w0, i64w w3, fun z hz => i64w (wf4 z hz)⟩, len4⟩, congrArg Prod.fst hx, rfl, fun j Y v hY hv => ?_⟩
      match j, hY, hv with
      | 0, hY, hv => cases hY; cases hv; exact .raw _
      | 1, hY, hv => cases hY; cases hv; exact .raw _
      | 2, hY, hv => cases hY; cases hv; exact .raw _
      | 3, hY, hv => cases hY; cases hv; exact .raw _
      | 4, hY, hv => cases hY; cases hv; exact rep4
      | j + 5, hY, hv => simp at hv
set_option maxRecDepth 100000 in
theorem lifted (os : Os) (started : os.Started) (H : Type) (enc : TypeId × Value → H) :
    ReturnsInHanded {} Try.checked os 5 .any (Rows.diskPlaysSpec.pre6 enc Try.prog Try.f5 Rows.diskPlaysRow.domain false) (Rows.diskPlaysSpec.post enc Try.prog Try.f5 false true false false) := by
  refine returnsInHanded_of_change_sized (C := Try.checked) own started (by kernel_rfl) Try.func5
    (ChangeSpec.witness6 (enc := enc) (C := Try.checked) false ⟨#[], #[.int .i64 0, .slice none 0 0], []⟩ 8 (by kernel_rfl) (by kernel_rfl) (by kernel_rfl) (by kernel_rfl)) ?_
  intro W base args ds gs before hval0 hW hcnd hsz0 _
  have hsz : (DataW.weightsEach Try.prog (Try.f5.params.toList ++ Rows.diskPlaysSpec.plain.varTypes Try.prog) (ds ++ gs)).all (· ≤ reachBytes) = true := hsz0
  have hval : ∀ (j : Nat) t v, Try.f5.params[j]? = some t → args[j]? = some v → Value.okWide Try.prog W .any base t v := hval0
  have hW' := hW
  obtain ⟨p, q, hA0, hV, rfl, hfz, hnd⟩ := hW
  have hA : DataW.TrodAll enc Try.prog W 0 (fun _ => true) true Try.f5.params.toList args.toList ds p := hA0
  rw [Try.params5] at hA hval hsz
  obtain ⟨v0, vs0, d0, ds0, p0, q0, hargs, rfl, rfl, h0, r0⟩ := trodAll_cons hA
  obtain ⟨v1, vs1, d1, ds1, p1, q1, rfl, rfl, rfl, h1, r1⟩ := trodAll_cons r0
  obtain ⟨rfl, rfl, rfl⟩ := trodAll_nil r1
  obtain rfl : args = #[v0, v1] := by cases args; simp_all
  obtain ⟨rfl, rfl⟩ := trodVars_none hV
  obtain ⟨a0, rfl, rfl, rfl, w0⟩ := open_int u3 (hval 0 3 v0 rfl rfl) h0
  have k1 := h1
  obtain ⟨l1, rep1, wf1, hd1, hm1, lt1⟩ := open_deep (fun a => encDe2 a.1) toldDe2 wfDe2 (n := 5) us38 (by kernel_rfl) (by decide) elemDe2 (hval 1 38 v1 rfl rfl) h1
  have hlen1 : l1.length * 72 ≤ 140737488351232 := by
    rcases hd1 with ⟨rfl, rfl⟩ | ⟨r, rfl⟩
    · simp
    · have := sized_slice hsz (j := 1) rfl rfl us38
      rw [List.length_map, show Try.prog.bytesOf 42 = 72 from by kernel_rfl] at this
      have h2 : reachBytes = 140737488351232 := rfl
      rw [h2] at this
      exact Nat.le_trans (Nat.mul_le_mul_right 72 (Nat.le_add_right _ _)) this
  have sf1_b : ∀ a ∈ l1, a.1.b.size ≤ 140737488351232 := by
    intro a ha
    rcases hd1 with ⟨rfl, rfl⟩ | ⟨r, rfl⟩
    · simp at ha
    · exact sized_sfld hsz (j := 1) rfl rfl us38 Try.underlying42 (List.mem_map.2 ⟨a, ha, rfl⟩) (q := 2) rfl rfl
  have sk1 : ∀ a ∈ l1, a.1.keeps.length ≤ 17592186043904 := by
    intro a ha
    have h3 := (wf1 a ha).2
    rcases hd1 with ⟨rfl, rfl⟩ | ⟨r, rfl⟩
    · simp at ha
    · rcases h3 with ⟨-, h3⟩ | ⟨y, q, h3, h4⟩
      · rw [h3]; exact Nat.zero_le _
      · have h5 := sized_inner hsz (j := 1) rfl rfl us38 Try.underlying42 (List.mem_map.2 ⟨a, ha, rfl⟩) (q := 4) rfl us22 (congrArg some h3)
        rw [show Try.prog.bytesOf 3 = 8 from by kernel_rfl] at h5
        rw [h4]; omega
  obtain ⟨m1, q1l⟩ : ∃ m, m = l1.map Prod.fst := ⟨_, rfl⟩
  have rep1 : Rep Try.prog (imm0 W) W (.sl (m1.map encDe2) false) v1 := by rw [q1l, List.map_map]; exact rep1
  have wf1 : ∀ a ∈ m1, okDe2 a := fun a ha => by rw [q1l] at ha; obtain ⟨x, hx, rfl⟩ := List.mem_map.1 ha; exact (wf1 x hx).1
  have sf1_b : ∀ a ∈ m1, a.b.size ≤ 140737488351232 := fun a ha => by rw [q1l] at ha; obtain ⟨x, hx, rfl⟩ := List.mem_map.1 ha; exact sf1_b x hx
  have sk1 : ∀ a ∈ m1, a.keeps.length ≤ 17592186043904 := fun a ha => by rw [q1l] at ha; obtain ⟨x, hx, rfl⟩ := List.mem_map.1 ha; exact sk1 x hx
  have hlen1 : m1.length * 72 ≤ 140737488351232 := by rw [q1l, List.length_map]; exact hlen1
  clear hA0 hval0 hsz0 hsz
  have i0 := i64w w0
  refine (call_of_sound (args := [.raw (.int .i64 a0), .sl (m1.map encDe2) false]) rfl ((snd5 a0 m1 false i0 (by omega) wf1 (fun o ho => Nat.le_trans (sf1_b o ho) (by decide)) sk1 _ rfl).det) ?_).mono fun e W' ⟨he, bel⟩ => ?_
  · intro i A v hA hv
    match i, hA, hv with
    | 0, hA, hv => simp at hA hv; subst hA; subst hv; exact ⟨.raw _, by simp [AVal.free]⟩
    | 1, hA, hv => simp at hA hv; subst hA; subst hv; exact ⟨rep1, by simp [AVal.free]⟩
    | n + 2, hA, hv => simp at hA
  subst he
  exact ⟨_, rfl, _, _, _, [], _, [], hW', trodAll_mk1 (shut_bool Try.underlying4 _), (trodAll_cons_mk (shut_int u3 w0) (trodAll_cons_mk (Below.trod laidOut (by kernel_rfl) (of_decide_eq_true (by kernel_rfl)) k1 bel lt1) trodAll_mk0)), rfl, bel.frame _, fun h => by cases h⟩
theorem over : Rows.diskPlaysRow.holds Try.pinned (OpenSpec.ofChange Rows.diskPlaysSpec) :=
  OpenClaim.holds_of_wide 5 Try.f5 rfl rfl rfl rfl rfl rfl rfl ⟨rfl, rfl, rfl, rfl, rfl⟩ rfl rfl rfl rfl rfl (by kernel_rfl) Try.func5 (by kernel_rfl)
    (of_decide_eq_true (by kernel_rfl)) (by unfold Func.isWrapper; first | (rw [if_pos (by decide +kernel)]; kernel_rfl) | (rw [if_neg (by decide +kernel)]; exact ⟨rfl, rfl⟩))
    (fun os started H enc _ => lifted os started H enc)
theorem proved : Rows.DiskPlaysSaid := over
#print axioms proved
end Go.Proofs.Ytkjdclhhmgjfbaa.diskPlays
namespace Go.Proofs.Ytkjdclhhmgjfbaa
/-- The row, under a short name, for the claim. -/
theorem diskPlays_holds : Rows.DiskPlaysSaid := diskPlays.proved
end Go.Proofs.Ytkjdclhhmgjfbaa
