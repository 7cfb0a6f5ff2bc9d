/- NetPlays is proved for every input: the call returns true, and the arguments read as before. The functions that it reaches are walked in the text K05, over the abstract machine of the texts Am1 to Am40. -/
import Derived.Test.YtphenhkofjbeoaaK05
import Derived.Test.YtphenhkofjbeoaaAm41
import Derived.Test.YtphenhkofjbeoaaRows
import Derived.WalkKit
import Derived.ProofKit
import Derived.OpenShut
import Derived.ShutString
import Derived.ChangeOld
import Derived.Below
import Derived.SizedLaws
import Derived.Carry
import Derived.SliceStrings
namespace Go.Proofs.Ytphenhkofjbeoaa.netPlays
open Go.ChangeShapes Go.WideShapes Go.ChangeAt Go.RowKit Go.Am C05
open Go.ChangeMaps (open_string shut_string)
set_option linter.unusedVariables false
theorem own : ownKnob Try.prog.godebug = none := by kernel_rfl
theorem laidOut : laidOutB Try.prog = true := by kernel_rfl
theorem u3 : Try.prog.underlying 3 = some (.int .i64) := by kernel_rfl
theorem u9 : Try.prog.underlying 9 = some .string := by kernel_rfl
theorem us35 : Try.prog.underlying 35 = some (.slice 38) := by kernel_rfl
def toldDe {H : Type} (r : De) : DataW H := .agg [.lit (.int .i64 r.kind), .lit (.int .i64 r.frm), .lit (.int .i64 r.to), .lit (.int .i64 r.i), .lit (.string r.s.data.toList)]
set_option maxRecDepth 20000 in
theorem elemDe {H : Type} {enc : TypeId × Value → H} {w : World} {spare : Nat → Bool} {held : Bool} (m : Nat) (cs : List Value) (d : DataW H) (pl : List MemPlace) (h : DataW.trod enc Try.prog w 0 spare held m 38 cs = some (d, pl)) (hl : cs.length = 5) :
    ∃ a : De, okDe a ∧ d = toldDe a ∧ Plain (encDe a) cs ∧ pl = [] := by
  obtain ⟨xs, n, rfl, hx, _, hlen, hf⟩ := DataW.trod_struct Try.underlying38 h
  match cs, hl with
  | [c0, c1, c2, c3, c4], _ =>
    have f0 : DataW.trod enc Try.prog w 0 spare held n 3 [c0] = xs[0]? := by
      have : DataW.trod enc Try.prog w 0 spare held n 3 (([c0, c1, c2, c3, c4].drop 0).take (Try.prog.cellsOf 3)) = xs[0]? := hf 0 _ rfl
      rw [show Try.prog.cellsOf 3 = 1 from by kernel_rfl] at this
      exact this
    have f1 : DataW.trod enc Try.prog w 0 spare held n 3 [c1] = xs[1]? := by
      have : DataW.trod enc Try.prog w 0 spare held n 3 (([c0, c1, c2, c3, c4].drop 1).take (Try.prog.cellsOf 3)) = xs[1]? := hf 1 _ rfl
      rw [show Try.prog.cellsOf 3 = 1 from by kernel_rfl] at this
      exact this
    have f2 : DataW.trod enc Try.prog w 0 spare held n 3 [c2] = xs[2]? := by
      have : DataW.trod enc Try.prog w 0 spare held n 3 (([c0, c1, c2, c3, c4].drop 2).take (Try.prog.cellsOf 3)) = xs[2]? := hf 2 _ rfl
      rw [show Try.prog.cellsOf 3 = 1 from by kernel_rfl] at this
      exact this
    have f3 : DataW.trod enc Try.prog w 0 spare held n 3 [c3] = xs[3]? := by
      have : DataW.trod enc Try.prog w 0 spare held n 3 (([c0, c1, c2, c3, c4].drop 3).take (Try.prog.cellsOf 3)) = xs[3]? := hf 3 _ rfl
      rw [show Try.prog.cellsOf 3 = 1 from by kernel_rfl] at this
      exact this
    have f4 : DataW.trod enc Try.prog w 0 spare held n 9 [c4] = xs[4]? := by
      have : DataW.trod enc Try.prog w 0 spare held n 9 (([c0, c1, c2, c3, c4].drop 4).take (Try.prog.cellsOf 9)) = xs[4]? := hf 4 _ rfl
      rw [show Try.prog.cellsOf 9 = 1 from by kernel_rfl] at this
      exact this
    match xs, hlen with
    | [x0, x1, x2, x3, x4], _ =>
      obtain ⟨n0, h0, h0', w0⟩ := DataW.trod_int u3 f0
      simp only [List.cons.injEq, and_true] at h0
      subst h0 h0'
      obtain ⟨n1, h1, h1', w1⟩ := DataW.trod_int u3 f1
      simp only [List.cons.injEq, and_true] at h1
      subst h1 h1'
      obtain ⟨n2, h2, h2', w2⟩ := DataW.trod_int u3 f2
      simp only [List.cons.injEq, and_true] at h2
      subst h2 h2'
      obtain ⟨n3, h3, h3', w3⟩ := DataW.trod_int u3 f3
      simp only [List.cons.injEq, and_true] at h3
      subst h3 h3'
      obtain ⟨n4, h4, h4', w4⟩ := DataW.trod_string u9 f4
      simp only [List.cons.injEq, and_true] at h4
      subst h4 h4'
      refine ⟨⟨n0, n1, n2, n3, n4⟩, ⟨i64w w0, i64w w1, i64w w2, i64w w3⟩, congrArg Prod.fst hx, ?_, congrArg Prod.snd hx⟩
      rfl
set_option maxRecDepth 100000 in
theorem lifted (os : Os) (started : os.Started) (H : Type) (enc : TypeId × Value → H) :
    ReturnsInHanded {} Try.checked os 6 .any (Rows.netPlaysSpec.pre6 enc Try.prog Try.f6 Rows.netPlaysRow.domain false) (Rows.netPlaysSpec.post enc Try.prog Try.f6 false true false false) := by
  refine returnsInHanded_of_change_sized (C := Try.checked) own started (by kernel_rfl) Try.func6
    (ChangeSpec.witness6 (enc := enc) (C := Try.checked) false ⟨#[], #[.int .i64 0, .slice none 0 0], []⟩ 8 (by kernel_rfl) (by kernel_rfl) (by kernel_rfl) (by kernel_rfl)) ?_
  intro W base args ds gs before hval0 hW hcnd hsz0 _
  have hsz : (DataW.weightsEach Try.prog (Try.f6.params.toList ++ Rows.netPlaysSpec.plain.varTypes Try.prog) (ds ++ gs)).all (· ≤ reachBytes) = true := hsz0
  have hval : ∀ (j : Nat) t v, Try.f6.params[j]? = some t → args[j]? = some v → Value.okWide Try.prog W .any base t v := hval0
  have hW' := hW
  obtain ⟨p, q, hA0, hV, rfl, hfz, hnd⟩ := hW
  have hA : DataW.TrodAll enc Try.prog W 0 (fun _ => true) true Try.f6.params.toList args.toList ds p := hA0
  rw [Try.params6] at hA hval hsz
  obtain ⟨v0, vs0, d0, ds0, p0, q0, hargs, rfl, rfl, h0, r0⟩ := trodAll_cons hA
  obtain ⟨v1, vs1, d1, ds1, p1, q1, rfl, rfl, rfl, h1, r1⟩ := trodAll_cons r0
  obtain ⟨rfl, rfl, rfl⟩ := trodAll_nil r1
  obtain rfl : args = #[v0, v1] := by cases args; simp_all
  obtain ⟨rfl, rfl⟩ := trodVars_none hV
  obtain ⟨a0, rfl, rfl, rfl, w0⟩ := open_int u3 (hval 0 3 v0 rfl rfl) h0
  have k1 := h1
  obtain ⟨l1, rep1, wf1, hd1, hm1, lt1⟩ := open_flat encDe toldDe (fun a => okDe a) us35 (by kernel_rfl) (by decide) elemDe (hval 1 35 v1 rfl rfl) h1
  have hlen1 : l1.length * 48 ≤ 140737488351232 := by
    rcases hd1 with ⟨rfl, rfl⟩ | ⟨r, rfl⟩
    · simp
    · have := sized_slice hsz (j := 1) rfl rfl us35
      rw [List.length_map, show Try.prog.bytesOf 38 = 48 from by kernel_rfl] at this
      have h2 : reachBytes = 140737488351232 := rfl
      rw [h2] at this
      exact Nat.le_trans (Nat.mul_le_mul_right 48 (Nat.le_add_right _ _)) this
  have sf1_s : ∀ a ∈ l1, a.s.size ≤ 140737488351232 := by
    intro a ha
    rcases hd1 with ⟨rfl, rfl⟩ | ⟨r, rfl⟩
    · simp at ha
    · exact sized_sfld hsz (j := 1) rfl rfl us35 Try.underlying38 (List.mem_map.2 ⟨a, ha, rfl⟩) (q := 4) rfl rfl
  clear hA0 hval0 hsz0 hsz
  refine (call_of_sound (args := [.raw (.int .i64 a0), .sl (l1.map encDe) false]) rfl ((snd6 a0 l1 false _ (by omega) wf1).det) ?_).mono fun e W' ⟨he, bel⟩ => ?_
  · intro i A v hA hv
    match i, hA, hv with
    | 0, hA, hv => simp at hA hv; subst hA; subst hv; exact ⟨.raw _, by simp [AVal.free]⟩
    | 1, hA, hv => simp at hA hv; subst hA; subst hv; exact ⟨rep1, by simp [AVal.free]⟩
    | n + 2, hA, hv => simp at hA
  subst he
  exact ⟨_, rfl, _, _, _, [], _, [], hW', trodAll_mk1 (shut_bool Try.underlying4 _), (trodAll_cons_mk (shut_int u3 w0) (trodAll_cons_mk (Below.trod laidOut (by kernel_rfl) (of_decide_eq_true (by kernel_rfl)) k1 bel lt1) trodAll_mk0)), rfl, bel.frame _, fun h => by cases h⟩
theorem over : Rows.netPlaysRow.holds Try.pinned (OpenSpec.ofChange Rows.netPlaysSpec) :=
  OpenClaim.holds_of_wide 6 Try.f6 rfl rfl rfl rfl rfl rfl rfl ⟨rfl, rfl, rfl, rfl, rfl⟩ rfl rfl rfl rfl rfl (by kernel_rfl) Try.func6 (by kernel_rfl)
    (of_decide_eq_true (by kernel_rfl)) (by unfold Func.isWrapper; first | (rw [if_pos (by decide +kernel)]; kernel_rfl) | (rw [if_neg (by decide +kernel)]; exact ⟨rfl, rfl⟩))
    (fun os started H enc _ => lifted os started H enc)
theorem proved : Rows.NetPlaysSaid := over
#print axioms proved
end Go.Proofs.Ytphenhkofjbeoaa.netPlays
namespace Go.Proofs.Ytphenhkofjbeoaa
/-- The row, under a short name, for the claim. -/
theorem netPlays_holds : Rows.NetPlaysSaid := netPlays.proved
end Go.Proofs.Ytphenhkofjbeoaa
