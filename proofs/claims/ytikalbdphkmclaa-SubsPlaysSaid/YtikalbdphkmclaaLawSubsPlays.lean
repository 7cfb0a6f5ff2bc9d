/- SubsPlays is proved for every input: the call returns true, and the arguments read as before. The functions that it reaches are walked in the text C21, over the abstract machine of the texts Am1 to Am40. -/
import Derived.Test.YtikalbdphkmclaaC21
import Derived.Test.YtikalbdphkmclaaAm41
import Derived.Test.YtikalbdphkmclaaRows
import Derived.WalkKit
import Derived.ProofKit
import Derived.OpenShut
import Derived.ShutString
import Derived.ChangeOld
import Derived.Below
import Derived.SizedLaws
import Derived.Carry
import Derived.SliceStrings
namespace Go.Proofs.Ytikalbdphkmclaa.subsPlays
open Go.ChangeShapes Go.WideShapes Go.ChangeAt Go.RowKit Go.Am C15
open Go.ChangeMaps (open_string shut_string)
set_option linter.unusedVariables false
theorem own : ownKnob Try.prog.godebug = none := by kernel_rfl
theorem laidOut : laidOutB Try.prog = true := by kernel_rfl
theorem u3 : Try.prog.underlying 3 = some (.int .i64) := by kernel_rfl
theorem u4 : Try.prog.underlying 4 = some .bool := by kernel_rfl
theorem u9 : Try.prog.underlying 9 = some .string := by kernel_rfl
theorem us53 : Try.prog.underlying 53 = some (.slice 55) := by kernel_rfl
def toldSb {H : Type} (r : Sb) : DataW H := .agg [.lit (.string r.name.data.toList), .lit (.string r.topic.data.toList), .lit (.int .i64 r.cur), .lit (.int .i64 r.nxt)]
set_option maxRecDepth 20000 in
theorem elemSb {H : Type} {enc : TypeId × Value → H} {w : World} {spare : Nat → Bool} {held : Bool} (m : Nat) (cs : List Value) (d : DataW H) (pl : List MemPlace) (h : DataW.trod enc Try.prog w 0 spare held m 45 cs = some (d, pl)) (hl : cs.length = 4) :
    ∃ a : Sb, SbOk a ∧ d = toldSb a ∧ Plain (encSb a) cs ∧ pl = [] := by
  obtain ⟨xs, n, rfl, hx, _, hlen, hf⟩ := DataW.trod_struct Try.underlying45 h
  match cs, hl with
  | [c0, c1, c2, c3], _ =>
    have f0 : DataW.trod enc Try.prog w 0 spare held n 9 [c0] = xs[0]? := by
      have : DataW.trod enc Try.prog w 0 spare held n 9 (([c0, c1, c2, c3].drop 0).take (Try.prog.cellsOf 9)) = xs[0]? := hf 0 _ rfl
      rw [show Try.prog.cellsOf 9 = 1 from by kernel_rfl] at this
      exact this
    have f1 : DataW.trod enc Try.prog w 0 spare held n 9 [c1] = xs[1]? := by
      have : DataW.trod enc Try.prog w 0 spare held n 9 (([c0, c1, c2, c3].drop 1).take (Try.prog.cellsOf 9)) = xs[1]? := hf 1 _ rfl
      rw [show Try.prog.cellsOf 9 = 1 from by kernel_rfl] at this
      exact this
    have f2 : DataW.trod enc Try.prog w 0 spare held n 3 [c2] = xs[2]? := by
      have : DataW.trod enc Try.prog w 0 spare held n 3 (([c0, c1, c2, c3].drop 2).take (Try.prog.cellsOf 3)) = xs[2]? := hf 2 _ rfl
      rw [show Try.prog.cellsOf 3 = 1 from by kernel_rfl] at this
      exact this
    have f3 : DataW.trod enc Try.prog w 0 spare held n 3 [c3] = xs[3]? := by
      have : DataW.trod enc Try.prog w 0 spare held n 3 (([c0, c1, c2, c3].drop 3).take (Try.prog.cellsOf 3)) = xs[3]? := hf 3 _ rfl
      rw [show Try.prog.cellsOf 3 = 1 from by kernel_rfl] at this
      exact this
    match xs, hlen with
    | [x0, x1, x2, x3], _ =>
      obtain ⟨n0, h0, h0', w0⟩ := DataW.trod_string u9 f0
      simp only [List.cons.injEq, and_true] at h0
      subst h0 h0'
      obtain ⟨n1, h1, h1', w1⟩ := DataW.trod_string u9 f1
      simp only [List.cons.injEq, and_true] at h1
      subst h1 h1'
      obtain ⟨n2, h2, h2', w2⟩ := DataW.trod_int u3 f2
      simp only [List.cons.injEq, and_true] at h2
      subst h2 h2'
      obtain ⟨n3, h3, h3', w3⟩ := DataW.trod_int u3 f3
      simp only [List.cons.injEq, and_true] at h3
      subst h3 h3'
      refine ⟨⟨n0, n1, n2, n3⟩, ⟨Nat.lt_of_le_of_lt w0 (by decide), Nat.lt_of_le_of_lt w1 (by decide)⟩, congrArg Prod.fst hx, ?_, congrArg Prod.snd hx⟩
      rfl
def toldD2 {H : Type} (r : D2) : DataW H := .agg [.lit (.int .i64 r.kind), .lit (.int .i64 r.n)]
set_option maxRecDepth 20000 in
theorem elemD2 {H : Type} {enc : TypeId × Value → H} {w : World} {spare : Nat → Bool} {held : Bool} (m : Nat) (cs : List Value) (d : DataW H) (pl : List MemPlace) (h : DataW.trod enc Try.prog w 0 spare held m 55 cs = some (d, pl)) (hl : cs.length = 2) :
    ∃ a : D2, okD2 a ∧ d = toldD2 a ∧ Plain (encD2 a) cs ∧ pl = [] := by
  obtain ⟨xs, n, rfl, hx, _, hlen, hf⟩ := DataW.trod_struct Try.underlying55 h
  match cs, hl with
  | [c0, c1], _ =>
    have f0 : DataW.trod enc Try.prog w 0 spare held n 3 [c0] = xs[0]? := by
      have : DataW.trod enc Try.prog w 0 spare held n 3 (([c0, c1].drop 0).take (Try.prog.cellsOf 3)) = xs[0]? := hf 0 _ rfl
      rw [show Try.prog.cellsOf 3 = 1 from by kernel_rfl] at this
      exact this
    have f1 : DataW.trod enc Try.prog w 0 spare held n 3 [c1] = xs[1]? := by
      have : DataW.trod enc Try.prog w 0 spare held n 3 (([c0, c1].drop 1).take (Try.prog.cellsOf 3)) = xs[1]? := hf 1 _ rfl
      rw [show Try.prog.cellsOf 3 = 1 from by kernel_rfl] at this
      exact this
    match xs, hlen with
    | [x0, x1], _ =>
      obtain ⟨n0, h0, h0', w0⟩ := DataW.trod_int u3 f0
      simp only [List.cons.injEq, and_true] at h0
      subst h0 h0'
      obtain ⟨n1, h1, h1', w1⟩ := DataW.trod_int u3 f1
      simp only [List.cons.injEq, and_true] at h1
      subst h1 h1'
      refine ⟨⟨n0, n1⟩, ⟨i64_of w0, i64_of w1⟩, congrArg Prod.fst hx, ?_, congrArg Prod.snd hx⟩
      rfl
set_option maxRecDepth 100000 in
theorem lifted (os : Os) (started : os.Started) (H : Type) (enc : TypeId × Value → H) :
    ReturnsInHanded {} Try.checked os 9 .any (Rows.subsPlaysSpec.pre6 enc Try.prog Try.f9 Rows.subsPlaysRow.domain false) (Rows.subsPlaysSpec.post enc Try.prog Try.f9 false true false false) := by
  refine returnsInHanded_of_change_sized (C := Try.checked) own started (by kernel_rfl) Try.func9
    (ChangeSpec.witness6 (enc := enc) (C := Try.checked) false ⟨#[], #[.string ByteArray.empty, .int .i64 0, .int .i64 0, .agg #[.string ByteArray.empty, .string ByteArray.empty, .int .i64 0, .int .i64 0], .bool false, .slice none 0 0], []⟩ 8 (by kernel_rfl) (by kernel_rfl) (by kernel_rfl) (by kernel_rfl)) ?_
  intro W base args ds gs before hval0 hW hcnd hsz0 _
  have hsz : (DataW.weightsEach Try.prog (Try.f9.params.toList ++ Rows.subsPlaysSpec.plain.varTypes Try.prog) (ds ++ gs)).all (· ≤ reachBytes) = true := hsz0
  have hval : ∀ (j : Nat) t v, Try.f9.params[j]? = some t → args[j]? = some v → Value.okWide Try.prog W .any base t v := hval0
  have hW' := hW
  obtain ⟨p, q, hA0, hV, rfl, hfz, hnd⟩ := hW
  have hA : DataW.TrodAll enc Try.prog W 0 (fun _ => true) true Try.f9.params.toList args.toList ds p := hA0
  rw [Try.params9] at hA hval hsz
  obtain ⟨v0, vs0, d0, ds0, p0, q0, hargs, rfl, rfl, h0, r0⟩ := trodAll_cons hA
  obtain ⟨v1, vs1, d1, ds1, p1, q1, rfl, rfl, rfl, h1, r1⟩ := trodAll_cons r0
  obtain ⟨v2, vs2, d2, ds2, p2, q2, rfl, rfl, rfl, h2, r2⟩ := trodAll_cons r1
  obtain ⟨v3, vs3, d3, ds3, p3, q3, rfl, rfl, rfl, h3, r3⟩ := trodAll_cons r2
  obtain ⟨v4, vs4, d4, ds4, p4, q4, rfl, rfl, rfl, h4, r4⟩ := trodAll_cons r3
  obtain ⟨v5, vs5, d5, ds5, p5, q5, rfl, rfl, rfl, h5, r5⟩ := trodAll_cons r4
  obtain ⟨rfl, rfl, rfl⟩ := trodAll_nil r5
  obtain rfl : args = #[v0, v1, v2, v3, v4, v5] := by cases args; simp_all
  obtain ⟨rfl, rfl⟩ := trodVars_none hV
  obtain ⟨a0, rfl, rfl, rfl, y0⟩ := open_string u9 (hval 0 9 v0 rfl rfl) h0
  have sz0 : a0.size ≤ 140737488351232 := by
    have z := sized_string hsz (j := 0) (t := 9) rfl rfl
    rw [Array.length_toList] at z
    exact z
  obtain ⟨a1, rfl, rfl, rfl, w1⟩ := open_int u3 (hval 1 3 v1 rfl rfl) h1
  obtain ⟨a2, rfl, rfl, rfl, w2⟩ := open_int u3 (hval 2 3 v2 rfl rfl) h2
  have k3 := h3
  obtain ⟨a3, rep3, wf3, -, lt3⟩ := open_flat1 encSb toldSb (fun a => SbOk a) Try.underlying45 (by kernel_rfl) elemSb (fun a => ⟨_, rfl⟩) (hval 3 45 v3 rfl rfl) h3
  obtain ⟨a4, rfl, rfl, rfl⟩ := open_bool u4 (hval 4 4 v4 rfl rfl) h4
  have k5 := h5
  obtain ⟨l5, rep5, wf5, hd5, hm5, lt5⟩ := open_flat encD2 toldD2 (fun a => okD2 a) us53 (by kernel_rfl) (by decide) elemD2 (hval 5 53 v5 rfl rfl) h5
  have hlen5 : l5.length * 16 ≤ 140737488351232 := by
    rcases hd5 with ⟨rfl, rfl⟩ | ⟨r, rfl⟩
    · simp
    · have := sized_slice hsz (j := 5) rfl rfl us53
      rw [List.length_map, show Try.prog.bytesOf 55 = 16 from by kernel_rfl] at this
      have h2 : reachBytes = 140737488351232 := rfl
      rw [h2] at this
      exact Nat.le_trans (Nat.mul_le_mul_right 16 (Nat.le_add_right _ _)) this
  clear hA0 hval0 hsz0 hsz
  have i1 := i64_of w1
  refine (call_of_sound (args := [.raw (.string a0), .raw (.int .i64 a1), .raw (.int .i64 a2), encSb a3, .raw (.bool a4), .sl (l5.map encD2) false]) rfl ((snd9 a0 a1 a2 a3 a4 l5 false _ (by omega) i1 wf3 (by omega) wf5).det) ?_).mono fun e W' ⟨he, bel⟩ => ?_
  · intro i A v hA hv
    match i, hA, hv with
    | 0, hA, hv => simp at hA hv; subst hA; subst hv; exact ⟨.raw _, by simp [AVal.free]⟩
    | 1, hA, hv => simp at hA hv; subst hA; subst hv; exact ⟨.raw _, by simp [AVal.free]⟩
    | 2, hA, hv => simp at hA hv; subst hA; subst hv; exact ⟨.raw _, by simp [AVal.free]⟩
    | 3, hA, hv => simp at hA hv; subst hA; subst hv; exact ⟨rep3, by simp [AVal.free, encSb]⟩
    | 4, hA, hv => simp at hA hv; subst hA; subst hv; exact ⟨.raw _, by simp [AVal.free]⟩
    | 5, hA, hv => simp at hA hv; subst hA; subst hv; exact ⟨rep5, by simp [AVal.free]⟩
    | n + 6, hA, hv => simp at hA
  subst he
  exact ⟨_, rfl, _, _, _, [], _, [], hW', trodAll_mk1 (shut_bool Try.underlying4 _), (trodAll_cons_mk (shut_string u9 y0) (trodAll_cons_mk (shut_int u3 w1) (trodAll_cons_mk (shut_int u3 w2) (trodAll_cons_mk (Below.trod laidOut (by kernel_rfl) (of_decide_eq_true (by kernel_rfl)) k3 bel lt3) (trodAll_cons_mk (shut_bool u4 _) (trodAll_cons_mk (Below.trod laidOut (by kernel_rfl) (of_decide_eq_true (by kernel_rfl)) k5 bel lt5) trodAll_mk0)))))), rfl, bel.frame _, fun h => by cases h⟩
theorem over : Rows.subsPlaysRow.holds Try.pinned (OpenSpec.ofChange Rows.subsPlaysSpec) :=
  OpenClaim.holds_of_wide 9 Try.f9 rfl rfl rfl rfl rfl rfl rfl ⟨rfl, rfl, rfl, rfl, rfl⟩ rfl rfl rfl rfl rfl (by kernel_rfl) Try.func9 (by kernel_rfl)
    (of_decide_eq_true (by kernel_rfl)) (by unfold Func.isWrapper; first | (rw [if_pos (by decide +kernel)]; kernel_rfl) | (rw [if_neg (by decide +kernel)]; exact ⟨rfl, rfl⟩))
    (fun os started H enc _ => lifted os started H enc)
theorem proved : Rows.SubsPlaysSaid := over
#print axioms proved
end Go.Proofs.Ytikalbdphkmclaa.subsPlays
namespace Go.Proofs.Ytikalbdphkmclaa
/-- The row, under a short name, for the claim. -/
theorem subsPlays_holds : Rows.SubsPlaysSaid := subsPlays.proved
end Go.Proofs.Ytikalbdphkmclaa
