/- CompactLast is proved for every input: the call returns true, and the arguments read as before; no condition is set. The functions that it reaches are walked in the text C8, over the abstract machine of the texts Am1 to Am40. -/
import Derived.Test.YtolgmcamchdfbaaC8
import Derived.Test.YtolgmcamchdfbaaAm40
import Derived.Test.YtolgmcamchdfbaaRows
import Derived.WalkKit
import Derived.ProofKit
import Derived.OpenShut
import Derived.ShutString
import Derived.ChangeOld
import Derived.Below
import Derived.SizedLaws
import Derived.Carry
namespace Go.Proofs.Ytolgmcamchdfbaa.compactLast
open Go.ChangeShapes Go.WideShapes Go.ChangeAt Go.RowKit Go.Am C08
open Go.ChangeMaps (open_string shut_string)
set_option linter.unusedVariables false
theorem own : ownKnob Try.prog.godebug = none := by kernel_rfl
theorem laidOut : laidOutB Try.prog = true := by kernel_rfl

def told {H : Type} (r : Rec) : DataW H := .agg [.lit (.int .i64 r.off), .lit (.string r.prod.data.toList), .lit (.int .i64 r.seq), .lit (.string r.key.data.toList), .lit (.string r.val.data.toList)]
theorem open_rec {H : Type} {enc : TypeId × Value → H} {w : World} {spare : Nat → Bool} {held : Bool} (m : Nat) (cs : List Value) (d : DataW H) (pl : List MemPlace) (h : DataW.trod enc Try.prog w 0 spare held m 30 cs = some (d, pl)) (hl : cs.length = 5) :
    ∃ a : Rec, True ∧ d = told a ∧ Plain (C08.enc a) cs ∧ pl = [] := by
  obtain ⟨xs, n, rfl, hx, _, hlen, hf⟩ := DataW.trod_struct Try.underlying30 h
  match cs, hl with
  | [c0, c1, c2, c3, c4], _ =>
    have e3 : Try.prog.cellsOf 3 = 1 := by kernel_rfl
    have e9 : Try.prog.cellsOf 9 = 1 := by kernel_rfl
    have f0 : DataW.trod enc Try.prog w 0 spare held n 3 [c0] = xs[0]? := by
      have : DataW.trod enc Try.prog w 0 spare held n 3 (([c0, c1, c2, c3, c4].drop 0).take (Try.prog.cellsOf 3)) = xs[0]? := hf 0 _ rfl
      rw [e3] at this
      exact this
    have f1 : DataW.trod enc Try.prog w 0 spare held n 9 [c1] = xs[1]? := by
      have : DataW.trod enc Try.prog w 0 spare held n 9 (([c0, c1, c2, c3, c4].drop 1).take (Try.prog.cellsOf 9)) = xs[1]? := hf 1 _ rfl
      rw [e9] at this
      exact this
    have f2 : DataW.trod enc Try.prog w 0 spare held n 3 [c2] = xs[2]? := by
      have : DataW.trod enc Try.prog w 0 spare held n 3 (([c0, c1, c2, c3, c4].drop 2).take (Try.prog.cellsOf 3)) = xs[2]? := hf 2 _ rfl
      rw [e3] at this
      exact this
    have f3 : DataW.trod enc Try.prog w 0 spare held n 9 [c3] = xs[3]? := by
      have : DataW.trod enc Try.prog w 0 spare held n 9 (([c0, c1, c2, c3, c4].drop 3).take (Try.prog.cellsOf 9)) = xs[3]? := hf 3 _ rfl
      rw [e9] at this
      exact this
    have f4 : DataW.trod enc Try.prog w 0 spare held n 9 [c4] = xs[4]? := by
      have : DataW.trod enc Try.prog w 0 spare held n 9 (([c0, c1, c2, c3, c4].drop 4).take (Try.prog.cellsOf 9)) = xs[4]? := hf 4 _ rfl
      rw [e9] at this
      exact this
    match xs, hlen with
    | [x0, x1, x2, x3, x4], _ =>
      obtain ⟨n0, h0, h0', -⟩ := DataW.trod_int und3 f0
      obtain ⟨n1, h1, h1', -⟩ := DataW.trod_string und9 f1
      obtain ⟨n2, h2, h2', -⟩ := DataW.trod_int und3 f2
      obtain ⟨n3, h3, h3', -⟩ := DataW.trod_string und9 f3
      obtain ⟨n4, h4, h4', -⟩ := DataW.trod_string und9 f4
      simp only [List.cons.injEq, and_true] at h0 h1 h2 h3 h4
      subst h0 h1 h2 h3 h4 h0' h1' h2' h3' h4'
      exact ⟨⟨n0, n1, n2, n3, n4⟩, trivial, congrArg Prod.fst hx, rfl, congrArg Prod.snd hx⟩

set_option maxRecDepth 100000 in
theorem lifted (os : Os) (started : os.Started) (H : Type) (enc : TypeId × Value → H) :
    ReturnsInHanded {} Try.checked os 4 .any (Rows.compactLastSpec.pre6 enc Try.prog Try.f4 Rows.compactLastRow.domain false) (Rows.compactLastSpec.post enc Try.prog Try.f4 false true false false) := by
  refine returnsInHanded_of_change_sized (C := Try.checked) own started (by kernel_rfl) Try.func4
    (ChangeSpec.witness6 (enc := enc) (C := Try.checked) false ⟨#[], #[.slice none 0 0, .int .i64 0], []⟩ 8 (by kernel_rfl) (by kernel_rfl) (by kernel_rfl) (by kernel_rfl)) ?_
  intro W base args ds gs before hval0 hW hcnd hsz0 _
  have hsz : (DataW.weightsEach Try.prog (Try.f4.params.toList ++ Rows.compactLastSpec.plain.varTypes Try.prog) (ds ++ gs)).all (· ≤ reachBytes) = true := hsz0
  have hval : ∀ (j : Nat) t v, Try.f4.params[j]? = some t → args[j]? = some v → Value.okWide Try.prog W .any base t v := hval0
  have hW' := hW
  obtain ⟨p, q, hA0, hV, rfl, hfz, hnd⟩ := hW
  have hA : DataW.TrodAll enc Try.prog W 0 (fun _ => true) true Try.f4.params.toList args.toList ds p := hA0
  rw [Try.params4] at hA hval hsz
  obtain ⟨v0, vs0, d0, ds0, p0, q0, hargs, rfl, rfl, h0, r0⟩ := trodAll_cons hA
  obtain ⟨v1, vs1, d1, ds1, p1, q1, rfl, rfl, rfl, h1, r1⟩ := trodAll_cons r0
  obtain ⟨rfl, rfl, rfl⟩ := trodAll_nil r1
  obtain rfl : args = #[v0, v1] := by cases args; simp_all
  obtain ⟨rfl, rfl⟩ := trodVars_none hV
  have k0 := h0
  obtain ⟨l, hrep, -, hd, -, lt0⟩ := open_flat C08.enc told (fun _ => True) und22 (by kernel_rfl) (by decide) open_rec (hval 0 22 v0 rfl rfl) h0
  have hlen : l.length * 64 ≤ 2 ^ 47 := by
    rcases hd with ⟨rfl, rfl⟩ | ⟨r, rfl⟩
    · simp
    · have := sized_slice hsz (j := 0) rfl rfl und22
      rw [List.length_map, show Try.prog.bytesOf 30 = 64 from by kernel_rfl] at this
      have h2 := reachBytes_lt
      omega
  obtain ⟨a1, rfl, rfl, rfl, w1⟩ := open_int und3 (hval 1 3 v1 rfl rfl) h1
  clear hA0 hval0 hsz0 hsz
  refine (call_of_sound (args := [.sl (l.map C08.enc) false, .raw (.int .i64 a1)]) rfl (snd4 l a1 false _ hlen) ?_).mono fun e W' ⟨he, bel⟩ => ?_
  · intro i A v hA hv
    match i, hA, hv with
    | 0, hA, hv => simp at hA hv; subst hA; subst hv; exact ⟨hrep, by simp [AVal.free]⟩
    | 1, hA, hv => simp at hA hv; subst hA; subst hv; exact ⟨.raw _, by simp [AVal.free]⟩
    | n + 2, hA, hv => simp at hA
  subst he
  exact ⟨_, rfl, _, _, _, [], _, [], hW', trodAll_mk1 (shut_bool Try.underlying4 _), (trodAll_cons_mk (Below.trod laidOut (by kernel_rfl) (of_decide_eq_true (by kernel_rfl)) k0 bel lt0) (trodAll_cons_mk (shut_int und3 w1) trodAll_mk0)), rfl, bel.frame _, fun h => by cases h⟩
theorem over : Rows.compactLastRow.holds Try.pinned (OpenSpec.ofChange Rows.compactLastSpec) :=
  OpenClaim.holds_of_wide 4 Try.f4 rfl rfl rfl rfl rfl rfl rfl ⟨rfl, rfl, rfl, rfl, rfl⟩ rfl rfl rfl rfl rfl (by kernel_rfl) Try.func4 (by kernel_rfl)
    (of_decide_eq_true (by kernel_rfl)) (by unfold Func.isWrapper; first | (rw [if_pos (by decide +kernel)]; kernel_rfl) | (rw [if_neg (by decide +kernel)]; exact ⟨rfl, rfl⟩))
    (fun os started H enc _ => lifted os started H enc)
theorem proved : Rows.CompactLastSaid := over
#print axioms proved
end Go.Proofs.Ytolgmcamchdfbaa.compactLast
namespace Go.Proofs.Ytolgmcamchdfbaa
/-- The row, under a short name, for the claim. -/
theorem compactLast_holds : Rows.CompactLastSaid := compactLast.proved
end Go.Proofs.Ytolgmcamchdfbaa
