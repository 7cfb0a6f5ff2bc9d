/- OrderPlays is proved for every input: the call returns true, and the arguments read as before. The functions that it reaches are walked in the text J18, over the abstract machine of the texts Am1 to Am40. -/
import Derived.Test.YtkpenadcehnpjaaJ18
import Derived.Test.YtkpenadcehnpjaaAm41
import Derived.Test.YtkpenadcehnpjaaRows
import Derived.WalkKit
import Derived.ProofKit
import Derived.OpenShut
import Derived.ShutString
import Derived.ChangeOld
import Derived.Below
import Derived.SizedLaws
import Derived.Carry
import Derived.SliceStrings
namespace Go.Proofs.Ytkpenadcehnpjaa.orderPlays
open Go.ChangeShapes Go.WideShapes Go.ChangeAt Go.RowKit Go.Am C18
open Go.ChangeMaps (open_string shut_string)
set_option linter.unusedVariables false
theorem own : ownKnob Try.prog.godebug = none := by kernel_rfl
theorem laidOut : laidOutB Try.prog = true := by kernel_rfl
theorem u3 : Try.prog.underlying 3 = some (.int .i64) := by kernel_rfl
theorem u9 : Try.prog.underlying 9 = some .string := by kernel_rfl
theorem us25 : Try.prog.underlying 25 = some (.slice 3) := by kernel_rfl
theorem us22 : Try.prog.underlying 22 = some (.slice 9) := by kernel_rfl
theorem us40 : Try.prog.underlying 40 = some (.slice 44) := by kernel_rfl
def toldDd {H : Type} (r : Dd) : DataW H := .agg [.lit (.int .i64 r.kind), .lit (.string r.s.data.toList), .lit (.int .i64 r.node), .lit (.int .i64 r.n)]
set_option maxRecDepth 20000 in
theorem elemDd {H : Type} {enc : TypeId × Value → H} {w : World} {spare : Nat → Bool} {held : Bool} (m : Nat) (cs : List Value) (d : DataW H) (pl : List MemPlace) (h : DataW.trod enc Try.prog w 0 spare held m 44 cs = some (d, pl)) (hl : cs.length = 4) :
    ∃ a : Dd, (-2 ^ 63 ≤ a.kind ∧ a.kind < 2 ^ 63) ∧ d = toldDd a ∧ Plain (encDd a) cs ∧ pl = [] := by
  obtain ⟨xs, n, rfl, hx, _, hlen, hf⟩ := DataW.trod_struct Try.underlying44 h
  match cs, hl with
  | [c0, c1, c2, c3], _ =>
    have f0 : DataW.trod enc Try.prog w 0 spare held n 3 [c0] = xs[0]? := by
      have : DataW.trod enc Try.prog w 0 spare held n 3 (([c0, c1, c2, c3].drop 0).take (Try.prog.cellsOf 3)) = xs[0]? := hf 0 _ rfl
      rw [show Try.prog.cellsOf 3 = 1 from by kernel_rfl] at this
      exact this
    have f1 : DataW.trod enc Try.prog w 0 spare held n 9 [c1] = xs[1]? := by
      have : DataW.trod enc Try.prog w 0 spare held n 9 (([c0, c1, c2, c3].drop 1).take (Try.prog.cellsOf 9)) = xs[1]? := hf 1 _ rfl
      rw [show Try.prog.cellsOf 9 = 1 from by kernel_rfl] at this
      exact this
    have f2 : DataW.trod enc Try.prog w 0 spare held n 3 [c2] = xs[2]? := by
      have : DataW.trod enc Try.prog w 0 spare held n 3 (([c0, c1, c2, c3].drop 2).take (Try.prog.cellsOf 3)) = xs[2]? := hf 2 _ rfl
      rw [show Try.prog.cellsOf 3 = 1 from by kernel_rfl] at this
      exact this
    have f3 : DataW.trod enc Try.prog w 0 spare held n 3 [c3] = xs[3]? := by
      have : DataW.trod enc Try.prog w 0 spare held n 3 (([c0, c1, c2, c3].drop 3).take (Try.prog.cellsOf 3)) = xs[3]? := hf 3 _ rfl
      rw [show Try.prog.cellsOf 3 = 1 from by kernel_rfl] at this
      exact this
    match xs, hlen with
    | [x0, x1, x2, x3], _ =>
      obtain ⟨n0, h0, h0', w0⟩ := DataW.trod_int u3 f0
      simp only [List.cons.injEq, and_true] at h0
      subst h0 h0'
      obtain ⟨n1, h1, h1', w1⟩ := DataW.trod_string u9 f1
      simp only [List.cons.injEq, and_true] at h1
      subst h1 h1'
      obtain ⟨n2, h2, h2', w2⟩ := DataW.trod_int u3 f2
      simp only [List.cons.injEq, and_true] at h2
      subst h2 h2'
      obtain ⟨n3, h3, h3', w3⟩ := DataW.trod_int u3 f3
      simp only [List.cons.injEq, and_true] at h3
      subst h3 h3'
      refine ⟨⟨n0, n1, n2, n3⟩, i64w w0, congrArg Prod.fst hx, ?_, congrArg Prod.snd hx⟩
      rfl
def toldInt {H : Type} (n : Int) : DataW H := .lit (.int .i64 n)
theorem elemints3 {H : Type} {enc : TypeId × Value → H} {w : World} {spare : Nat → Bool} {held : Bool} (m : Nat) (cs : List Value) (d : DataW H) (pl : List MemPlace) (h : DataW.trod enc Try.prog w 0 spare held m 3 cs = some (d, pl)) (hl : cs.length = 1) :
    ∃ a : Int, (Lit.int .i64 a).wf = true ∧ d = toldInt a ∧ Plain (int a) cs ∧ pl = [] := by
  obtain ⟨a, rfl, hx, hw⟩ := DataW.trod_int u3 h
  exact ⟨a, hw, congrArg Prod.fst hx, rfl, congrArg Prod.snd hx⟩
def toldStr {H : Type} (s : ByteArray) : DataW H := .lit (.string s.data.toList)
theorem elemstrs9 {H : Type} {enc : TypeId × Value → H} {w : World} {spare : Nat → Bool} {held : Bool} (m : Nat) (cs : List Value) (d : DataW H) (pl : List MemPlace) (h : DataW.trod enc Try.prog w 0 spare held m 9 cs = some (d, pl)) (hl : cs.length = 1) :
    ∃ a : ByteArray, a.size ≤ maxLen ∧ d = toldStr a ∧ Plain (str a) cs ∧ pl = [] := by
  obtain ⟨a, rfl, hx, hw⟩ := DataW.trod_string u9 h
  exact ⟨a, hw, congrArg Prod.fst hx, rfl, congrArg Prod.snd hx⟩
set_option maxRecDepth 100000 in
theorem lifted (os : Os) (started : os.Started) (H : Type) (enc : TypeId × Value → H) :
    ReturnsInHanded {} Try.checked os 4 .any (Rows.orderPlaysSpec.pre6 enc Try.prog Try.f4 Rows.orderPlaysRow.domain false) (Rows.orderPlaysSpec.post enc Try.prog Try.f4 false true false false) := by
  refine returnsInHanded_of_change_sized (C := Try.checked) own started (by kernel_rfl) Try.func4
    (ChangeSpec.witness6 (enc := enc) (C := Try.checked) false ⟨#[], #[.int .i64 0, .slice none 0 0, .slice none 0 0, .slice none 0 0], []⟩ 8 (by kernel_rfl) (by kernel_rfl) (by kernel_rfl) (by kernel_rfl)) ?_
  intro W base args ds gs before hval0 hW hcnd hsz0 _
  have hsz : (DataW.weightsEach Try.prog (Try.f4.params.toList ++ Rows.orderPlaysSpec.plain.varTypes Try.prog) (ds ++ gs)).all (· ≤ reachBytes) = true := hsz0
  have hval : ∀ (j : Nat) t v, Try.f4.params[j]? = some t → args[j]? = some v → Value.okWide Try.prog W .any base t v := hval0
  have hW' := hW
  obtain ⟨p, q, hA0, hV, rfl, hfz, hnd⟩ := hW
  have hA : DataW.TrodAll enc Try.prog W 0 (fun _ => true) true Try.f4.params.toList args.toList ds p := hA0
  rw [Try.params4] at hA hval hsz
  obtain ⟨v0, vs0, d0, ds0, p0, q0, hargs, rfl, rfl, h0, r0⟩ := trodAll_cons hA
  obtain ⟨v1, vs1, d1, ds1, p1, q1, rfl, rfl, rfl, h1, r1⟩ := trodAll_cons r0
  obtain ⟨v2, vs2, d2, ds2, p2, q2, rfl, rfl, rfl, h2, r2⟩ := trodAll_cons r1
  obtain ⟨v3, vs3, d3, ds3, p3, q3, rfl, rfl, rfl, h3, r3⟩ := trodAll_cons r2
  obtain ⟨rfl, rfl, rfl⟩ := trodAll_nil r3
  obtain rfl : args = #[v0, v1, v2, v3] := by cases args; simp_all
  obtain ⟨rfl, rfl⟩ := trodVars_none hV
  obtain ⟨a0, rfl, rfl, rfl, w0⟩ := open_int u3 (hval 0 3 v0 rfl rfl) h0
  have k1 := h1
  obtain ⟨l1, rep1, wf1, hd1, hm1, lt1⟩ := open_flat int toldInt (fun a => (Lit.int .i64 a).wf = true) us25 (by kernel_rfl) (by decide) elemints3 (hval 1 25 v1 rfl rfl) h1
  have hlen1 : l1.length * 8 ≤ 140737488351232 := by
    rcases hd1 with ⟨rfl, rfl⟩ | ⟨r, rfl⟩
    · simp
    · have := sized_slice hsz (j := 1) rfl rfl us25
      rw [List.length_map, show Try.prog.bytesOf 3 = 8 from by kernel_rfl] at this
      have h2 : reachBytes = 140737488351232 := rfl
      rw [h2] at this
      exact Nat.le_trans (Nat.mul_le_mul_right 8 (Nat.le_add_right _ _)) this
  have k2 := h2
  obtain ⟨l2, rep2, wf2, hd2, hm2, lt2⟩ := open_flat str toldStr (fun a => a.size ≤ maxLen) us22 (by kernel_rfl) (by decide) elemstrs9 (hval 2 22 v2 rfl rfl) h2
  have hlen2 : l2.length * 16 ≤ 140737488351232 := by
    rcases hd2 with ⟨rfl, rfl⟩ | ⟨r, rfl⟩
    · simp
    · have := sized_slice hsz (j := 2) rfl rfl us22
      rw [List.length_map, show Try.prog.bytesOf 9 = 16 from by kernel_rfl] at this
      have h2 : reachBytes = 140737488351232 := rfl
      rw [h2] at this
      exact Nat.le_trans (Nat.mul_le_mul_right 16 (Nat.le_add_right _ _)) this
  have ss2 : ∀ s ∈ l2, s.size ≤ 140737488351232 := by
    intro s hs
    rcases hd2 with ⟨rfl, rfl⟩ | ⟨r, rfl⟩
    · simp at hs
    · exact sized_str hsz (j := 2) rfl rfl us22 (List.mem_map.2 ⟨s, hs, rfl⟩)
  have k3 := h3
  obtain ⟨l3, rep3, wf3, hd3, hm3, lt3⟩ := open_flat encDd toldDd (fun a => (-2 ^ 63 ≤ a.kind ∧ a.kind < 2 ^ 63)) us40 (by kernel_rfl) (by decide) elemDd (hval 3 40 v3 rfl rfl) h3
  have hlen3 : l3.length * 40 ≤ 140737488351232 := by
    rcases hd3 with ⟨rfl, rfl⟩ | ⟨r, rfl⟩
    · simp
    · have := sized_slice hsz (j := 3) rfl rfl us40
      rw [List.length_map, show Try.prog.bytesOf 44 = 40 from by kernel_rfl] at this
      have h2 : reachBytes = 140737488351232 := rfl
      rw [h2] at this
      exact Nat.le_trans (Nat.mul_le_mul_right 40 (Nat.le_add_right _ _)) this
  have sf3_s : ∀ a ∈ l3, a.s.size ≤ 140737488351232 := by
    intro a ha
    rcases hd3 with ⟨rfl, rfl⟩ | ⟨r, rfl⟩
    · simp at ha
    · exact sized_sfld hsz (j := 3) rfl rfl us40 Try.underlying44 (List.mem_map.2 ⟨a, ha, rfl⟩) (q := 1) rfl rfl
  clear hA0 hval0 hsz0 hsz
  have q2 : ∀ s ∈ l2, s.size < 2 ^ 61 := fun s hs => by have := ss2 s hs; omega
  have q3 : ∀ d ∈ l3, okDd d := fun d hd => ⟨wf3 d hd, by have := sf3_s d hd; omega⟩
  refine (call_of_sound (args := [.raw (.int .i64 a0), .sl (l1.map int) false, .sl (l2.map str) false, .sl (l3.map encDd) false]) rfl ((snd4 a0 l1 false l2 false l3 false _ (by omega) (by omega) q2 (by omega) q3).det) ?_).mono fun e W' ⟨he, bel⟩ => ?_
  · intro i A v hA hv
    match i, hA, hv with
    | 0, hA, hv => simp at hA hv; subst hA; subst hv; exact ⟨.raw _, by simp [AVal.free]⟩
    | 1, hA, hv => simp at hA hv; subst hA; subst hv; exact ⟨rep1, by simp [AVal.free]⟩
    | 2, hA, hv => simp at hA hv; subst hA; subst hv; exact ⟨rep2, by simp [AVal.free]⟩
    | 3, hA, hv => simp at hA hv; subst hA; subst hv; exact ⟨rep3, by simp [AVal.free]⟩
    | n + 4, hA, hv => simp at hA
  subst he
  exact ⟨_, rfl, _, _, _, [], _, [], hW', trodAll_mk1 (shut_bool Try.underlying4 _), (trodAll_cons_mk (shut_int u3 w0) (trodAll_cons_mk (Below.trod laidOut (by kernel_rfl) (of_decide_eq_true (by kernel_rfl)) k1 bel lt1) (trodAll_cons_mk (Below.trod laidOut (by kernel_rfl) (of_decide_eq_true (by kernel_rfl)) k2 bel lt2) (trodAll_cons_mk (Below.trod laidOut (by kernel_rfl) (of_decide_eq_true (by kernel_rfl)) k3 bel lt3) trodAll_mk0)))), rfl, bel.frame _, fun h => by cases h⟩
theorem over : Rows.orderPlaysRow.holds Try.pinned (OpenSpec.ofChange Rows.orderPlaysSpec) :=
  OpenClaim.holds_of_wide 4 Try.f4 rfl rfl rfl rfl rfl rfl rfl ⟨rfl, rfl, rfl, rfl, rfl⟩ rfl rfl rfl rfl rfl (by kernel_rfl) Try.func4 (by kernel_rfl)
    (of_decide_eq_true (by kernel_rfl)) (by unfold Func.isWrapper; first | (rw [if_pos (by decide +kernel)]; kernel_rfl) | (rw [if_neg (by decide +kernel)]; exact ⟨rfl, rfl⟩))
    (fun os started H enc _ => lifted os started H enc)
theorem proved : Rows.OrderPlaysSaid := over
#print axioms proved
end Go.Proofs.Ytkpenadcehnpjaa.orderPlays
namespace Go.Proofs.Ytkpenadcehnpjaa
/-- The row, under a short name, for the claim. -/
theorem orderPlays_holds : Rows.OrderPlaysSaid := orderPlays.proved
end Go.Proofs.Ytkpenadcehnpjaa
