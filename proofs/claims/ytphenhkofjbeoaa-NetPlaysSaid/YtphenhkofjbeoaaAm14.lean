import Derived.Test.YtphenhkofjbeoaaAm13
/-! Calls: what a function is shown to do, and what a caller keeps. -/
namespace Go.Am

def argT (xs : List AVal) : Nat → AVal := fun t => xs.getD t .undef

/-- Called with these values, in a memory of which this is known, the function comes back with a value, and leaves a memory, of which 'Post' tells. -/
def SoundCall (P : Program) (f : FuncId) (args : List AVal) (M : Mem) (Post : AVal → Mem → Prop) : Prop :=
  ∀ (κ : Ghost) (w : World) (vs : Array Value), vs.size = args.length → Holds P κ (argT args) (fun t => vs.getD t undef) M w →
    Calls P f vs w fun e w' => ∃ v κ' r M', e = .returned v ∧ Post r M' ∧ Holds P κ' (argT [r]) (fun t => if t = 0 then v else undef) M' w' ∧ Keep κ w κ' w'

theorem SoundCall.mono {P : Program} {f : FuncId} {args : List AVal} {M : Mem} {Post Post' : AVal → Mem → Prop} (h : SoundCall P f args M Post) (hp : ∀ r M', Post r M' → Post' r M') : SoundCall P f args M Post' :=
  fun κ w vs hs hh => (h κ w vs hs hh).mono fun _ _ ⟨v, κ', r, M', e, hq, rest⟩ => ⟨v, κ', r, M', e, hp _ _ hq, rest⟩

def goesB (P : Program) (f : FuncId) : Bool :=
  match P.funcs[f]? with
  | some fn => fn.name != "runtime.NumGoroutine" && fn.body.isSome
  | none => false

theorem run_callFunc {P : Program} {f : FuncId} (h : goesB P f = true) (args : Array Value) (w : World) : (callFunc f args).run P w = .ok (.enter f args) w := by
  unfold goesB at h
  split at h
  · rename_i fn hf
    simp only [Bool.and_eq_true, bne_iff_ne, ne_eq] at h
    have h1 : (fn.name == "runtime.NumGoroutine") = false := by simpa using h.1
    have h2 : fn.body.isNone = false := by
      cases hb : fn.body with
      | none => rw [hb] at h; simp at h
      | some c => rfl
    unfold callFunc
    rw [Sem.run_bind, run_program, Result.andThen_ok, hf]
    simp only [h1, h2, Bool.false_eq_true, if_false, Sem.run_pure]
  · cases h

section
variable {P : Program} {κ : Ghost} {w : World}

/-- The tags that a callee sees: what its caller owns is the frame's; but for what is handed over. -/
def callTag (κ : Ghost) (mv : Option (Nat × Nat)) : Ghost := fun b o => match κ b o with
  | .slot t => (match mv with | some (i, s) => if t = s then .slot i else .frame | none => .frame)
  | x => x

/-- The tags behind a call. -/
def backTag (κ κ' : Ghost) (mv : Option (Nat × Nat)) (d : Nat) : Ghost := fun b o =>
  let conv : Tag → Tag := fun | .slot 0 => .slot d | .slot (_ + 1) => .free | x => x
  match κ b o with
  | .slot t => (match mv with | some (_, s) => if t = s then conv (κ' b o) else .slot t | none => .slot t)
  | _ => conv (κ' b o)

theorem Holds.enter {T : Nat → AVal} {V : Nat → Value} {M : Mem} (h : Holds P κ T V M w) (mv : Option (Nat × Nat)) (args : List AVal) (vs : Array Value) (hr : ∀ (i : Nat) X, args[i]? = some X → Rep P κ w X (vs.getD i undef))
    (hfree : ∀ (i : Nat) X, args[i]? = some X → (∃ s, mv = some (i, s) ∧ X = T s ∧ vs.getD i undef = V s) ∨ X.free) : Holds P (callTag κ mv) (argT args) (fun t => vs.getD t undef) M w := by
  have himm : ∀ b o, κ b o = .imm → callTag κ mv b o = .imm := fun b o hb => by unfold callTag; rw [hb]
  have hms : ∀ b o c j, κ b o = .mslot c j → callTag κ mv b o = .mslot c j := fun b o c j hb => by unfold callTag; rw [hb]
  have K : ∀ {X x}, Rep P κ w X x → Rep P (callTag κ mv) w X x := fun hr => hr.keep (fun b o hb => ⟨himm b o hb, rfl⟩) (fun _ _ => rfl) (Nat.le_refl _)
  refine ⟨fun t => ?_, fun b o hb => (h.obj b o hb).tags himm (fun b' o' j => hms b' o' b j), fun b o hb => h.tag b o fun e => hb (by unfold callTag; rw [e]), fun t b o hsp => ?_, fun b o t hb => ?_, fun b o c j hb => ?_⟩
  · unfold argT
    rw [List.getD_eq_getElem?_getD]
    cases ha : args[t]? with
    | none => exact .undef _
    | some X => exact K (hr t X ha)
  · unfold argT at hsp
    rw [List.getD_eq_getElem?_getD] at hsp
    cases ha : args[t]? with
    | none => rw [ha] at hsp; exact absurd hsp (Spare.not_free (by simp [AVal.free]))
    | some X =>
      rw [ha] at hsp
      rcases hfree t X ha with ⟨s, h1, h2, h3⟩ | h1
      · simp only [Option.getD_some, h2, h3] at hsp
        have := h.sp s b o hsp
        unfold callTag; rw [this, h1]; simp
      · exact absurd hsp (Spare.not_free h1)
  · unfold callTag at hb
    split at hb
    · rename_i t' h1; exact h.wr b o t' h1
    · exact h.wr b o t hb
  · unfold callTag at hb
    split at hb
    · split at hb
      · split at hb <;> cases hb
      · cases hb
    · exact h.mwr b o c j hb

theorem Holds.back {T : Nat → AVal} {V : Nat → Value} {M M' : Mem} {w' : World} {κ' : Ghost} {r : AVal} {v : Value} (h : Holds P κ T V M w) (mv : Option (Nat × Nat)) (d : Nat)
    (h' : Holds P κ' (argT [r]) (fun t => if t = 0 then v else undef) M' w') (hk : Keep (callTag κ mv) w κ' w') (hT : ∀ i s, mv = some (i, s) → (T s).free) :
    Holds P (backTag κ κ' mv d) (setT T d r) (fun t => if t = d then v else V t) M' w' ∧ Keep κ w (backTag κ κ' mv d) w' := by
  have hfr : ∀ b o t, κ b o = .slot t → (∀ i s, mv = some (i, s) → t ≠ s) → callTag κ mv b o = .frame ∧ κ' b o = .frame ∧ backTag κ κ' mv d b o = .slot t := fun b o t hb hn => by
    have h1 : callTag κ mv b o = .frame := by
      unfold callTag; rw [hb]
      cases mv with
      | none => rfl
      | some p => obtain ⟨i, s⟩ := p; simp only []; rw [if_neg (hn i s rfl)]
    refine ⟨h1, (hk.frame b o h1).1, ?_⟩
    unfold backTag; rw [hb]
    cases mv with
    | none => rfl
    | some p => obtain ⟨i, s⟩ := p; simp only []; rw [if_neg (hn i s rfl)]
  -- where the caller owned nothing that it kept
  have hcv : ∀ b o, κ' b o ≠ .frame → backTag κ κ' mv d b o = (match κ' b o with | .slot 0 => .slot d | .slot (_ + 1) => .free | x => x) := fun b o hb => by
    cases hκ : κ b o with
    | slot t =>
      by_cases hn : ∀ i s, mv = some (i, s) → t ≠ s
      · exact absurd (hfr b o t hκ hn).2.1 hb
      · simp only [Classical.not_forall, Classical.not_not] at hn
        obtain ⟨i, s, h1, h2⟩ := hn
        unfold backTag; rw [hκ, h1]; simp only [h2, if_true]
    | _ => unfold backTag; rw [hκ]
  have himm : ∀ b o, κ' b o = .imm → backTag κ κ' mv d b o = .imm := fun b o hb => by rw [hcv b o (by rw [hb]; simp), hb]
  have hms : ∀ b o c j, κ' b o = .mslot c j → backTag κ κ' mv d b o = .mslot c j := fun b o c j hb => by rw [hcv b o (by rw [hb]; simp), hb]
  have himm0 : ∀ b o, κ b o = .imm → backTag κ κ' mv d b o = .imm ∧ w'.cell? ⟨b, o, none⟩ = w.cell? ⟨b, o, none⟩ := fun b o hb => by
    have h1 : callTag κ mv b o = .imm := by unfold callTag; rw [hb]
    exact ⟨himm b o (hk.imm b o h1).1, (hk.imm b o h1).2⟩
  have hframe0 : ∀ b o, κ b o = .frame → backTag κ κ' mv d b o = .frame ∧ w'.cell? ⟨b, o, none⟩ = w.cell? ⟨b, o, none⟩ ∧ w'.frozen? ⟨b, o, none⟩ = w.frozen? ⟨b, o, none⟩ := fun b o hb => by
    have h1 : callTag κ mv b o = .frame := by unfold callTag; rw [hb]
    refine ⟨?_, (hk.frame b o h1).2⟩
    unfold backTag; rw [hb]; simp only [(hk.frame b o h1).1]
  have K' : ∀ {X x}, Rep P κ' w' X x → Rep P (backTag κ κ' mv d) w' X x := fun hr => hr.keep (fun b o hb => ⟨himm b o hb, rfl⟩) (fun _ _ => rfl) (Nat.le_refl _)
  have K : ∀ {X x}, Rep P κ w X x → Rep P (backTag κ κ' mv d) w' X x := fun hr => hr.keep himm0 hk.shape hk.size
  refine ⟨⟨fun t => ?_, fun b o hb => (h'.obj b o hb).tags himm (fun b' o' j => hms b' o' b j), fun b o hb => ?_, fun t b o hsp => ?_, fun b o t hb => ?_, fun b o c j hb => ?_⟩,
    ⟨hk.os, hk.tape, hk.output, hk.size, hk.shape, himm0, hframe0, fun b hb hp => hk.block b hb fun o => ?_⟩⟩
  · unfold setT
    split
    · have := h'.tmp 0
      exact K' this
    · exact K (h.tmp t)
  · by_cases hb' : κ' b o = .frame
    · exact h'.tag b o (by rw [hb']; simp)
    · rw [hcv b o hb'] at hb
      exact h'.tag b o fun e => hb (by rw [e])
  · unfold setT at hsp
    split at hsp
    · rename_i e; subst e
      have := h'.sp 0 b o hsp
      rw [hcv b o (by rw [this]; simp), this]
    · have hsp0 := hsp.keep (h.tmp t) hk.shape
      have h1 := h.sp t b o hsp0
      refine (hfr b o t h1 fun i s e e' => ?_).2.2
      subst e'
      exact Spare.not_free (hT i t e) hsp0
  · by_cases hb' : κ' b o = .frame
    · cases hκ : κ b o with
      | slot t' =>
        by_cases hn : ∀ i s, mv = some (i, s) → t' ≠ s
        · have h1 := (hk.frame b o (hfr b o t' hκ hn).1).2
          have h2 := h.wr b o t' hκ
          exact ⟨by rw [h1.1]; exact h2.1, by rw [h1.2]; exact h2.2⟩
        · simp only [Classical.not_forall, Classical.not_not] at hn
          obtain ⟨i, s, h1, h2⟩ := hn
          unfold backTag at hb; rw [hκ, h1] at hb; simp only [h2, if_true, hb'] at hb; cases hb
      | _ => unfold backTag at hb; rw [hκ] at hb; simp only [hb'] at hb; cases hb
    · rw [hcv b o hb'] at hb
      split at hb
      · rename_i h1; exact h'.wr b o 0 h1
      · cases hb
      · exact h'.wr b o t hb
  · by_cases hb' : κ' b o = .frame
    · cases hκ : κ b o with
      | slot t' =>
        unfold backTag at hb; rw [hκ] at hb
        cases mv with
        | none => cases hb
        | some p =>
          obtain ⟨i, s⟩ := p
          simp only [hb'] at hb
          split at hb <;> cases hb
      | _ => unfold backTag at hb; rw [hκ] at hb; simp only [hb'] at hb; cases hb
    · rw [hcv b o hb'] at hb
      split at hb
      · cases hb
      · cases hb
      · exact h'.mwr b o c j hb
  · rcases hp o with h1 | h1
    · left; unfold callTag; rw [h1]
    · right; unfold callTag; rw [h1]

end
end Go.Am
