import Derived.Test.YtkjdclhhmgjfbaaA04
import Derived.Test.YtkjdclhhmgjfbaaK04
/-! Chapter 4: the disk: what its functions compute. -/
open Go Go.Proofs Go.Am
set_option linter.unusedVariables false
set_option linter.unusedSimpArgs false
set_option autoImplicit false
namespace C04
theorem ag62 : aggT Try.prog 62 = some false := by kernel_rfl
theorem ag65 : aggT Try.prog 65 = some false := by kernel_rfl
theorem ag66 : aggT Try.prog 66 = some false := by kernel_rfl
theorem ag75 : aggT Try.prog 75 = some false := by kernel_rfl
theorem ag77 : aggT Try.prog 77 = some true := by kernel_rfl
theorem bz77 : (zeroT Try.prog 77).map (fun z => z.cells.toList.map AVal.raw) = some [.raw (.int .i64 0), .raw .nilFunc] := by kernel_rfl
theorem bp77 : (aPlaces Try.prog 77).isSome = true := by kernel_rfl
theorem fo68_0 : fo Try.prog 68 0 = some (0, 1) := by kernel_rfl
theorem fo68_1 : fo Try.prog 68 1 = some (1, 1) := by kernel_rfl
theorem fo68_2 : fo Try.prog 68 2 = some (2, 1) := by kernel_rfl
theorem fo77_0 : fo Try.prog 77 0 = some (0, 1) := by kernel_rfl
theorem fo77_1 : fo Try.prog 77 1 = some (1, 1) := by kernel_rfl
theorem kt9 : KeyT Try.prog 9 Value.string := keyT_str (by kernel_rfl)
theorem slt66 : SlT Try.prog 66 77 2 16 := ⟨by kernel_rfl, by kernel_rfl, by kernel_rfl, by kernel_rfl, by decide⟩
theorem sz62 : sizeT Try.prog 62 = some 1 := by kernel_rfl
theorem sz65 : sizeT Try.prog 65 = some 1 := by kernel_rfl
theorem sz66 : sizeT Try.prog 66 = some 1 := by kernel_rfl
theorem sz75 : sizeT Try.prog 75 = some 1 := by kernel_rfl
theorem sz77 : sizeT Try.prog 77 = some 2 := by kernel_rfl
theorem und58 : Try.prog.underlying 58 = some (.map 9 62) := by kernel_rfl
theorem und66 : Try.prog.underlying 66 = some (.slice 77) := by kernel_rfl
theorem z62 : zeroT Try.prog 62 = some (.pointer none) := by kernel_rfl
theorem zc77 : zeroCellsT Try.prog 77 = some [.raw (.int .i64 0), .raw .nilFunc] := by kernel_rfl
def tk40 : Nat → Nat → Option Nat
  | 1, 4 => some 0
  | _, _ => none
def pl40 : Nat → List PStep
  | 1 => [.q 0, .q 1, .q 2, .q 3, .q 5, .q 6, .s 4 [6, 5, 2, 1, 0], .q 7, .q 8, .q 9, .s 10 [8]]
  | 2 => [.q 0, .q 1, .q 2, .q 3, .q 4, .q 5, .q 6, .q 8, .q 9, .s 7 [9, 8, 5, 4, 3, 2, 1, 0], .s 10 [8, 6, 5, 4, 3, 1, 0], .q 11, .q 12, .s 13 [11]]
  | _ => []
theorem cb40 : Try.f40.body.map (codeB Try.prog Try.f40.ntmps tk40 pl40) = some true := by kernel_rfl
theorem goes40 : goesB Try.prog 40 = true := by kernel_rfl

structure Ac where
  a : A
  p : Nat
def fnV (g : Nat) (caps : List Nat) : Value := .func (.func g) #[] (caps.map ptrV).toArray
def encAc (c : Ac) : AVal := .agg [int c.a.units, .raw (fnV c.a.fn [c.p])]
structure Fl where
  lasts : List UInt8
  now : List UInt8
  acts : List A
/-- From what lasts the acts lead to what is now. -/
def okA : List UInt8 → List A → List UInt8 → Prop
  | l, [], now => l = now ∧ l.length ≤ BIG
  | l, a :: r, now => l.length ≤ BIG ∧ a.ok l ∧ okA (a.run l a.units) r now
theorem okA_len : ∀ {l : List UInt8} {la : List A} {now : List UInt8}, okA l la now → l.length ≤ BIG ∧ now.length ≤ BIG
  | l, [], now, h => ⟨h.2, by rw [← h.1]; exact h.2⟩
  | l, a :: r, now, h => ⟨h.1, (okA_len h.2.2).2⟩
theorem okA_add : ∀ {l : List UInt8} {la : List A} {now : List UInt8} {a : A}, okA l la now → a.ok now → (a.run now a.units).length ≤ BIG → okA l (la ++ [a]) (a.run now a.units)
  | l, [], now, a, h, h1, h2 => by obtain ⟨rfl, h3⟩ := h; exact ⟨h3, h1, rfl, h2⟩
  | l, b :: r, now, a, h, h1, h2 => ⟨h.1, h.2.1, okA_add h.2.2 h1 h2⟩
def Bp (O : Nat → Prop) (M : Mem) (v : Value) (l : List UInt8) : Prop := (∃ base, v = .slice base 0 0 ∧ okB base ∧ l = []) ∨ ∃ b, ∃ cs : List UInt8, v = .slice (some ⟨b, 0, none⟩) l.length cs.length ∧ M b = some (.cells (cs.map u8)) ∧ cs.take l.length = l ∧ ¬ O b
section
variable {M M' M2 : Mem} {O O' : Nat → Prop} {v : Value} {l : List UInt8} {f : Nat}
theorem Bp.bs (h : Bp O M v l) : Bs M v l := by
  rcases h with h | ⟨b, cs, h1, h2, h3, -⟩
  · exact .inl h
  · exact .inr ⟨b, cs, h1, h2, h3⟩
theorem Bp.keep (h : Bp O M v l) (hM : ∀ c, M c ≠ none → ¬ O c → M' c = M c) (hO : ∀ c, O' c → O c ∨ M c = none) : Bp O' M' v l := by
  rcases h with h | ⟨b, cs, h1, h2, h3, h4⟩
  · exact .inl h
  · have hb : M b ≠ none := by rw [h2]; exact fun h => by cases h
    exact .inr ⟨b, cs, h1, by rw [hM b hb h4]; exact h2, h3, fun h => (hO b h).elim h4 hb⟩
theorem Bp.of (h : Bs M v l) (hfr : Own1 M2 M v) (hO : ∀ c, O c → M2 c ≠ none) : Bp O M v l := by
  rcases h with h | ⟨b, cs, h1, h2, h3⟩
  · exact .inl h
  · by_cases h0 : cs.length = 0
    · have hl : l = [] := by rw [← h3, List.eq_nil_of_length_eq_zero h0]; simp
      subst hl
      rw [h0] at h1
      exact .inl ⟨_, h1, okB.any _, rfl⟩
    · exact .inr ⟨b, cs, h1, h2, h3, fun ho => hO b ho (hfr b ⟨_, _, h1, by rw [h2]; exact fun h => (by cases h), h0⟩)⟩
end
/-- A file in memory. -/
structure FileIs (M : Mem) (O : Nat → Prop) (f : Nat) (F : Fl) (vl vn : Value) (acs : List Ac) : Prop where
  hf : M f = some (.cells [.raw vl, .raw vn, .sl (acs.map encAc) true])
  bl : Bp O M vl F.lasts
  bn : Bp O M vn F.now
  ea : acs.map (·.a) = F.acts
  bx : ∀ c ∈ acs, M c.p = some (.cells [c.a.box]) ∧ ¬ O c.p
  ok : okA F.lasts F.acts F.now
def FileAt (M : Mem) (O : Nat → Prop) (f : Nat) (F : Fl) : Prop := ∃ vl vn acs, FileIs M O f F vl vn acs
section
variable {M M' : Mem} {O O' : Nat → Prop} {f : Nat} {F : Fl} {vl vn : Value} {acs : List Ac}
theorem FileIs.keep (h : FileIs M O f F vl vn acs) (hM : ∀ c, M c ≠ none → ¬ O c → M' c = M c) (hO : ∀ c, O' c → O c ∨ M c = none) (hf : M' f = M f) : FileIs M' O' f F vl vn acs :=
  ⟨by rw [hf]; exact h.hf, h.bl.keep hM hO, h.bn.keep hM hO, h.ea, fun c hc => by
    obtain ⟨h1, h2⟩ := h.bx c hc
    have hb : M c.p ≠ none := by rw [h1]; exact fun h => by cases h
    exact ⟨by rw [hM c.p hb h2]; exact h1, fun h3 => (hO c.p h3).elim h2 hb⟩, h.ok⟩
theorem FileAt.keep (h : FileAt M O f F) (hM : ∀ c, M c ≠ none → ¬ O c → M' c = M c) (hO : ∀ c, O' c → O c ∨ M c = none) (hf : M' f = M f) : FileAt M' O' f F := by
  obtain ⟨vl, vn, acs, h⟩ := h
  exact ⟨vl, vn, acs, h.keep hM hO hf⟩
theorem FileAt.some (h : FileAt M O f F) : M f ≠ none := by
  obtain ⟨vl, vn, acs, h⟩ := h
  rw [h.hf]; exact fun h => by cases h
end
theorem FileAt.ok {M : Mem} {O : Nat → Prop} {f : Nat} {F : Fl} (h : FileAt M O f F) : okA F.lasts F.acts F.now := by
  obtain ⟨vl, vn, acs, h⟩ := h
  exact h.ok
theorem elsAc {l : List Ac} : Els 2 (l.map encAc) := Els.map fun _ => ⟨rfl, rfl⟩
def Fl.did (F : Fl) (a : A) : Fl := ⟨F.lasts, a.run F.now a.units, F.acts ++ [a]⟩

theorem act_run (M0 M : Mem) (v : Value) (l : List UInt8) (hB : Bs M v l) (hle : M0.le M) (hfr : Own1 M0 M v) (a : A) (p k : Nat) (hp : M p = some (.cells [a.box])) (ha : a.ok l) (hk : k ≤ a.units) (hl : (a.run l k).length ≤ BIG) :
    SoundCall Try.prog a.fn [.raw v, int (k : Int), ptr p] M fun r' M' => ∃ v', r' = .raw v' ∧ Bs M' v' (a.run l k) ∧ M0.le M' ∧ Own1 M0 M' v' := by
  cases a with
  | app s => exact snd41 M0 M v l hB hle hfr p s k hp hk (by simp only [A.run, List.length_append, List.length_take, Array.length_toList] at hl; have : s.data.size = s.size := rfl; have : k ≤ s.size := hk; omega)
  | cut n => exact snd65 M0 M v l hB hle hfr p n k hp ha
theorem act_goes (a : A) : goesB Try.prog a.fn = true := by cases a <;> first | exact goes41 | exact goes65
theorem memF {M : Mem} {O : Nat → Prop} {f b : Nat} {x y : AObj} (hf : O f) (hb : M b = none) : ∀ c, M c ≠ none → ¬ O c → ((M.upd b x).upd f y) c = M c := fun c h1 h2 => (upd_other fun e => h2 (by rw [e]; exact hf)).trans (upd_other fun e => h1 (by rw [e]; exact hb))
theorem memF2 {M : Mem} {O : Nat → Prop} {f b : Nat} {x y z : AObj} (hf : O f) (hb : M b = none) : ∀ c, M c ≠ none → ¬ O c → (((M.upd b x).upd f y).upd f z) c = M c := fun c h1 h2 => (upd_other fun e => h2 (by rw [e]; exact hf)).trans (memF hf hb c h1 h2)

theorem did_end {M Mb M4 M5 : Mem} {O : Nat → Prop} {f p : Nat} {F : Fl} {vl vn v4 : Value} {acs : List Ac} {a : A} (hF : FileIs M O f F vl vn acs) (hOf : O f) (hOk : ∀ c, O c → M c ≠ none) (hp : M p = some (.cells [a.box])) (hpO : ¬ O p) (ha : a.ok F.now) (hl : (a.run F.now a.units).length ≤ BIG)
    (hb : ∀ c, M c ≠ none → c ≠ f → Mb c = M c) (hbf : Mb f ≠ none) (hle : Mb.le M4) (hB4 : Bs M4 v4 (a.run F.now a.units)) (hfr : Own1 Mb M4 v4) (h5 : M4.upd f (.cells [.raw vl, .raw v4, .sl (acs.map encAc ++ [encAc ⟨a, p⟩]) true]) = M5) :
    (∀ c, M c ≠ none → c ≠ f → M5 c = M c) ∧ FileAt M5 O f (F.did a) := by
  subst h5
  have hle' : ∀ c, Mb c ≠ none → M4 c = Mb c := fun c h1 => by
    cases hc : Mb c with
    | none => exact absurd hc h1
    | some o => exact hle c o hc
  have hk5 : ∀ c, M c ≠ none → c ≠ f → (M4.upd f (.cells [.raw vl, .raw v4, .sl (acs.map encAc ++ [encAc ⟨a, p⟩]) true])) c = M c := fun c h1 h2 => (upd_other h2).trans ((hle' c (by rw [hb c h1 h2]; exact h1)).trans (hb c h1 h2))
  have hko : ∀ c, M c ≠ none → ¬ O c → (M4.upd f (.cells [.raw vl, .raw v4, .sl (acs.map encAc ++ [encAc ⟨a, p⟩]) true])) c = M c := fun c h1 h2 => hk5 c h1 fun e => h2 (by rw [e]; exact hOf)
  have hpn : M p ≠ none := by rw [hp]; exact fun h => by cases h
  refine ⟨hk5, vl, v4, acs ++ [⟨a, p⟩], (Mem.upd_self _ _ _).trans (by rw [List.map_append]; rfl), hF.bl.keep hko fun c h => .inl h, (Bp.of (O := O) hB4 hfr fun c hc => ?_).keep (fun c h1 h2 => upd_other fun e => h2 (by rw [e]; exact hOf)) fun c h => .inl h, by rw [List.map_append, hF.ea]; rfl, fun c hc => ?_, okA_add hF.ok ha hl⟩
  · by_cases e : c = f
    · rw [e]; exact hbf
    · rw [hb c (hOk c hc) e]; exact hOk c hc
  · rcases List.mem_append.1 hc with h | h
    · obtain ⟨h1, h2⟩ := hF.bx c h
      exact ⟨by rw [hko c.p (by rw [h1]; exact fun h => by cases h) h2]; exact h1, h2⟩
    · obtain rfl := List.mem_singleton.1 h
      exact ⟨by rw [hko p hpn hpO]; exact hp, hpO⟩
set_option maxHeartbeats 4000000 in
set_option maxRecDepth 20000 in
theorem snd40 (M : Mem) (O : Nat → Prop) (f : Nat) (F : Fl) (hF : FileAt M O f F) (hOf : O f) (hOk : ∀ c, O c → M c ≠ none) (a : A) (p : Nat) (hp : M p = some (.cells [a.box])) (hpO : ¬ O p) (ha : a.ok F.now) (hl : (a.run F.now a.units).length ≤ BIG) (hn : F.acts.length ≤ BIG) : SoundCall Try.prog 40 [ptr f, encAc ⟨a, p⟩] M fun _ M' => (∀ c, M c ≠ none → c ≠ f → M' c = M c) ∧ FileAt M' O f (F.did a) := by
  obtain ⟨vl, vn, acs, ⟨hf, bl, bn, has, hbx, hok⟩⟩ := id hF
  have hne : M f ≠ none := hF.some
  have hbig : BIG = 2 ^ 40 := rfl
  have hna : acs.length = F.acts.length := by rw [← has, List.length_map]
  have hpn : M p ≠ none := by rw [hp]; exact fun h => by cases h
  have hpf : p ≠ f := fun e => hpO (e ▸ hOf)
  refine SoundCall.go tk40 pl40 mixed Try.func40 cb40 rfl (Nat.le_of_ble_eq_true rfl) ?_
  refine s_seq ?_
  refine s_region ?_
  refine o_box (by first | exact e_raw rfl | exact e_agg rfl | exact e_sl rfl) rfl rfl (fun B1 hB1 => ?_)
  have hfB : f ≠ B1 := fun e => hne (e ▸ hB1)
  have hpB : p ≠ B1 := fun e => hpn (e ▸ hB1)
  have hBf := hfB.symm
  refine o_nil ?_
  refine s_seq ?_
  refine s_draw rfl ?_
  refine d_q rfl (q_mv ((by first | exact v_raw rfl | exact v_sptr rfl))) rfl rfl rfl ?_
  refine d_q rfl (q_mv ((by first | exact v_raw rfl | exact v_sptr rfl))) rfl rfl rfl ?_
  refine d_q rfl (q_nil rfl) rfl rfl rfl ?_
  refine d_q rfl (q_fr fo68_2 rfl) rfl rfl rfl ?_
  refine d_q rfl (q_ldmw ag77 sz77 rfl (by repeat first | exact Mem.upd_self _ _ _ | assumption | refine Mem.upd_ne (by assumption) ?_) rfl rfl) rfl rfl rfl ?_
  refine d_q rfl (q_bs slt66 (pc (v_agg rfl) pn) rfl (Els.cons rfl rfl Els.nil) (by decide)) rfl rfl rfl ?_
  refine d_s rfl ?_
  refine o_take rfl rfl (by repeat first | exact Mem.upd_self _ _ _ | assumption | refine Mem.upd_ne (by assumption) ?_) rfl ag66 sz66 ?_
  refine o_nil ⟨(by simp [Mem.upd, *]), ?_⟩
  refine d_qs rfl (q_app slt66 rfl rfl rfl rfl elsAc (by first | exact elsAc | exact Els.cons rfl rfl Els.nil) (by simp; omega)) rfl rfl rfl rfl ?_
  refine d_q rfl (q_nil rfl) rfl rfl rfl ?_
  refine d_q rfl (q_fr fo68_2 rfl) rfl rfl rfl ?_
  refine d_s rfl ?_
  refine o_store_own rfl (by repeat first | exact Mem.upd_self _ _ _ | assumption | refine Mem.upd_ne (by assumption) ?_) rfl sz66 (Nat.le_of_ble_eq_true rfl) ?_
  refine o_nil ⟨(by simp [Mem.upd, *]), ?_⟩
  refine d_nil ?_
  refine s_draw rfl ?_
  refine d_q rfl (q_mv ((by first | exact v_raw rfl | exact v_sptr rfl))) rfl rfl rfl ?_
  refine d_q rfl (q_fr fo77_1 rfl) rfl rfl rfl ?_
  refine d_q rfl (q_ldm ag75 sz75 rfl (by repeat first | exact Mem.upd_self _ _ _ | assumption | refine Mem.upd_ne (by assumption) ?_) rfl (v_raw rfl)) rfl rfl rfl ?_
  refine d_q rfl (q_mv ((by first | exact v_raw rfl | exact v_sptr rfl))) rfl rfl rfl ?_
  refine d_q rfl (q_nil rfl) rfl rfl rfl ?_
  refine d_q rfl (q_fr fo68_1 rfl) rfl rfl rfl ?_
  refine d_q rfl (q_ldm ag65 sz65 rfl (by repeat first | exact Mem.upd_self _ _ _ | assumption | refine Mem.upd_ne (by assumption) ?_) rfl ((by first | exact v_raw rfl | exact v_sl rfl))) rfl rfl rfl ?_
  refine d_q rfl (q_fr fo77_0 rfl) rfl rfl rfl ?_
  refine d_q rfl (q_ldm ag3 sz3 rfl (by repeat first | exact Mem.upd_self _ _ _ | assumption | refine Mem.upd_ne (by assumption) ?_) rfl (v_raw rfl)) rfl rfl rfl ?_
  refine d_s rfl ?_
  refine o_callx (clone68 _ vn F.now (bn.keep (O' := O) (memF2 hOf hB1) (fun c h => .inl h)).bs (okA_len hok).2) goes68 (ac (v_raw rfl) ac_nil) rfl ?_
  rintro r3 M3 ⟨v3, rfl, hB3, hle3, hfr3⟩
  have hMB : M3 B1 = some (AObj.cells (List.map AVal.shut (AVal.agg [int ↑a.units, AVal.raw (fnV a.fn [p])]).cells)) := hle3 B1 _ ((upd_other hBf).trans ((upd_other hBf).trans (Mem.upd_self _ _ _)))
  have hMf3 : M3 f = some (.cells [.raw vl, .raw vn, .sl (acs.map encAc ++ [encAc ⟨a, p⟩]) true]) := hle3 f _ (Mem.upd_self _ _ _)
  have hMp : M3 p = some (.cells [a.box]) := hle3 p _ (((upd_other hpf).trans (upd_other hpf)).trans ((upd_other hpB).trans hp))
  refine o_nil ⟨(by simp [Mem.upd, *]), ?_⟩
  refine d_s rfl ?_
  refine o_callv rfl (act_run _ M3 v3 F.now hB3 hle3 hfr3 a p a.units hMp ha (Nat.le_refl _) hl) (act_goes a) (ac (v_raw rfl) (ac (v_raw rfl) ac_nil)) rfl rfl ?_
  rintro r4 M4 ⟨v4, rfl, hB4, hle4, hfr4⟩
  obtain ⟨b4, c4, rfl⟩ := hB4.len
  have hMB4 : M4 B1 = some (AObj.cells (List.map AVal.shut (AVal.agg [int ↑a.units, AVal.raw (fnV a.fn [p])]).cells)) := hle4 B1 _ ((upd_other hBf).trans ((upd_other hBf).trans (Mem.upd_self _ _ _)))
  have hMf4 : M4 f = some (.cells [.raw vl, .raw vn, .sl (acs.map encAc ++ [encAc ⟨a, p⟩]) true]) := hle4 f _ (Mem.upd_self _ _ _)
  refine o_nil ⟨(by simp [Mem.upd, *]), ?_⟩
  refine d_q rfl (q_nil rfl) rfl rfl rfl ?_
  refine d_q rfl (q_fr fo68_1 rfl) rfl rfl rfl ?_
  refine d_s rfl ?_
  refine o_store rfl (by repeat first | exact Mem.upd_self _ _ _ | assumption | refine Mem.upd_ne (by assumption) ?_) (by first | exact e_raw rfl | exact e_agg rfl | exact e_sl rfl | rfl) rfl sz65 rfl (Nat.le_of_ble_eq_true rfl) rfl rfl ?_
  refine o_nil ⟨(by simp [Mem.upd, *]), ?_⟩
  refine d_nil ?_
  refine s_end ?_
  exact did_end ⟨hf, bl, bn, has, hbx, hok⟩ hOf hOk hp hpO ha hl (fun c h1 h2 => (upd_other h2).trans ((upd_other h2).trans (upd_other fun e => h1 (by rw [e]; exact hB1)))) (by rw [Mem.upd_self]; exact fun h => by cases h) hle4 hB4 hfr4 rfl

def tk36 : Nat → Nat → Option Nat := fun _ _ => none
def pl36 : Nat → List PStep := fun _ => []
theorem cb36 : Try.f36.body.map (codeB Try.prog Try.f36.ntmps tk36 pl36) = some true := by kernel_rfl
theorem goes36 : goesB Try.prog 36 = true := by kernel_rfl
set_option maxHeartbeats 4000000 in
set_option maxRecDepth 20000 in
theorem snd36 (M : Mem) (r : Nat) (dir : List (ByteArray × Nat)) (hM : MapAt ptrV M r dir) (bf bs f : Nat) (s : ByteArray) (hbf : M bf = some (.cells [ptr f])) (hbs : M bs = some (.cells [str s])) : SoundCall Try.prog 36 [.raw (.map (some r)), ptr bf, ptr bs] M fun _ M' => MapAt ptrV M' r (ins dir s f) ∧ ∀ c, c ≠ r → M' c = M c := by
  refine SoundCall.go tk36 pl36 mixed Try.func36 cb36 rfl (Nat.le_of_ble_eq_true rfl) ?_
  refine s_region ?_
  refine o_q (q_mv (v_raw rfl)) rfl rfl rfl ?_
  refine o_q (q_ldm ag9 sz9 rfl (by repeat first | exact Mem.upd_self _ _ _ | assumption | refine Mem.upd_ne (by assumption) ?_) rfl (v_raw rfl)) rfl rfl rfl ?_
  refine o_q (q_ldm ag62 sz62 rfl (by repeat first | exact Mem.upd_self _ _ _ | assumption | refine Mem.upd_ne (by assumption) ?_) rfl ((by first | exact v_raw rfl | exact v_sptr rfl))) rfl rfl rfl ?_
  refine m_put (k := s) (v := f) und58 kt9 rfl rfl rfl hM (fun o1 hM1 => ?_)
  refine o_nil ?_
  refine s_end ?_
  exact ⟨hM1, fun c h => upd_other h⟩

def tk66 : Nat → Nat → Option Nat := fun _ _ => none
def pl66 : Nat → List PStep := fun _ => []
theorem cb66 : Try.f66.body.map (codeB Try.prog Try.f66.ntmps tk66 pl66) = some true := by kernel_rfl
set_option maxHeartbeats 4000000 in
set_option maxRecDepth 20000 in
theorem snd66 (M : Mem) (r : Nat) (dir : List (ByteArray × Nat)) (hM : MapAt ptrV M r dir) (ba : Nat) (a : ByteArray) (hba : M ba = some (.cells [str a])) : SoundCall Try.prog 66 [.raw (.map (some r)), ptr ba] M fun _ M' => MapAt ptrV M' r (del dir a) ∧ ∀ c, c ≠ r → M' c = M c := by
  refine SoundCall.go tk66 pl66 mixed Try.func66 cb66 rfl (Nat.le_of_ble_eq_true rfl) ?_
  refine s_region ?_
  refine o_q (q_mv (v_raw rfl)) rfl rfl rfl ?_
  refine o_q (q_ldm ag9 sz9 rfl (by repeat first | exact Mem.upd_self _ _ _ | assumption | refine Mem.upd_ne (by assumption) ?_) rfl (v_raw rfl)) rfl rfl rfl ?_
  refine m_del (k := a) rfl und58 kt9 rfl rfl hM (fun o1 hM1 => ?_)
  refine o_nil ?_
  refine s_end ?_
  exact ⟨hM1, fun c h => upd_other h⟩

def tk48 : Nat → Nat → Option Nat := fun _ _ => none
def pl48 : Nat → List PStep := fun _ => []
theorem cb48 : Try.f48.body.map (codeB Try.prog Try.f48.ntmps tk48 pl48) = some true := by kernel_rfl
set_option maxHeartbeats 4000000 in
set_option maxRecDepth 20000 in
theorem snd48 (M : Mem) (r : Nat) (dir : List (ByteArray × Nat)) (hM : MapAt ptrV M r dir) (ba bb f : Nat) (a b : ByteArray) (hba : M ba = some (.cells [str a])) (hbb : M bb = some (.cells [str b])) (hg : gets dir a = some f) : SoundCall Try.prog 48 [.raw (.map (some r)), ptr ba, ptr bb] M fun _ M' => MapAt ptrV M' r (ins (del dir a) b f) ∧ ∀ c, c ≠ r → M' c = M c := by
  have hbr : bb ≠ r := fun e => by
    obtain ⟨clk, lf, h⟩ := hM
    rw [e, h.hM] at hbb
    cases hbb
  refine SoundCall.go tk48 pl48 mixed Try.func48 cb48 rfl (Nat.le_of_ble_eq_true rfl) ?_
  refine s_seq ?_
  refine s_region ?_
  refine o_q (q_mv (v_raw rfl)) rfl rfl rfl ?_
  refine o_q (q_ldm ag9 sz9 rfl (by repeat first | exact Mem.upd_self _ _ _ | assumption | refine Mem.upd_ne (by assumption) ?_) rfl (v_raw rfl)) rfl rfl rfl ?_
  refine m_get (k := a) und58 kt9 z62 rfl rfl hM ?_
  rw [hg]
  refine o_q (q_as ((by first | exact v_raw rfl | exact v_sptr rfl))) rfl rfl rfl ?_
  refine o_nil ?_
  refine s_seq ?_
  refine s_region ?_
  refine o_q (q_mv (v_raw rfl)) rfl rfl rfl ?_
  refine o_q (q_ldm ag9 sz9 rfl (by repeat first | exact Mem.upd_self _ _ _ | assumption | refine Mem.upd_ne (by assumption) ?_) rfl (v_raw rfl)) rfl rfl rfl ?_
  refine m_del (k := a) rfl und58 kt9 rfl rfl hM (fun o1 hM1 => ?_)
  refine o_nil ?_
  refine s_region ?_
  refine o_q (q_mv (v_raw rfl)) rfl rfl rfl ?_
  refine o_q (q_ldm ag9 sz9 rfl (by repeat first | exact Mem.upd_self _ _ _ | assumption | refine Mem.upd_ne (by assumption) ?_) rfl (v_raw rfl)) rfl rfl rfl ?_
  refine o_q (q_mv ((by first | exact v_raw rfl | exact v_sptr rfl))) rfl rfl rfl ?_
  refine m_put (k := b) (v := f) und58 kt9 rfl rfl rfl hM1 (fun o2 hM2 => ?_)
  refine o_nil ?_
  refine s_end ?_
  exact ⟨hM2, fun c h => (upd_other h).trans (upd_other h)⟩

def tk42 : Nat → Nat → Option Nat := fun _ _ => none
def pl42 : Nat → List PStep := fun _ => []
theorem cb42 : Try.f42.body.map (codeB Try.prog Try.f42.ntmps tk42 pl42) = some true := by kernel_rfl
theorem goes42 : goesB Try.prog 42 = true := by kernel_rfl

theorem fset {M M' : Mem} {O : Nat → Prop} {f : Nat} {v : Value} {l : List UInt8} (hk : ∀ c, M c ≠ none → c ≠ f → M' c = M c) (hOf : O f) (h5 : M' f = some (.cells [.raw v, .raw v, .sl [] true])) (bn : Bp O M v l) (hl : l.length ≤ BIG) : (∀ c, M c ≠ none → c ≠ f → M' c = M c) ∧ FileAt M' O f ⟨l, l, []⟩ :=
  have hk' : ∀ c, M c ≠ none → ¬ O c → M' c = M c := fun c h1 h2 => hk c h1 fun e => h2 (by rw [e]; exact hOf)
  ⟨hk, v, v, [], h5, bn.keep hk' fun c h => .inl h, bn.keep hk' fun c h => .inl h, rfl, fun c h => (by cases h), rfl, hl⟩
set_option maxHeartbeats 4000000 in
set_option maxRecDepth 20000 in
theorem snd42 (M : Mem) (O : Nat → Prop) (f : Nat) (hOf : O f) (vl vn : Value) (acs : List AVal) (l : List UInt8) (hf : M f = some (.cells [.raw vl, .raw vn, .sl acs true])) (bn : Bp O M vn l) (hl : l.length ≤ BIG) : SoundCall Try.prog 42 [ptr f] M fun _ M' => (∀ c, M c ≠ none → c ≠ f → M' c = M c) ∧ FileAt M' O f ⟨l, l, []⟩ := by
  obtain ⟨b0, c0, hvn⟩ := bn.bs.len
  subst hvn
  refine SoundCall.go tk42 pl42 mixed Try.func42 cb42 rfl (Nat.le_of_ble_eq_true rfl) ?_
  refine s_region ?_
  refine o_q (q_mv ((by first | exact v_raw rfl | exact v_sptr rfl))) rfl rfl rfl ?_
  refine o_q (q_mv ((by first | exact v_raw rfl | exact v_sptr rfl))) rfl rfl rfl ?_
  refine o_q (q_mv ((by first | exact v_raw rfl | exact v_sptr rfl))) rfl rfl rfl ?_
  refine o_q (q_nil rfl) rfl rfl rfl ?_
  refine o_q (q_fr fo68_1 rfl) rfl rfl rfl ?_
  refine o_q (q_ldm ag65 sz65 rfl (by repeat first | exact Mem.upd_self _ _ _ | assumption | refine Mem.upd_ne (by assumption) ?_) rfl ((by first | exact v_raw rfl | exact v_sl rfl))) rfl rfl rfl ?_
  refine o_q (q_nil rfl) rfl rfl rfl ?_
  refine o_q (q_fr fo68_0 rfl) rfl rfl rfl ?_
  refine o_store rfl (by repeat first | exact Mem.upd_self _ _ _ | assumption | refine Mem.upd_ne (by assumption) ?_) (by first | exact e_raw rfl | exact e_agg rfl | exact e_sl rfl | rfl) rfl sz65 rfl (Nat.le_of_ble_eq_true rfl) rfl rfl ?_
  refine o_q (q_nil rfl) rfl rfl rfl ?_
  refine o_q (q_fr fo68_2 rfl) rfl rfl rfl ?_
  refine o_store_nil rfl (Mem.upd_self _ _ _) sz66 (Nat.le_of_ble_eq_true rfl) ?_
  refine o_nil ?_
  refine s_end ?_
  exact fset (fun c h1 h2 => (upd_other h2).trans (upd_other h2)) hOf (Mem.upd_self _ _ _) bn hl

def tk39 : Nat → Nat → Option Nat := fun _ _ => none
def pl39 : Nat → List PStep := fun _ => []
theorem cb39 : Try.f39.body.map (codeB Try.prog Try.f39.ntmps tk39 pl39) = some true := by kernel_rfl
theorem goes39 : goesB Try.prog 39 = true := by kernel_rfl
set_option maxHeartbeats 4000000 in
set_option maxRecDepth 20000 in
theorem snd39 (M : Mem) (O : Nat → Prop) (f : Nat) (F : Fl) (hF : FileAt M O f F) (hOf : O f) (hOk : ∀ c, O c → M c ≠ none) (hn : F.acts.length ≤ BIG) (qf : Nat) (hbf : M qf = some (.cells [ptr f])) (bs : Nat) (s : ByteArray) (hbs : M bs = some (.cells [str s])) (hbsO : ¬ O bs) (hl : F.now.length + s.size ≤ BIG) : SoundCall Try.prog 39 [ptr qf, ptr bs] M fun _ M' => (∀ c, M c ≠ none → c ≠ f → M' c = M c) ∧ FileAt M' O f (F.did (.app s)) := by
  refine SoundCall.go tk39 pl39 mixed Try.func39 cb39 rfl (Nat.le_of_ble_eq_true rfl) ?_
  refine s_region ?_
  refine o_q (q_ldm ag62 sz62 rfl (by repeat first | exact Mem.upd_self _ _ _ | assumption | refine Mem.upd_ne (by assumption) ?_) rfl ((by first | exact v_raw rfl | exact v_sptr rfl))) rfl rfl rfl ?_
  refine o_q (q_ldm ag9 sz9 rfl (by repeat first | exact Mem.upd_self _ _ _ | assumption | refine Mem.upd_ne (by assumption) ?_) rfl (v_raw rfl)) rfl rfl rfl ?_
  refine o_q (q_lens rfl und9 rfl) rfl rfl rfl ?_
  refine o_q (q_mkf1 rfl) rfl rfl rfl ?_
  refine o_q (q_b (cs := [_, _]) bz77 bp77 (bf fo77_0 (e_raw rfl) rfl rfl (Nat.le_of_ble_eq_true rfl) rfl (bf fo77_1 (e_raw rfl) rfl rfl (Nat.le_of_ble_eq_true rfl) rfl bf_nil))) rfl rfl rfl ?_
  refine o_callx ((snd40 M O f F hF hOf hOk (.app s) bs hbs hbsO trivial (by have : s.data.size = s.size := rfl; simp only [A.run, A.units, List.length_append, List.length_take, Array.length_toList]; omega) hn)) goes40 (ac ((by first | exact v_raw rfl | exact v_sptr rfl)) (ac (v_agg rfl) ac_nil)) rfl ?_
  rintro r' M' h4
  refine o_nil ?_
  refine s_end ?_
  exact h4

def tk64 : Nat → Nat → Option Nat := fun _ _ => none
def pl64 : Nat → List PStep := fun _ => []
theorem cb64 : Try.f64.body.map (codeB Try.prog Try.f64.ntmps tk64 pl64) = some true := by kernel_rfl
theorem goes64 : goesB Try.prog 64 = true := by kernel_rfl
set_option maxHeartbeats 4000000 in
set_option maxRecDepth 20000 in
theorem snd64 (M : Mem) (O : Nat → Prop) (f : Nat) (F : Fl) (hF : FileAt M O f F) (hOf : O f) (hOk : ∀ c, O c → M c ≠ none) (hn : F.acts.length ≤ BIG) (qf : Nat) (hbf : M qf = some (.cells [ptr f])) (bs n : Nat) (hbs : M bs = some (.cells [.raw (.int .i64 n)])) (hbsO : ¬ O bs) (hl : n ≤ F.now.length) : SoundCall Try.prog 64 [ptr qf, ptr bs] M fun _ M' => (∀ c, M c ≠ none → c ≠ f → M' c = M c) ∧ FileAt M' O f (F.did (.cut n)) := by
  refine SoundCall.go tk64 pl64 mixed Try.func64 cb64 rfl (Nat.le_of_ble_eq_true rfl) ?_
  refine s_region ?_
  refine o_q (q_ldm ag62 sz62 rfl (by repeat first | exact Mem.upd_self _ _ _ | assumption | refine Mem.upd_ne (by assumption) ?_) rfl ((by first | exact v_raw rfl | exact v_sptr rfl))) rfl rfl rfl ?_
  refine o_q (q_mkf1 rfl) rfl rfl rfl ?_
  refine o_q (q_b (cs := [_, _]) bz77 bp77 (bf fo77_0 (e_raw rfl) rfl rfl (Nat.le_of_ble_eq_true rfl) rfl (bf fo77_1 (e_raw rfl) rfl rfl (Nat.le_of_ble_eq_true rfl) rfl bf_nil))) rfl rfl rfl ?_
  refine o_callx ((snd40 M O f F hF hOf hOk (.cut n) bs hbs hbsO hl (by have := (okA_len hF.ok).2; simp only [A.run, List.length_take]; omega) hn)) goes40 (ac ((by first | exact v_raw rfl | exact v_sptr rfl)) (ac (v_agg rfl) ac_nil)) rfl ?_
  rintro r' M' h4
  refine o_nil ?_
  refine s_end ?_
  exact h4

def tk47 : Nat → Nat → Option Nat := fun _ _ => none
def pl47 : Nat → List PStep := fun _ => []
theorem cb47 : Try.f47.body.map (codeB Try.prog Try.f47.ntmps tk47 pl47) = some true := by kernel_rfl
theorem goes47 : goesB Try.prog 47 = true := by kernel_rfl

/-- What a crash leaves. -/
def keepR : List UInt8 → List A → Int → List UInt8
  | l, [], _ => l
  | l, a :: r, n => if n ≤ 0 then l else if n < a.units then a.run l n.toNat else keepR (a.run l a.units) r (n - a.units)
theorem keepR_zero {l : List UInt8} {la : List A} {n : Int} (h : n ≤ 0) : keepR l la n = l := by
  cases la with
  | nil => rfl
  | cons a r => simp [keepR, h]
theorem run_len {l : List UInt8} {a : A} {k : Nat} (h : k ≤ a.units) (h1 : l.length ≤ BIG) (h2 : (a.run l a.units).length ≤ BIG) : (a.run l k).length ≤ BIG := by
  cases a with
  | app s =>
    simp only [A.run, A.units, List.length_append, List.length_take, Array.length_toList] at h h2 ⊢
    have : s.data.size = s.size := rfl
    omega
  | cut n => simp only [A.run, List.length_take]; omega
theorem keepR_len : ∀ {l : List UInt8} {la : List A} {now : List UInt8} (n : Int), okA l la now → (keepR l la n).length ≤ BIG
  | l, [], now, n, h => h.2
  | l, a :: r, now, n, h => by
    unfold keepR
    split
    · exact h.1
    · split
      · exact run_len (by omega) h.1 (okA_len h.2.2).1
      · exact keepR_len _ h.2.2

structure KpI (M Mc : Mem) (v : Value) (lb : List UInt8) (F : Fl) (n n' : Int) (i : Nat) : Prop where
  le : M.le Mc
  bs : Bs Mc v lb
  own : Own1 M Mc v
  st : n' ≤ 0 ∧ lb = keepR F.lasts F.acts n ∨ okA lb (F.acts.drop i) F.now ∧ keepR lb (F.acts.drop i) n' = keepR F.lasts F.acts n
  bd : -2 ^ 63 ≤ n' ∧ n' < 2 ^ 63
theorem KpI.final {M Mc : Mem} {v : Value} {lb : List UInt8} {F : Fl} {n n' : Int} {i : Nat} (h : KpI M Mc v lb F n n' i) (hc : n' ≤ 0 ∨ F.acts.length ≤ i) : lb = keepR F.lasts F.acts n := by
  rcases h.st with h1 | ⟨h1, h2⟩
  · exact h1.2
  · rw [← h2]
    rcases hc with hc | hc
    · rw [keepR_zero hc]
    · rw [List.drop_of_length_le hc]; rfl
theorem KpI.at {M Mc : Mem} {v : Value} {lb : List UInt8} {F : Fl} {n n' : Int} {i : Nat} (h : KpI M Mc v lb F n n' i) (hc : 0 < n') {a : A} (hi : i < F.acts.length) (ha : F.acts[i] = a) : okA lb (a :: F.acts.drop (i + 1)) F.now ∧ keepR lb (a :: F.acts.drop (i + 1)) n' = keepR F.lasts F.acts n := by
  subst ha
  rcases h.st with h1 | h1
  · omega
  · rw [List.drop_eq_getElem_cons hi] at h1; exact h1
theorem keepR_cons {l : List UInt8} {a : A} {r : List A} {n : Int} : keepR l (a :: r) n = if n ≤ 0 then l else if n < a.units then a.run l n.toNat else keepR (a.run l a.units) r (n - a.units) := rfl
theorem leK {M Mc : Mem} {c : Nat} (h : M.le Mc) (hc : M c ≠ none) : Mc c = M c := by
  cases h2 : M c with
  | none => exact absurd h2 hc
  | some o => exact h c o h2
theorem keep_end {M Mc M' : Mem} {O : Nat → Prop} {f : Nat} {o : AObj} {R l : List UInt8} (hle : M.le Mc) (h : (∀ c, (Mc.upd f o) c ≠ none → c ≠ f → M' c = (Mc.upd f o) c) ∧ FileAt M' O f ⟨l, l, []⟩) (e : l = R) : (∀ c, M c ≠ none → c ≠ f → M' c = M c) ∧ FileAt M' O f ⟨R, R, []⟩ := by
  subst e
  refine ⟨fun c h1 h2 => ?_, h.2⟩
  have e2 : (Mc.upd f o) c = M c := (upd_other h2).trans (leK hle h1)
  rw [h.1 c (by rw [e2]; exact h1) h2]; exact e2
theorem KpI.bp {M Mc Mb : Mem} {v : Value} {lb : List UInt8} {F : Fl} {n n' : Int} {i f : Nat} {O : Nat → Prop} {o : AObj} (h : KpI M Mc v lb F n n' i) (hO : ∀ c, O c → M c ≠ none) (hOf : O f) (hb : ∀ c, Mc c ≠ none → Mb c = Mc c) : Bp O (Mb.upd f o) v lb :=
  (Bp.of h.bs h.own hO).keep (fun c h1 h2 => (upd_other fun e => h2 (by rw [e]; exact hOf)).trans (hb c h1)) fun c h => .inl h
theorem KpI.len {M Mc : Mem} {v : Value} {lb : List UInt8} {F : Fl} {n n' : Int} {i : Nat} (h : KpI M Mc v lb F n n' i) (hok : okA F.lasts F.acts F.now) : lb.length ≤ BIG := by
  rcases h.st with h1 | h1
  · rw [h1.2]; exact keepR_len n hok
  · exact (okA_len h1.1).1
theorem acs_units {a : A} {l now : List UInt8} {r : List A} (h : okA l (a :: r) now) : (a.units : Int) ≤ 2 ^ 62 := by
  have h1 := (okA_len h.2.2).1
  have hbig : BIG = 2 ^ 40 := rfl
  cases a with
  | app s =>
    simp only [A.run, A.units, List.length_append, List.length_take, Array.length_toList] at h1 ⊢
    have : s.data.size = s.size := rfl
    omega
  | cut n => simp only [A.units]; omega
theorem own_up {M Mc M2 : Mem} {v : Value} {l : List UInt8} {B : Nat} {o : AObj} (h : Own1 M Mc v) (hB : Bs Mc v l) (hn : Mc B = none) : Own1 (M.upd B o) M2 v := fun b ⟨n, c, e1, e2, e3⟩ => by
  rcases hB with ⟨base, e, -, -⟩ | ⟨b', cs, e, hb, -⟩
  · rw [e1] at e; cases e; exact absurd rfl e3
  · rw [e1] at e; cases e
    have hne : Mc b ≠ none := by rw [hb]; exact fun h => by cases h
    rw [upd_other fun e => hne (by rw [e]; exact hn)]
    exact h b ⟨_, _, e1, hne, e3⟩
theorem own_down {M M4 : Mem} {v : Value} {B : Nat} {o : AObj} (h : Own1 (M.upd B o) M4 v) : Own1 M M4 v := fun b hb => by
  have h1 := h b hb
  by_cases e : b = B
  · rw [e, Mem.upd_self] at h1; cases h1
  · rw [upd_other e] at h1; exact h1
theorem le_down {M M4 : Mem} {B : Nat} {o : AObj} (hB : M B = none) (h : (M.upd B o).le M4) : M.le M4 := fun c o' hc => h c o' ((upd_other fun e => by rw [e, hB] at hc; cases hc).trans hc)
theorem le_both {M Mc : Mem} {B : Nat} {o o1 : AObj} (h : M.le Mc) : (M.upd B o).le ((Mc.upd B o1).upd B o) := fun c o' hc => by
  by_cases e : c = B
  · rw [e, Mem.upd_self] at hc ⊢; exact hc
  · rw [upd_other e] at hc
    rw [upd_other e, upd_other e]; exact h c o' hc
theorem KpI.next {M Mc M' : Mem} {v v' : Value} {lb : List UInt8} {F : Fl} {n n' : Int} {i k : Nat} (h : KpI M Mc v lb F n n' i) (hc : 0 < n') {a : A} (hi : i < F.acts.length) (ha : F.acts[i] = a) (hk : min n' (a.units : Int) = (k : Nat)) (hu : (a.units : Int) ≤ 2 ^ 62) (hB : Bs M' v' (a.run lb k)) (hle : M.le M') (ho : Own1 M M' v') : KpI M M' v' (a.run lb k) F n (n' - a.units) (i + 1) := by
  obtain ⟨h1, h2⟩ := h.at hc hi ha
  have hb := h.bd
  refine ⟨hle, hB, ho, ?_, by omega⟩
  rw [keepR_cons, if_neg (by omega)] at h2
  by_cases hlt : n' < a.units
  · rw [if_pos hlt] at h2
    rw [show k = n'.toNat by omega]
    exact .inl ⟨by omega, h2⟩
  · rw [if_neg hlt] at h2
    rw [show k = a.units by omega]
    exact .inr ⟨h1.2.2, h2⟩
set_option maxHeartbeats 4000000 in
set_option maxRecDepth 20000 in
theorem snd47 (M : Mem) (O : Nat → Prop) (f : Nat) (F : Fl) (hF : FileAt M O f F) (hOf : O f) (hOk : ∀ c, O c → M c ≠ none) (hn : F.acts.length ≤ BIG) (n : Int) (hi : -2 ^ 63 ≤ n ∧ n < 2 ^ 63) : SoundCall Try.prog 47 [ptr f, int n] M fun _ M' => (∀ c, M c ≠ none → c ≠ f → M' c = M c) ∧ FileAt M' O f ⟨keepR F.lasts F.acts n, keepR F.lasts F.acts n, []⟩ := by
  obtain ⟨vl, vn, acs, ⟨hf, bl, bn, has, hbx, hok⟩⟩ := id hF
  have hne : M f ≠ none := hF.some
  have hbig : BIG = 2 ^ 40 := rfl
  have hna : acs.length = F.acts.length := by rw [← has, List.length_map]
  refine SoundCall.go tk47 pl47 mixed Try.func47 cb47 rfl (Nat.le_of_ble_eq_true rfl) ?_
  refine s_seq ?_
  refine s_region ?_
  refine o_q (q_mv ((by first | exact v_raw rfl | exact v_sptr rfl))) rfl rfl rfl ?_
  refine o_q (q_nil rfl) rfl rfl rfl ?_
  refine o_q (q_fr fo68_0 rfl) rfl rfl rfl ?_
  refine o_q (q_ldm ag65 sz65 rfl (by repeat first | exact Mem.upd_self _ _ _ | assumption | refine Mem.upd_ne (by assumption) ?_) rfl ((by first | exact v_raw rfl | exact v_sl rfl))) rfl rfl rfl ?_
  refine o_callx ((clone68 M vl F.lasts bl.bs (okA_len hok).1)) goes68 (ac (v_raw rfl) ac_nil) rfl ?_
  rintro r3 M3 ⟨v3, rfl, hB3, hle3, hfr3⟩
  have hMf3 := hle3 f _ hf
  refine o_q (q_as (v_raw rfl)) rfl rfl rfl ?_
  refine o_nil ?_
  refine s_seq ?_
  refine s_seq ?_
  refine s_region ?_
  refine o_q (q_mv ((by first | exact v_raw rfl | exact v_sptr rfl))) rfl rfl rfl ?_
  refine o_q (q_nil rfl) rfl rfl rfl ?_
  refine o_q (q_fr fo68_2 rfl) rfl rfl rfl ?_
  refine o_q (q_ldm ag66 sz66 rfl (by repeat first | exact Mem.upd_self _ _ _ | assumption | refine Mem.upd_ne (by assumption) ?_) rfl (v_sl rfl)) rfl rfl rfl ?_
  refine o_q (q_len rfl und66 rfl) rfl rfl rfl ?_
  refine o_q (q_mv (v_raw rfl)) rfl rfl rfl ?_
  refine o_nil ?_
  refine s_block ?_
  refine s_loop (fun m S => ∃ T Mc v lb n1, ∃ i : Nat, S = ⟨setT (setT (setT (setT (setT (setT T 0 (ptr f)) 1 (int n1)) 4 (.raw v)) 15 (.sl (acs.map encAc) false)) 16 (int (acs.length : Nat))) 17 (int (i : Nat)), Mc⟩ ∧ KpI M Mc v lb F n n1 i ∧ i ≤ acs.length ∧ m = acs.length - i) acs.length ?_ ?_
  · exact ⟨_, _, v3, F.lasts, n, 0, St.mkT (kp (kp (kp (kp (kp (kp rfl rfl) rfl) rfl) rfl) (congrArg (fun z : Nat => int z) (by rw [List.length_map]))) rfl).symm, ⟨hle3, hB3, hfr3, .inr ⟨hok, rfl⟩, hi⟩, by omega, rfl⟩
  rintro m S ⟨T, Mc, v, lb, n1, i, rfl, hK, hil, rfl⟩
  have hbd := hK.bd
  have hfc := hK.le f _ hf
  obtain ⟨b0, c0, hvv⟩ := hK.bs.len
  subst hvv
  refine s_seq ?_
  refine s_region ?_
  refine o_q (q_lss rfl rfl) rfl rfl rfl ?_
  refine o_nil ?_
  refine s_seq ?_
  refine s_cond rfl (fun h1 => ?_) (fun h1 => ?_)
  · have k1 := h1; try simp only [decide_eq_true_eq, decide_eq_false_iff_not, Bool.not_eq_true', Bool.not_eq_false', Bool.not_true, Bool.not_false, List.length_map, Decidable.not_not] at k1
    refine s_skip ?_
    refine s_seq ?_
    refine s_block ?_
    refine s_seq ?_
    refine s_region ?_
    refine o_q (q_idx und66 sz77 rfl rfl (by omega) (gm i (by first | omega | simp)) rfl) rfl rfl rfl ?_
    refine o_q (q_lde ag77 sz77 rfl (gm i (by first | omega | simp)) rfl rfl) rfl rfl rfl ?_
    refine o_alloc zc77 (fun B1 hB1 => ?_)
    have hfB : f ≠ B1 := fun e => by rw [e, hB1] at hfc; cases hfc
    have hMB1 : M B1 = none := le_none hK.le hB1
    have hMM : ∀ c, Mc c ≠ none → ((Mc.upd B1 (AObj.cells [AVal.raw (Value.int IntKind.i64 0), AVal.raw Value.nilFunc])).upd B1 (AObj.cells (AVal.agg [int ↑acs[i].a.units, AVal.raw (fnV acs[i].a.fn [acs[i].p])]).cells)) c = Mc c := fun c h => (upd_other fun e => h (by rw [e]; exact hB1)).trans (upd_other fun e => h (by rw [e]; exact hB1))
    have hfc2 : ((Mc.upd B1 (AObj.cells [AVal.raw (Value.int IntKind.i64 0), AVal.raw Value.nilFunc])).upd B1 (AObj.cells (AVal.agg [int ↑acs[i].a.units, AVal.raw (fnV acs[i].a.fn [acs[i].p])]).cells)) f = _ := (hMM f (by rw [hfc]; exact fun h => by cases h)).trans hfc
    have hle2 : M.le ((Mc.upd B1 (AObj.cells [AVal.raw (Value.int IntKind.i64 0), AVal.raw Value.nilFunc])).upd B1 (AObj.cells (AVal.agg [int ↑acs[i].a.units, AVal.raw (fnV acs[i].a.fn [acs[i].p])]).cells)) := leU (leU hK.le hMB1) hMB1
    refine o_storew rfl (by repeat first | exact Mem.upd_self _ _ _ | assumption | refine Mem.upd_ne (by assumption) ?_) (by first | exact e_agg rfl | rfl) rfl sz77 rfl rfl rfl rfl ?_
    refine o_nil ?_
    refine s_seq ?_
    refine s_seq ?_
    refine s_region ?_
    refine o_q (q_mv (v_raw rfl)) rfl rfl rfl ?_
    refine o_q (q_leq rfl rfl) rfl rfl rfl ?_
    refine o_nil ?_
    refine s_cond rfl (fun h2 => ?_) (fun h2 => ?_)
    · have k2 := h2; try simp only [decide_eq_true_eq, decide_eq_false_iff_not, Bool.not_eq_true', Bool.not_eq_false', Bool.not_true, Bool.not_false, List.length_map, Decidable.not_not] at k2
      refine s_exit ?_
      refine s_code_exit ?_
      refine s_blk_exit rfl ?_
      refine s_code_exit ?_
      refine s_inv_exit ?_
      refine s_blk_here ?_
      refine s_seq ?_
      refine s_region ?_
      refine o_q (q_mv ((by first | exact v_raw rfl | exact v_sptr rfl))) rfl rfl rfl ?_
      refine o_q (q_mv (v_raw rfl)) rfl rfl rfl ?_
      refine o_q (q_nil rfl) rfl rfl rfl ?_
      refine o_q (q_fr fo68_1 rfl) rfl rfl rfl ?_
      refine o_store rfl (by repeat first | exact Mem.upd_self _ _ _ | assumption | refine Mem.upd_ne (by assumption) ?_) (by first | exact e_raw rfl | exact e_agg rfl | exact e_sl rfl | rfl) rfl sz65 rfl (Nat.le_of_ble_eq_true rfl) rfl rfl ?_
      refine o_nil ?_
      refine s_region ?_
      refine o_q (q_mv ((by first | exact v_raw rfl | exact v_sptr rfl))) rfl rfl rfl ?_
      refine o_callx ((snd42 _ O f hOf vl _ _ lb (Mem.upd_self _ _ _) (hK.bp hOk hOf hMM) (hK.len hok))) goes42 (ac ((by first | exact v_raw rfl | exact v_sptr rfl)) ac_nil) rfl ?_
      rintro r' M' h4
      refine o_nil ?_
      refine s_end ?_
      exact keep_end hle2 h4 (hK.final (.inl k2))
    · have k2 := h2; try simp only [decide_eq_true_eq, decide_eq_false_iff_not, Bool.not_eq_true', Bool.not_eq_false', Bool.not_true, Bool.not_false, List.length_map, Decidable.not_not] at k2
      refine s_skip ?_
      refine s_seq ?_
      refine s_region ?_
      refine o_q (q_fr fo77_1 rfl) rfl rfl rfl ?_
      refine o_q (q_ldm ag75 sz75 rfl (by repeat first | exact Mem.upd_self _ _ _ | assumption | refine Mem.upd_ne (by assumption) ?_) rfl (v_raw rfl)) rfl rfl rfl ?_
      refine o_q (q_mv (v_raw rfl)) rfl rfl rfl ?_
      refine o_q (q_mv (v_raw rfl)) rfl rfl rfl ?_
      refine o_q (q_fr fo77_0 rfl) rfl rfl rfl ?_
      refine o_q (q_ldm ag3 sz3 rfl (by repeat first | exact Mem.upd_self _ _ _ | assumption | refine Mem.upd_ne (by assumption) ?_) rfl (v_raw rfl)) rfl rfl rfl ?_
      refine o_q (q_min rfl rfl) rfl rfl rfl ?_
      have hif : i < F.acts.length := by omega
      have hfa : F.acts[i] = acs[i].a := by simp only [← has, List.getElem_map]
      have hat := (hK.at (by omega) hif hfa).1
      have hui : (acs[i].a.units : Int) ≤ 2 ^ 62 := acs_units hat
      obtain ⟨k, hk⟩ : ∃ k : Nat, min n1 (acs[i].a.units : Int) = (k : Nat) := ⟨(min n1 (acs[i].a.units : Int)).toNat, by omega⟩
      have hxi := hbx acs[i] (List.getElem_mem _)
      have hMp := (hMM acs[i].p (by rw [hK.le _ _ hxi.1]; exact fun h => by cases h)).trans (hK.le _ _ hxi.1)
      refine o_callv rfl (act_run (M.upd B1 (AObj.cells (AVal.agg [int ↑acs[i].a.units, AVal.raw (fnV acs[i].a.fn [acs[i].p])]).cells)) _ _ lb (hK.bs.keep fun b _ h => hMM b h) (le_both hK.le) (own_up hK.own hK.bs hB1) acs[i].a acs[i].p k hMp hat.2.1 (by omega) (run_len (by omega) hat.1 (okA_len hat.2.2).1)) (act_goes _) (ac (v_raw rfl) (ac (v_raw (congrArg (fun z => AVal.raw (Value.int .i64 z)) hk)) ac_nil)) rfl rfl ?_
      rintro r4 M4 ⟨v4, rfl, hB4, hle4, hfr4⟩
      have hMB4 := hle4 B1 _ (Mem.upd_self _ _ _)
      replace hle4 := le_down hMB1 hle4
      replace hfr4 := own_down hfr4
      refine o_q (q_as (v_raw rfl)) rfl rfl rfl ?_
      refine o_nil ?_
      refine s_region ?_
      refine o_q (q_mv (v_raw rfl)) rfl rfl rfl ?_
      refine o_q (q_fr fo77_0 rfl) rfl rfl rfl ?_
      refine o_q (q_ldm ag3 sz3 rfl (by repeat first | exact Mem.upd_self _ _ _ | assumption | refine Mem.upd_ne (by assumption) ?_) rfl (v_raw rfl)) rfl rfl rfl ?_
      refine o_q (q_sub rfl rfl (wrap64 (by omega) (by omega))) rfl rfl rfl ?_
      refine o_q (q_as (v_raw rfl)) rfl rfl rfl ?_
      refine o_nil ?_
      refine s_blk_normal ?_
      refine s_region ?_
      refine o_q (q_add rfl rfl (wrap64 (by omega) (by omega))) rfl rfl rfl ?_
      refine o_q (q_mv (v_raw rfl)) rfl rfl rfl ?_
      refine o_nil ?_
      refine s_inv ?_
      exact ⟨acs.length - (i + 1), by omega, _, M4, v4, _, _, i + 1, St.mkT (kp (kp (kp (kp (kp (kp rfl rfl) rfl) rfl) rfl) rfl) rfl).symm, hK.next (by omega) hif hfa hk hui hB4 hle4 hfr4, by omega, rfl⟩
  · have k1 := h1; try simp only [decide_eq_true_eq, decide_eq_false_iff_not, Bool.not_eq_true', Bool.not_eq_false', Bool.not_true, Bool.not_false, List.length_map, Decidable.not_not] at k1
    refine s_exit ?_
    refine s_code_exit ?_
    refine s_inv_exit ?_
    refine s_blk_here ?_
    refine s_seq ?_
    refine s_region ?_
    refine o_q (q_mv ((by first | exact v_raw rfl | exact v_sptr rfl))) rfl rfl rfl ?_
    refine o_q (q_mv (v_raw rfl)) rfl rfl rfl ?_
    refine o_q (q_nil rfl) rfl rfl rfl ?_
    refine o_q (q_fr fo68_1 rfl) rfl rfl rfl ?_
    refine o_store rfl (by repeat first | exact Mem.upd_self _ _ _ | assumption | refine Mem.upd_ne (by assumption) ?_) (by first | exact e_raw rfl | exact e_agg rfl | exact e_sl rfl | rfl) rfl sz65 rfl (Nat.le_of_ble_eq_true rfl) rfl rfl ?_
    refine o_nil ?_
    refine s_region ?_
    refine o_q (q_mv ((by first | exact v_raw rfl | exact v_sptr rfl))) rfl rfl rfl ?_
    refine o_callx ((snd42 _ O f hOf vl _ _ lb (Mem.upd_self _ _ _) (hK.bp hOk hOf fun c h => rfl) (hK.len hok))) goes42 (ac ((by first | exact v_raw rfl | exact v_sptr rfl)) ac_nil) rfl ?_
    rintro r' M' h4
    refine o_nil ?_
    refine s_end ?_
    exact keep_end hK.le h4 (hK.final (.inr (by omega)))
end C04
