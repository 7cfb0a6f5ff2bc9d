import Derived.Test.YtkjdclhhmgjfbaaU04
import Derived.Test.YtkjdclhhmgjfbaaK04
/-! Chapter 4: the disk: what its functions compute. -/
open Go Go.Proofs Go.Am
set_option linter.unusedVariables false
set_option linter.unusedSimpArgs false
set_option autoImplicit false
namespace C04
theorem bz61 : (zeroT Try.prog 61).map (fun z => z.cells.toList.map AVal.raw) = some [.raw (.int .i64 0), .raw (.map none), .raw (.map none), .raw (.slice none 0 0), .raw (.int .i64 0), .raw (.bool false)] := by kernel_rfl
theorem bp61 : (aPlaces Try.prog 61).isSome = true := by kernel_rfl
theorem und22 : Try.prog.underlying 22 = some (.slice 3) := by kernel_rfl
theorem und49 : Try.prog.underlying 49 = some (.slice 9) := by kernel_rfl
theorem und59 : Try.prog.underlying 59 = some (.slice 70) := by kernel_rfl
def tk15 : Nat → Nat → Option Nat := fun _ _ => none
def pl15 : Nat → List PStep
  | 1 => [.q 0, .q 1, .q 2, .q 3, .q 4, .q 5, .q 6, .q 7, .q 8, .q 9, .q 10, .q 11, .q 12, .q 13, .q 14]
  | _ => []
theorem cb15 : Try.f15.body.map (codeB Try.prog Try.f15.ntmps tk15 pl15) = some true := by kernel_rfl
theorem goes15 : goesB Try.prog 15 = true := by kernel_rfl

theorem keepI_len (fs : List Fl) (x : Dir) (ks : List Int) : ∀ i, (keepI fs x ks i).length = fs.length
  | 0 => rfl
  | i + 1 => by
    unfold keepI
    split
    · exact keepI_len fs x ks i
    · rw [List.length_set]; exact keepI_len fs x ks i
theorem keepI_succ {fs : List Fl} {x : Dir} {ks : List Int} {i : Nat} (h : i < x.length) : keepI fs x ks (i + 1) = (keepI fs x ks i).set x[i].2 (keepF ((keepI fs x ks i).getD x[i].2 fl0) (ks.getD i 0)) := by
  rw [keepI, List.getElem?_eq_getElem h]
theorem runAll_succ {l : Dir} {cs : List Dc} {j : Nat} (h : j < cs.length) : runAll l (cs.take (j + 1)) = cs[j].run (runAll l (cs.take j)) := by
  unfold runAll
  rw [List.take_add_one, List.foldl_append, List.getElem?_eq_getElem h]; rfl
theorem okC_run {n : Nat} : ∀ {cs : List Dc} {l now : Dir} (j : Nat), okC n l cs now → Gd n (runAll l (cs.take j)) ∧ ∀ h : j < cs.length, cs[j].ok (runAll l (cs.take j))
  | [], l, now, j, h => ⟨by rw [List.take_nil]; exact h.2, fun h => absurd h (Nat.not_lt_zero j)⟩
  | c :: cs, l, now, 0, h => ⟨h.1, fun _ => h.2.1⟩
  | c :: cs, l, now, j + 1, h => ⟨(okC_run j h.2.2.2).1, fun hj => (okC_run j h.2.2.2).2 (Nat.lt_of_succ_lt_succ hj)⟩
structure CrI (M Mc : Mem) (X : Nat) (adr : Nat → Nat) (s : DS) (j : Nat) : Prop where
  dir : DirAt Mc X adr (runAll s.lst (s.since.take j))
  eq : ∀ c, c ≠ X → Mc c = M c
structure CrJ (M3 Mc : Mem) (d n rf rl : Nat) (adr : Nat → Nat) (s : DS) (O W : Nat → Prop) (chs : List Ch) (fs : List Fl) : Prop where
  dk : DiskIs Mc d n rf rl adr { s with files := fs } O W chs
  eq : ∀ c, M3 c ≠ none → ¬ O c → Mc c = M3 c
theorem crash_end {M Mc M2 M' : Mem} {O W : Nat → Prop} {d n rf rl X B : Nat} {s : DS} {fs : List Fl} {x : Dir} {adr : Nat → Nat} {chs : List Ch} {dm : List (ByteArray × Nat)} {o : AObj} (hD : DiskIs Mc d n rf rl adr { s with files := fs } O W chs) (hMc : ∀ c, M c ≠ none → ¬ O c → Mc c = M c) (hX : M X = none) (hXW : ¬ W X)
    (hmx : MapAt ptrV Mc X dm) (hB : Mc B = none) (h1 : M2 = Mc.upd B o) (hma : MapAt ptrV M2 B dm) (hp : dm.Perm (x.map fun p => (p.1, adr p.2))) (hg : Gd fs.length x)
    (hd : M' d = some (.cells [int s.room, mapV X, mapV B, .sl [] true, int (-1), bool false])) (hk : ∀ c, c ≠ d → M' c = M2 c) : Aft M M' d n { s with dir := x, lst := x, since := [], fuse := -1, down := false, files := fs } O W := by
  have hne : ∀ c, Mc c ≠ none → c ≠ B := fun c h e => h (by rw [e]; exact hB)
  have hk2 : ∀ c, Mc c ≠ none → c ≠ d → M' c = Mc c := fun c e1 e2 => by rw [hk c e2, h1]; exact upd_other (hne c e1)
  have hO : ∀ c, Mc c ≠ none → ¬ O c → M' c = Mc c := fun c e1 h2 => hk2 c e1 fun e => h2 (by rw [e]; exact hD.od)
  have hN : ∀ c, Mc c ≠ none → ¬ W c → M' c = Mc c := fun c e1 e2 => hO c e1 fun h => e2 (hD.ow c h)
  have hw : ∀ c, W c → c ≠ d → M' c = Mc c := fun c h1 => hk2 c (hD.ok c h1)
  have hBd : B ≠ d := fun e => hD.ok d (hD.ow _ hD.od) (by rw [← e]; exact hB)
  have hXd : X ≠ d := fun e => hXW (by rw [e]; exact hD.ow _ hD.od)
  have hXB : X ≠ B := hne X hmx.some
  have hMB : M B = none := by
    by_cases h : M B = none
    · exact h
    · by_cases ho : O B
      · exact absurd hB (hD.ok B (hD.ow B ho))
      · rw [← hMc B h ho] at h; exact absurd hB h
  have hW : ∀ c, un (un W (· = X)) (· = B) c → W c ∨ M c = none := fun c hc => by
    rcases hc with (hc | hc) | hc
    · exact .inl hc
    · exact .inr (by rw [hc]; exact hX)
    · exact .inr (by rw [hc]; exact hMB)
  have hXf : ∀ i F, fs[i]? = some F → FileAt M' (un (un W (· = X)) (· = B)) (adr i) F := fun i F hi => by
    have hil := (List.getElem?_eq_some_iff.1 hi).1
    obtain ⟨vl, vn, acs, hF⟩ := hD.fa i F hi
    have hx : ∀ c o, Mc c = some (AObj.cells o) → c ≠ X ∧ c ≠ B := fun c o h => ⟨fun e => map_cells hmx (e ▸ h), hne c (by rw [h]; exact fun h => by cases h)⟩
    have hbp : ∀ v l, Bp W Mc v l → Bp (un (un W (· = X)) (· = B)) M' v l := fun v l h => by
      rcases h with h | ⟨b, cs, e1, e2, e3, e4⟩
      · exact .inl h
      · obtain ⟨g1, g2⟩ := hx b _ e2
        exact .inr ⟨b, cs, e1, by rw [hN b (by rw [e2]; exact fun h => by cases h) e4]; exact e2, e3, fun h => h.elim (fun h => h.elim e4 g1) g2⟩
    refine ⟨vl, vn, acs, (hw _ (hD.ow _ (hD.oi i hil)) (hD.dn.2.2 i hil).1).trans hF.hf, hbp _ _ hF.bl, hbp _ _ hF.bn, hF.ea, fun c hc => ?_, hF.ok⟩
    obtain ⟨g1, g2⟩ := hF.bx c hc
    obtain ⟨g3, g4⟩ := hx c.p _ g1
    exact ⟨by rw [hN c.p (by rw [g1]; exact fun h => by cases h) g2]; exact g1, fun h => h.elim (fun h => h.elim g2 g3) g4⟩
  refine ⟨un (un O (· = X)) (· = B), un (un W (· = X)) (· = B), ⟨X, B, adr, [], { hD with
    hd := hd
    mf := ⟨dm, hmx.keep (hk2 X hmx.some hXd), hp⟩
    ml := ⟨dm, hma.keep (hk B hBd), hp⟩
    od := .inl (.inl hD.od)
    orf := .inl (.inr rfl)
    orl := .inr rfl
    oi := fun i hi => .inl (.inl (hD.oi i hi))
    ow := fun c hc => hc.imp (fun h => h.imp (hD.ow c) id) id
    ok := fun c hc => by
      by_cases e : c = d
      · rw [e, hd]; exact fun h => by cases h
      · rcases hc with (hc | hc) | hc
        · rw [hw c hc e]; exact hD.ok c hc
        · rw [hc, hk2 X hmx.some hXd]; exact hmx.some
        · rw [hc, hk B hBd]; exact hma.some
    ne := hXB
    fa := hXf
    ea := rfl
    bx := fun c hc => by cases hc
    oc := ⟨rfl, hg⟩
    fuse := (by decide : (-1 : Int) ≤ -1 ∧ (-1 : Int) < 2 ^ 63)
    ns := Nat.zero_le _ }⟩, ⟨fun c k1 k2 => by rw [hO c (by rw [hMc c k1 k2]; exact k1) k2, hMc c k1 k2], fun c hc => ?_, fun c hc => .inl (.inl hc)⟩, hW, fun c hc => .inl (.inl hc)⟩
  rcases hc with (hc | hc) | hc
  · exact .inl hc
  · exact .inr (by rw [hc]; exact hX)
  · exact .inr (by rw [hc]; exact hMB)
set_option maxHeartbeats 4000000 in
set_option maxRecDepth 20000 in
theorem snd15 (M : Mem) (d n rf rl : Nat) (adr : Nat → Nat) (s : DS) (O W : Nat → Prop) (chs : List Ch) (hD : DiskIs M d n rf rl adr s O W chs) (hn : n < BIG) (dirs : Int) (keeps : List Int) (own : Bool) (hdi : -2 ^ 63 ≤ dirs ∧ dirs < 2 ^ 63) (hks : ∀ z ∈ keeps, -2 ^ 63 ≤ z ∧ z < 2 ^ 63) : SoundCall Try.prog 15 [ptr d, int dirs, .sl (keeps.map int) own] M fun _ M' => Aft M M' d n (s.crash dirs keeps) O W := by
  have hd := hD.hd
  unfold dC at hd
  obtain ⟨dl, hml, hpl⟩ := hD.ml
  have hns := hD.ns
  have hbig : BIG = 2 ^ 40 := rfl
  have hml9 : maxLen = 2 ^ 63 - 1 := rfl
  have hln : chs.length = s.since.length := by rw [← hD.ea, List.length_map]
  obtain ⟨k, hk⟩ : ∃ k : Nat, min (max dirs 0) ((chs.map fun c : Ch => AVal.raw c.val).length : Int) = k := ⟨(min (max dirs 0) ((chs.map fun c : Ch => AVal.raw c.val).length : Int)).toNat, by omega⟩
  have hkl : k ≤ chs.length := by rw [List.length_map] at hk; omega
  have hlk : (List.drop 0 (List.take k (chs.map fun c : Ch => AVal.raw c.val))).length = k := by rw [List.drop_zero, List.length_take, List.length_map]; omega
  have htk : s.since.take dirs.toNat = s.since.take k := List.take_eq_take_iff.2 (by rw [List.length_map] at hk; omega)
  refine SoundCall.go tk15 pl15 mixed Try.func15 cb15 rfl (Nat.le_of_ble_eq_true rfl) ?_
  refine s_seq ?_
  refine s_region ?_
  refine o_q (q_mv ((by first | exact v_raw rfl | exact v_sptr rfl))) rfl rfl rfl ?_
  refine o_q (q_nil rfl) rfl rfl rfl ?_
  refine o_q (q_fr fo61_2 rfl) rfl rfl rfl ?_
  refine o_q (q_ldm ag58 sz58 rfl (by repeat first | exact Mem.upd_self _ _ _ | assumption | refine Mem.upd_ne (by assumption) ?_) rfl (v_raw rfl)) rfl rfl rfl ?_
  refine o_callx ((snd44 M rl dl hml)) goes44 (ac (v_raw rfl) ac_nil) rfl ?_
  rintro q M1 ⟨X, oX, hX, rfl, hM1, hma⟩
  have hd1 : M1 d = M d := by rw [hM1]; exact upd_other fun e => by rw [e, hX] at hd; cases hd
  rw [hd] at hd1
  have hXW : ¬ W X := fun h => hD.ok X h hX
  have hXO : ¬ O X := fun h => hXW (hD.ow X h)
  have hN1 : ∀ c, M c ≠ none → M1 c = M c := fun c h => by rw [hM1]; exact upd_other fun e => h (by rw [e]; exact hX)
  have hC0 : CrI M1 M1 X adr s 0 := ⟨⟨dl, hma, hpl⟩, fun _ _ => rfl⟩
  refine o_q (q_as (v_raw rfl)) rfl rfl rfl ?_
  refine o_nil ?_
  refine s_seq ?_
  refine s_seq ?_
  refine s_draw rfl ?_
  refine d_q rfl (q_mv ((by first | exact v_raw rfl | exact v_sptr rfl))) rfl rfl rfl ?_
  refine d_q rfl (q_nil rfl) rfl rfl rfl ?_
  refine d_q rfl (q_fr fo61_3 rfl) rfl rfl rfl ?_
  refine d_q rfl (q_ldm ag59 sz59 rfl (by repeat first | exact Mem.upd_self _ _ _ | assumption | refine Mem.upd_ne (by assumption) ?_) rfl (v_sl rfl)) rfl rfl rfl ?_
  refine d_q rfl (q_mv (v_raw rfl)) rfl rfl rfl ?_
  refine d_q rfl (q_max rfl rfl) rfl rfl rfl ?_
  refine d_q rfl (q_mv ((by first | exact v_raw rfl | exact v_sptr rfl))) rfl rfl rfl ?_
  refine d_q rfl (q_nil rfl) rfl rfl rfl ?_
  refine d_q rfl (q_fr fo61_3 rfl) rfl rfl rfl ?_
  refine d_q rfl (q_ldm ag59 sz59 rfl (by repeat first | exact Mem.upd_self _ _ _ | assumption | refine Mem.upd_ne (by assumption) ?_) rfl (v_sl rfl)) rfl rfl rfl ?_
  refine d_q rfl (q_len rfl und59 rfl) rfl rfl rfl ?_
  refine d_q rfl (q_min rfl rfl) rfl rfl rfl ?_
  refine d_q rfl (q_slice und59 sz70 rfl (Els.map fun _ => ⟨rfl, rfl⟩) ab_none (ab rfl hk) (Nat.zero_le _) (by rw [List.length_map] at hk ⊢; omega)) rfl rfl rfl ?_
  refine d_q rfl (q_len rfl und59 rfl) rfl rfl rfl ?_
  refine d_q rfl (q_mv (v_raw rfl)) rfl rfl rfl ?_
  refine d_nil ?_
  refine s_block ?_
  refine s_loop (fun m S => ∃ T Mc, ∃ j : Nat, S = ⟨setT (setT (setT (setT (setT (setT T 0 (ptr d)) 2 (.sl (keeps.map int) own)) 6 (mapV X)) 29 (.sl ((chs.take k).map fun c : Ch => AVal.raw c.val) false)) 30 (int (k : Nat))) 31 (int (j : Nat)), Mc⟩ ∧ CrI M1 Mc X adr s j ∧ j ≤ k ∧ m = k - j) k ?_ ?_
  · exact ⟨_, _, 0, St.mkT (kp (kp (kp (kp (kp (kp rfl rfl) rfl) rfl) (congrArg (fun z => AVal.sl z false) List.map_take.symm)) (congrArg (fun z : Nat => int z) hlk)) rfl).symm, hC0, Nat.zero_le _, rfl⟩
  rintro m S ⟨T, Mc, j, rfl, hC, hjk, rfl⟩
  refine s_seq ?_
  refine s_region ?_
  refine o_q (q_lss rfl rfl) rfl rfl rfl ?_
  refine o_nil ?_
  refine s_seq ?_
  refine s_cond rfl (fun h1 => ?_) (fun h1 => ?_)
  · have k1 := h1; try simp only [decide_eq_true_eq, decide_eq_false_iff_not, Bool.not_eq_true', Bool.not_eq_false', Bool.not_true, Bool.not_false, List.length_map, Decidable.not_not] at k1
    have hjk2 : j < k := by omega
    have hjc : j < (chs.take k).length := by rw [List.length_take]; omega
    have hxm : (chs.take k)[j] ∈ chs := List.mem_of_mem_take (List.getElem_mem _)
    have hjs : j < s.since.length := by omega
    have hxc : s.since[j] = (chs.take k)[j].c := by simp [← hD.ea]
    refine s_skip ?_
    refine s_seq ?_
    refine s_block ?_
    refine s_seq ?_
    refine s_region ?_
    refine o_q (q_idx und59 sz70 rfl rfl (by omega) (gm j (by first | omega | simp)) rfl) rfl rfl rfl ?_
    refine o_q (q_ld ag70 sz70 rfl (gm j (by first | omega | simp)) rfl (v_raw rfl)) rfl rfl rfl ?_
    refine o_q (q_as (v_raw rfl)) rfl rfl rfl ?_
    refine o_nil ?_
    refine s_region ?_
    refine o_q (q_mv (v_raw rfl)) rfl rfl rfl ?_
    refine o_q (q_mv (v_raw rfl)) rfl rfl rfl ?_
    refine o_callv rfl ((run_ch hC.dir (okC_run j hD.oc).1 (chs.take k)[j] (Ch.bx_keep (n := s.files.length) (hD.bx _ hxm) (fun c h1 h2 => (hC.eq c fun e => h1 (by rw [e]; exact hX)).trans (hN1 c h1)) (fun c h => .inl h) (fun _ _ => rfl) (okC_lt hD.oc _ (by rw [← hD.ea]; exact List.mem_map.2 ⟨_, hxm, rfl⟩))) (by rw [← hxc]; exact (okC_run j hD.oc).2 hjs))) (ch_goes _) (ac (v_raw rfl) ac_nil) rfl rfl ?_
    rintro r4 M4 ⟨hd4, hk4⟩
    refine o_nil ?_
    refine s_blk_normal ?_
    refine s_region ?_
    refine o_q (q_add rfl rfl (wrap64 (by omega) (by omega))) rfl rfl rfl ?_
    refine o_q (q_mv (v_raw rfl)) rfl rfl rfl ?_
    refine o_nil ?_
    refine s_inv ?_
    exact ⟨k - (j + 1), by omega, _, M4, j + 1, St.mkT (kp (kp (kp (kp (kp (kp rfl rfl) rfl) rfl) rfl) rfl) rfl).symm, ⟨by rw [runAll_succ hjs, hxc]; exact hd4, fun c h => (hk4 c h).trans (hC.eq c h)⟩, by omega, rfl⟩
  · have k1 := h1; try simp only [decide_eq_true_eq, decide_eq_false_iff_not, Bool.not_eq_true', Bool.not_eq_false', Bool.not_true, Bool.not_false, List.length_map, Decidable.not_not] at k1
    have hjk3 : j = k := by omega
    subst hjk3
    obtain ⟨dm, hmx, hpx⟩ := hC.dir
    have hgx := (okC_run j hD.oc).1
    obtain ⟨x, hx⟩ : ∃ x, runAll s.lst (s.since.take j) = x := ⟨_, rfl⟩
    rw [hx] at hpx hgx
    have hcr : s.crash dirs keeps = { s with dir := x, lst := x, since := [], fuse := -1, down := false, files := keepI s.files x keeps x.length } := by unfold DS.crash; rw [htk, hx]
    obtain ⟨clk, lf, hmi⟩ := id hmx
    have hkp : (lf.map En.k).Perm (x.map (·.1)) := by rw [hmi.keys]; exact (hpx.map _).trans (by rw [List.map_map]; exact List.Perm.refl _)
    have hll : lf.length ≤ 1000 := by have h1 := hkp.length_eq; rw [List.length_map, List.length_map] at h1; have := hgx.len; omega
    have hNc : ∀ c, M c ≠ none → Mc c = M c := fun c h => (hC.eq c fun e => h (by rw [e]; exact hX)).trans (hN1 c h)
    refine s_exit ?_
    refine s_code_exit ?_
    refine s_inv_exit ?_
    refine s_blk_here ?_
    refine s_seq ?_
    refine s_seq ?_
    refine s_region ?_
    refine o_q (q_mv (v_raw rfl)) rfl rfl rfl ?_
    refine o_callx ((snd46 Mc X)) goes46 (ac (v_raw rfl) ac_nil) rfl ?_
    rintro q M3 ⟨B1, hB1, rfl, rfl⟩
    have hXB : X ≠ B1 := fun e => hmx.some (by rw [e]; exact hB1)
    have hN3 : M.le (Mc.upd B1 (.cells [mapV X])) := fun c o h => (upd_other fun e => by have := hNc c (by rw [h]; exact fun h => by cases h); rw [e, hB1, ← e, h] at this; cases this).trans ((hNc c (by rw [h]; exact fun h => by cases h)).trans h)
    have hJ0 : CrJ (Mc.upd B1 (.cells [mapV X])) (Mc.upd B1 (.cells [mapV X])) d n rf rl adr s O W chs (keepI s.files x keeps 0) := ⟨hD.le hN3, fun _ _ _ => rfl⟩
    have hmx3 : MapAt ptrV (Mc.upd B1 (.cells [mapV X])) X dm := hmx.keep (upd_other hXB)
    refine o_callx ((sorted45 B1 X clk lf _ (Mem.upd_self _ _ _) ((upd_other hXB).trans hmi.hM) hll (fun e he => by obtain ⟨p, hp, e2⟩ := List.mem_map.1 (hkp.mem_iff.1 (List.mem_map.2 ⟨e, he, rfl⟩)); have := (hgx.nm p hp).2.1; rw [← e2]; omega) hmi.st hmi.sn (by rw [hmi.keys]; exact hmi.nd))) goes45 (ac (v_raw rfl) ac_nil) rfl ?_
    rintro q M3 ⟨rfl, hM3⟩
    subst hM3
    rw [sortS_names hkp hgx.srt]
    refine o_q (q_len rfl und49 rfl) rfl rfl rfl ?_
    refine o_q (q_mv (v_raw rfl)) rfl rfl rfl ?_
    refine o_nil ?_
    refine s_block ?_
    refine s_loop (fun m S => ∃ T Md, ∃ i : Nat, S = ⟨setT (setT (setT (setT (setT (setT T 0 (ptr d)) 2 (.sl (keeps.map int) own)) 6 (mapV X)) 41 (.sl ((x.map (·.1)).map str) false)) 42 (int (x.length : Nat))) 43 (int (i : Nat)), Md⟩ ∧ CrJ (Mc.upd B1 (.cells [mapV X])) Md d n rf rl adr s O W chs (keepI s.files x keeps i) ∧ i ≤ x.length ∧ m = x.length - i) x.length ?_ ?_
    · exact ⟨_, _, 0, St.mkT (kp (kp (kp (kp (kp (kp rfl rfl) rfl) rfl) rfl) (congrArg (fun z : Nat => int z) (by simp))) rfl).symm, hJ0, Nat.zero_le _, rfl⟩
    rintro m S ⟨T, Md, i, rfl, hJ, hix, rfl⟩
    have hXm : MapAt ptrV Md X dm := hmx3.keep (hJ.eq X hmx3.some hXO)
    refine s_seq ?_
    refine s_region ?_
    refine o_q (q_lss rfl rfl) rfl rfl rfl ?_
    refine o_nil ?_
    refine s_seq ?_
    refine s_cond rfl (fun h2 => ?_) (fun h2 => ?_)
    · have k2 := h2; try simp only [decide_eq_true_eq, decide_eq_false_iff_not, Bool.not_eq_true', Bool.not_eq_false', Bool.not_true, Bool.not_false, List.length_map, Decidable.not_not] at k2
      have hi2 : i < x.length := by omega
      have hxl := hgx.len
      have hil2 : i < (x.map (·.1)).length := by rw [List.length_map]; exact hi2
      have hgi : gets x x[i].1 = some x[i].2 := (gets_iff hgx.srt.nd).2 (List.getElem_mem _)
      have hidx : x[i].2 < s.files.length := (hgx.nm _ (List.getElem_mem _)).2.2
      have hOi := hD.oi _ hidx
      have hWi := hD.ow _ hOi
      have hgk : gets dm ((x.map (·.1))[i]'(by rw [List.length_map]; exact hi2)) = some (adr x[i].2) := by rw [List.getElem_map, perm_gets hpx hgx.srt, hgi]; rfl
      refine s_skip ?_
      refine s_seq ?_
      refine s_block ?_
      refine s_seq ?_
      refine s_region ?_
      refine o_q (q_mv (v_raw rfl)) rfl rfl rfl ?_
      refine o_q (q_idx und49 sz9 rfl rfl (by omega) (gm i (by first | omega | simp)) rfl) rfl rfl rfl ?_
      refine o_q (q_ld ag9 sz9 rfl (gm i (by first | omega | simp)) rfl (v_raw rfl)) rfl rfl rfl ?_
      refine o_q (q_as (v_raw rfl)) rfl rfl rfl ?_
      refine o_q (q_as (v_raw rfl)) rfl rfl rfl ?_
      refine o_nil ?_
      refine s_seq ?_
      refine s_region ?_
      refine o_q (q_as (v_raw rfl)) rfl rfl rfl ?_
      refine o_nil ?_
      refine s_seq ?_
      refine s_seq ?_
      refine s_region ?_
      refine o_q (q_mv (v_raw rfl)) rfl rfl rfl ?_
      refine o_q (q_mv (v_sl rfl)) rfl rfl rfl ?_
      refine o_q (q_len rfl und22 rfl) rfl rfl rfl ?_
      refine o_q (q_lss rfl rfl) rfl rfl rfl ?_
      refine o_nil ?_
      refine s_cond rfl (fun h3 => ?_) (fun h3 => ?_)
      · have k3 := h3; try simp only [decide_eq_true_eq, decide_eq_false_iff_not, Bool.not_eq_true', Bool.not_eq_false', Bool.not_true, Bool.not_false, List.length_map, Decidable.not_not] at k3
        have hik : i < keeps.length := by omega
        have hz := hks _ (List.getElem_mem hik)
        have hzd : keeps.getD i 0 = keeps[i] := by rw [List.getD_eq_getElem?_getD, List.getElem?_eq_getElem hik]; rfl
        refine s_region ?_
        refine o_q (q_mv (v_sl rfl)) rfl rfl rfl ?_
        refine o_q (q_mv (v_raw rfl)) rfl rfl rfl ?_
        refine o_q (q_idx und22 sz3 rfl rfl (by omega) (gm i (by first | omega | simp)) rfl) rfl rfl rfl ?_
        refine o_q (q_ld ag3 sz3 rfl (gm i (by first | omega | simp)) rfl (v_raw rfl)) rfl rfl rfl ?_
        refine o_q (q_as (v_raw rfl)) rfl rfl rfl ?_
        refine o_nil ?_
        refine s_region ?_
        refine o_q (q_mv (v_raw rfl)) rfl rfl rfl ?_
        refine o_q (q_mv (v_raw rfl)) rfl rfl rfl ?_
        refine m_get (k := (x.map (·.1))[i]'(by rw [List.length_map]; exact hi2)) und58 kt9 z62 rfl rfl (by exact hXm) ?_
        rw [hgk]
        refine o_q (q_mv (v_raw rfl)) rfl rfl rfl ?_
        refine o_callx ((snd47 Md W (adr x[i].2) ((keepI s.files x keeps i).getD x[i].2 fl0) (hJ.dk.fa _ _ (getD_at (by rw [keepI_len]; exact hidx))) hWi hJ.dk.ok (Nat.le_trans (hJ.dk.na _ (List.mem_of_getElem? (getD_at (by rw [keepI_len]; exact hidx)))) (by omega)) keeps[i] hz)) goes47 (ac ((by first | exact v_raw rfl | exact v_sptr rfl)) (ac (v_raw rfl) ac_nil)) rfl ?_
        rintro r5 M5 h5
        refine o_nil ?_
        refine s_blk_normal ?_
        refine s_region ?_
        refine o_q (q_add rfl rfl (wrap64 (by omega) (by omega))) rfl rfl rfl ?_
        refine o_q (q_mv (v_raw rfl)) rfl rfl rfl ?_
        refine o_nil ?_
        refine s_inv ?_
        exact ⟨x.length - (i + 1), by omega, _, M5, i + 1, St.mkT (kp (kp (kp (kp (kp (kp rfl rfl) rfl) rfl) rfl) rfl) rfl).symm, ⟨by rw [keepI_succ hi2, hzd]; exact hJ.dk.file (by rw [keepI_len]; exact hidx) h5.1 h5.2 (Nat.le_refl n) (Nat.zero_le _), fun c h1 h2 => (h5.1 c (by rw [hJ.eq c h1 h2]; exact h1) fun e => h2 (by rw [e]; exact hOi)).trans (hJ.eq c h1 h2)⟩, by omega, rfl⟩
      · have k3 := h3; try simp only [decide_eq_true_eq, decide_eq_false_iff_not, Bool.not_eq_true', Bool.not_eq_false', Bool.not_true, Bool.not_false, List.length_map, Decidable.not_not] at k3
        have hzd : keeps.getD i 0 = 0 := by rw [List.getD_eq_getElem?_getD, List.getElem?_eq_none (by omega)]; rfl
        refine s_skip ?_
        refine s_region ?_
        refine o_q (q_mv (v_raw rfl)) rfl rfl rfl ?_
        refine o_q (q_mv (v_raw rfl)) rfl rfl rfl ?_
        refine m_get (k := (x.map (·.1))[i]'(by rw [List.length_map]; exact hi2)) und58 kt9 z62 rfl rfl (by exact hXm) ?_
        rw [hgk]
        refine o_q (q_mv (v_raw rfl)) rfl rfl rfl ?_
        refine o_callx ((snd47 Md W (adr x[i].2) ((keepI s.files x keeps i).getD x[i].2 fl0) (hJ.dk.fa _ _ (getD_at (by rw [keepI_len]; exact hidx))) hWi hJ.dk.ok (Nat.le_trans (hJ.dk.na _ (List.mem_of_getElem? (getD_at (by rw [keepI_len]; exact hidx)))) (by omega)) 0 (by decide))) goes47 (ac ((by first | exact v_raw rfl | exact v_sptr rfl)) (ac (v_raw rfl) ac_nil)) rfl ?_
        rintro r5 M5 h5
        refine o_nil ?_
        refine s_blk_normal ?_
        refine s_region ?_
        refine o_q (q_add rfl rfl (wrap64 (by omega) (by omega))) rfl rfl rfl ?_
        refine o_q (q_mv (v_raw rfl)) rfl rfl rfl ?_
        refine o_nil ?_
        refine s_inv ?_
        exact ⟨x.length - (i + 1), by omega, _, M5, i + 1, St.mkT (kp (kp (kp (kp (kp (kp rfl rfl) rfl) rfl) rfl) rfl) rfl).symm, ⟨by rw [keepI_succ hi2, hzd]; exact hJ.dk.file (by rw [keepI_len]; exact hidx) h5.1 h5.2 (Nat.le_refl n) (Nat.zero_le _), fun c h1 h2 => (h5.1 c (by rw [hJ.eq c h1 h2]; exact h1) fun e => h2 (by rw [e]; exact hOi)).trans (hJ.eq c h1 h2)⟩, by omega, rfl⟩
    · have k2 := h2; try simp only [decide_eq_true_eq, decide_eq_false_iff_not, Bool.not_eq_true', Bool.not_eq_false', Bool.not_true, Bool.not_false, List.length_map, Decidable.not_not] at k2
      have hi3 : i = x.length := by omega
      subst hi3
      have hdc := hJ.dk.hd
      unfold dC at hdc
      refine s_exit ?_
      refine s_code_exit ?_
      refine s_inv_exit ?_
      refine s_blk_here ?_
      refine s_seq ?_
      refine s_region ?_
      refine o_q (q_mv ((by first | exact v_raw rfl | exact v_sptr rfl))) rfl rfl rfl ?_
      refine o_q (q_mv ((by first | exact v_raw rfl | exact v_sptr rfl))) rfl rfl rfl ?_
      refine o_q (q_mv ((by first | exact v_raw rfl | exact v_sptr rfl))) rfl rfl rfl ?_
      refine o_q (q_mv (v_raw rfl)) rfl rfl rfl ?_
      refine o_q (q_mv (v_raw rfl)) rfl rfl rfl ?_
      refine o_callx ((snd44 Md X dm hXm)) goes44 (ac (v_raw rfl) ac_nil) rfl ?_
      rintro q M2 ⟨B2, o2, hB2, rfl, hM2, hma2⟩
      have hd2 : M2 d = Md d := by rw [hM2]; exact upd_other fun e => by rw [e, hB2] at hdc; cases hdc
      rw [hdc] at hd2
      have hdB : d ≠ B2 := fun e => by rw [e, hB2] at hdc; cases hdc
      refine o_q (q_nil rfl) rfl rfl rfl ?_
      refine o_q (q_fr fo61_1 rfl) rfl rfl rfl ?_
      refine o_store rfl (by repeat first | exact Mem.upd_self _ _ _ | assumption | refine Mem.upd_ne (by assumption) ?_) (by first | exact e_raw rfl | exact e_agg rfl | exact e_sl rfl | rfl) rfl sz58 rfl (Nat.le_of_ble_eq_true rfl) rfl rfl ?_
      refine o_q (q_nil rfl) rfl rfl rfl ?_
      refine o_q (q_fr fo61_2 rfl) rfl rfl rfl ?_
      refine o_store rfl (by repeat first | exact Mem.upd_self _ _ _ | assumption | refine Mem.upd_ne (by assumption) ?_) (by first | exact e_raw rfl | exact e_agg rfl | exact e_sl rfl | rfl) rfl sz58 rfl (Nat.le_of_ble_eq_true rfl) rfl rfl ?_
      refine o_q (q_nil rfl) rfl rfl rfl ?_
      refine o_q (q_fr fo61_3 rfl) rfl rfl rfl ?_
      refine o_store_nil rfl (Mem.upd_self _ _ _) sz59 (Nat.le_of_ble_eq_true rfl) ?_
      refine o_nil ?_
      refine s_region ?_
      refine o_q (q_mv ((by first | exact v_raw rfl | exact v_sptr rfl))) rfl rfl rfl ?_
      refine o_q (q_mv ((by first | exact v_raw rfl | exact v_sptr rfl))) rfl rfl rfl ?_
      refine o_q (q_nil rfl) rfl rfl rfl ?_
      refine o_q (q_fr fo61_4 rfl) rfl rfl rfl ?_
      refine o_store rfl (by repeat first | exact Mem.upd_self _ _ _ | assumption | refine Mem.upd_ne (by assumption) ?_) (by first | exact e_raw rfl | exact e_agg rfl | exact e_sl rfl | rfl) rfl sz3 rfl (Nat.le_of_ble_eq_true rfl) rfl rfl ?_
      refine o_q (q_nil rfl) rfl rfl rfl ?_
      refine o_q (q_fr fo61_5 rfl) rfl rfl rfl ?_
      refine o_store rfl (by repeat first | exact Mem.upd_self _ _ _ | assumption | refine Mem.upd_ne (by assumption) ?_) (by first | exact e_raw rfl | exact e_agg rfl | exact e_sl rfl | rfl) rfl sz4 rfl (Nat.le_of_ble_eq_true rfl) rfl rfl ?_
      refine o_nil ?_
      refine s_end ?_
      exact (show Aft M _ d n (s.crash dirs keeps) O W by rw [hcr]; exact crash_end hJ.dk (fun c h1 h2 => (hJ.eq c (by rw [leK hN3 h1]; exact h1) h2).trans (leK hN3 h1)) hX hXW hXm hB2 hM2 hma2 hpx (by rw [keepI_len]; exact hgx) (Mem.upd_self _ _ _) (fun c h => by repeat first | rfl | refine (upd_other h).trans ?_))

def tk10 : Nat → Nat → Option Nat := fun _ _ => none
def pl10 : Nat → List PStep := fun _ => []
theorem cb10 : Try.f10.body.map (codeB Try.prog Try.f10.ntmps tk10 pl10) = some true := by kernel_rfl
theorem goes10 : goesB Try.prog 10 = true := by kernel_rfl
set_option maxHeartbeats 4000000 in
set_option maxRecDepth 20000 in
theorem snd10 (M : Mem) (room : Int) : SoundCall Try.prog 10 [int room] M fun r M' => ((room < 0 ∨ 1000000000 < room) ∧ r = .tup [.raw (.pointer none), int 1] ∧ M' = M) ∨ (0 ≤ room ∧ room ≤ 1000000000 ∧ ∃ B1 B2 B3, ∃ o1, ∃ o2, M B1 = none ∧ (M.upd B1 o1) B2 = none ∧ ((M.upd B1 o1).upd B2 o2) B3 = none ∧ MapAt ptrV (M.upd B1 o1) B1 ([] : List (ByteArray × Nat)) ∧ MapAt ptrV ((M.upd B1 o1).upd B2 o2) B2 ([] : List (ByteArray × Nat)) ∧ r = .tup [ptr B3, int 0] ∧ M' = ((M.upd B1 o1).upd B2 o2).upd B3 (.cells [int room, mapV B1, mapV B2, .raw (.slice none 0 0), int (-1), bool false])) := by
  refine SoundCall.go tk10 pl10 mixed Try.func10 cb10 rfl (Nat.le_of_ble_eq_true rfl) ?_
  refine s_seq ?_
  refine s_region ?_
  refine o_q (q_as ((by first | exact v_raw rfl | exact v_sptr rfl))) rfl rfl rfl ?_
  refine o_q (q_as (v_raw rfl)) rfl rfl rfl ?_
  refine o_nil ?_
  refine s_seq ?_
  refine s_seq ?_
  refine s_region ?_
  refine o_q (q_mv (v_raw rfl)) rfl rfl rfl ?_
  refine o_q (q_lss rfl rfl) rfl rfl rfl ?_
  refine o_q (q_mv (v_raw rfl)) rfl rfl rfl ?_
  refine o_cases (want := false) (j := 2) rfl rfl (fun h1 => ?_) (fun h1 => ?_)
  · have k1 := h1; try simp only [decide_eq_true_eq, decide_eq_false_iff_not, Bool.not_eq_true', Bool.not_eq_false', Bool.not_true, Bool.not_false, List.length_map, Decidable.not_not] at k1
    refine o_yes rfl rfl rfl h1 ?_
    refine o_q (q_mv (v_raw rfl)) rfl rfl rfl ?_
    refine o_yes rfl rfl rfl h1 ?_
    refine o_q (q_gtr rfl rfl) rfl rfl rfl ?_
    refine o_q (q_pick_c (t := false) rfl h1 (v_raw rfl)) rfl rfl rfl ?_
    refine o_nil ?_
    refine s_cond rfl (fun h2 => ?_) (fun h2 => ?_)
    · have k2 := h2; try simp only [decide_eq_true_eq, decide_eq_false_iff_not, Bool.not_eq_true', Bool.not_eq_false', Bool.not_true, Bool.not_false, List.length_map, Decidable.not_not] at k2
      refine s_seq ?_
      refine s_region ?_
      refine o_q (q_as ((by first | exact v_raw rfl | exact v_sptr rfl))) rfl rfl rfl ?_
      refine o_q (q_as (v_raw rfl)) rfl rfl rfl ?_
      refine o_nil ?_
      refine s_ret ?_
      refine s_code_ret ?_
      refine s_end ?_
      exact ret_many (.inl rfl) rfl (rl_t rfl (rl_t rfl rl_nil)) rfl (.inl ⟨by omega, rfl, rfl⟩)
    · have k2 := h2; try simp only [decide_eq_true_eq, decide_eq_false_iff_not, Bool.not_eq_true', Bool.not_eq_false', Bool.not_true, Bool.not_false, List.length_map, Decidable.not_not] at k2
      refine s_skip ?_
      refine s_seq ?_
      refine s_region ?_
      refine o_q (q_mv (v_raw rfl)) rfl rfl rfl ?_
      refine m_make (β := Nat) (g := ptrV) (fun B1 o1 hB1 hm1 => ?_)
      refine m_make (β := Nat) (g := ptrV) (fun B2 o2 hB2 hm2 => ?_)
      refine o_q (q_b (cs := [_, _, _, .raw (.slice none 0 0), _, .raw (.bool false)]) bz61 bp61 (bf fo61_0 (e_raw rfl) rfl rfl (Nat.le_of_ble_eq_true rfl) rfl (bf fo61_1 (e_raw rfl) rfl rfl (Nat.le_of_ble_eq_true rfl) rfl (bf fo61_2 (e_raw rfl) rfl rfl (Nat.le_of_ble_eq_true rfl) rfl (bf fo61_4 (e_raw rfl) rfl rfl (Nat.le_of_ble_eq_true rfl) rfl bf_nil))))) rfl rfl rfl ?_
      refine o_box (by first | exact e_agg rfl) rfl rfl (fun B3 hB3 => ?_)
      refine o_q (q_as ((by first | exact v_raw rfl | exact v_sptr rfl))) rfl rfl rfl ?_
      refine o_q (q_as (v_raw rfl)) rfl rfl rfl ?_
      refine o_nil ?_
      refine s_ret ?_
      refine s_end ?_
      exact ret_many (.inl rfl) rfl (rl_t rfl (rl_t rfl rl_nil)) rfl (.inr ⟨by omega, by omega, B1, B2, B3, o1, o2, hB1, hB2, hB3, hm1, hm2, rfl, rfl⟩)
  · have k1 := h1; try simp only [decide_eq_true_eq, decide_eq_false_iff_not, Bool.not_eq_true', Bool.not_eq_false', Bool.not_true, Bool.not_false, List.length_map, Decidable.not_not] at k1
    refine o_no rfl rfl rfl rfl h1 ?_
    refine o_no rfl rfl rfl rfl h1 ?_
    refine o_q (q_pick_c (t := true) rfl h1 (v_raw rfl)) rfl rfl rfl ?_
    refine o_nil ?_
    refine s_then rfl rfl ?_
    refine s_seq ?_
    refine s_region ?_
    refine o_q (q_as ((by first | exact v_raw rfl | exact v_sptr rfl))) rfl rfl rfl ?_
    refine o_q (q_as (v_raw rfl)) rfl rfl rfl ?_
    refine o_nil ?_
    refine s_ret ?_
    refine s_code_ret ?_
    refine s_end ?_
    exact ret_many (.inl rfl) rfl (rl_t rfl (rl_t rfl rl_nil)) rfl (.inl ⟨by omega, rfl, rfl⟩)

def DS.new (room : Int) : DS := ⟨room, [], [], [], [], -1, false⟩
theorem newOk (M : Mem) (room : Int) (h1 : 0 ≤ room) (h2 : room ≤ 1000000000) (W : Nat → Prop) (hW : ∀ c, W c → M c ≠ none) : SoundCall Try.prog 10 [int room] M fun r M' => ∃ d O W', r = .tup [ptr d, int 0] ∧ DiskAt M' d 0 (DS.new room) O W' ∧ M.le M' ∧ (∀ c, O c → M c = none) ∧ (∀ c, W' c → W c ∨ O c) ∧ ∀ c, W c → W' c :=
  (snd10 M room).nilout fun r M' h => by
    rcases h with ⟨h, -⟩ | ⟨-, -, B1, B2, B3, o1, o2, hB1, hB2, hB3, hm1, hm2, rfl, rfl⟩
    · omega
    · refine .inr ⟨B3, [int room, mapV B1, mapV B2, .raw (.slice none 0 0), int (-1), bool false], 3, Mem.upd_self _ _ _, rfl, B3, (fun c => c = B1 ∨ c = B2 ∨ c = B3), (fun c => W c ∨ c = B1 ∨ c = B2 ∨ c = B3), rfl, ?_, ?_, ?_, fun c hc => hc, fun c hc => .inl hc⟩
      · have n2 : M B2 = none := (Mem.upd_none hB2).2
        have n3 : M B3 = none := (Mem.upd_none (Mem.upd_none hB3).2).2
        have e21 : B2 ≠ B1 := (Mem.upd_none hB2).1
        have e32 : B3 ≠ B2 := (Mem.upd_none hB3).1
        have e31 : B3 ≠ B1 := (Mem.upd_none (Mem.upd_none hB3).2).1
        have hk1 : ∀ o o', ((((M.upd B1 o1).upd B2 o2).upd B3 o).upd B3 o') B1 = (M.upd B1 o1) B1 := fun o o' => (upd_other e31.symm).trans ((upd_other e31.symm).trans (upd_other e21.symm))
        have hk2 : ∀ o o', ((((M.upd B1 o1).upd B2 o2).upd B3 o).upd B3 o') B2 = ((M.upd B1 o1).upd B2 o2) B2 := fun o o' => (upd_other e32.symm).trans (upd_other e32.symm)
        refine ⟨B1, B2, fun _ => 0, [], ?_⟩
        exact { hd := Mem.upd_self _ _ _, mf := ⟨[], hm1.keep (hk1 _ _), List.Perm.refl _⟩, ml := ⟨[], hm2.keep (hk2 _ _), List.Perm.refl _⟩, od := .inr (.inr rfl), orf := .inl rfl, orl := .inr (.inl rfl)
                oi := fun i hi => absurd hi (Nat.not_lt_zero i), inj := fun i j hi => absurd hi (Nat.not_lt_zero i), ow := fun c hc => .inr hc, ne := e21.symm, fa := fun i F hi => (by cases hi), ea := rfl, bx := fun c hc => (by cases hc)
                oc := ⟨rfl, Nat.zero_le _, fun p hp => (by cases hp), List.Pairwise.nil, List.nodup_nil⟩, room := ⟨h1, h2⟩, fuse := (by decide : (-1 : Int) ≤ -1 ∧ (-1 : Int) < 2 ^ 63), na := fun F hF => (by cases hF), ns := Nat.zero_le _
                ok := fun c hc => by
                  by_cases e3 : c = B3
                  · rw [e3, Mem.upd_self]; exact fun h => by cases h
                  · by_cases e2 : c = B2
                    · rw [e2, hk2]; exact hm2.some
                    · by_cases e1 : c = B1
                      · rw [e1, hk1]; exact hm1.some
                      · rw [upd_other e3, upd_other e3, upd_other e2, upd_other e1]
                        exact hW c (hc.resolve_right fun h => h.elim e1 fun h => h.elim e2 e3) }
      · exact Mem.le_upd (Mem.le_upd (Mem.le_upd (Mem.le_upd (Mem.le_refl M) hB1) (Mem.upd_none hB2).2) (Mem.upd_none (Mem.upd_none hB3).2).2) (Mem.upd_none (Mem.upd_none hB3).2).2
      · intro c hc
        rcases hc with e | e | e
        · rw [e]; exact hB1
        · rw [e]; exact (Mem.upd_none hB2).2
        · rw [e]; exact (Mem.upd_none (Mem.upd_none hB3).2).2
theorem newNo (M : Mem) (room : Int) (h : room < 0 ∨ 1000000000 < room) : SoundCall Try.prog 10 [int room] M fun r M' => r = .tup [.raw (.pointer none), int 1] ∧ M' = M :=
  (snd10 M room).mono fun r M' h2 => by
    rcases h2 with ⟨-, h2⟩ | ⟨h3, h4, -⟩
    · exact h2
    · omega

end C04
