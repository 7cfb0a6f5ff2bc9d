import Derived.Test.YtkjdclhhmgjfbaaS04
import Derived.Test.YtkjdclhhmgjfbaaT04
import Derived.Test.YtkjdclhhmgjfbaaK04
/-! Chapter 4: the disk: what its functions compute. -/
open Go Go.Proofs Go.Am
set_option linter.unusedVariables false
set_option linter.unusedSimpArgs false
set_option autoImplicit false
namespace C04
theorem ag24 : aggT Try.prog 24 = some false := by kernel_rfl
theorem ag59 : aggT Try.prog 59 = some false := by kernel_rfl
theorem ag70 : aggT Try.prog 70 = some false := by kernel_rfl
theorem bz68 : (zeroT Try.prog 68).map (fun z => z.cells.toList.map AVal.raw) = some [.raw (.slice none 0 0), .raw (.slice none 0 0), .raw (.slice none 0 0)] := by kernel_rfl
theorem bp68 : (aPlaces Try.prog 68).isSome = true := by kernel_rfl
theorem fo61_2 : fo Try.prog 61 2 = some (2, 1) := by kernel_rfl
theorem fo61_3 : fo Try.prog 61 3 = some (3, 1) := by kernel_rfl
theorem slt59 : SlT Try.prog 59 70 1 8 := ⟨by kernel_rfl, by kernel_rfl, by kernel_rfl, by kernel_rfl, by decide⟩
theorem sz24 : sizeT Try.prog 24 = some 1 := by kernel_rfl
theorem sz59 : sizeT Try.prog 59 = some 1 := by kernel_rfl
theorem sz70 : sizeT Try.prog 70 = some 1 := by kernel_rfl
def tk67 : Nat → Nat → Option Nat
  | 1, 4 => some 0
  | _, _ => none
def pl67 : Nat → List PStep
  | 0 => [.q 0, .q 1, .q 2, .q 3, .q 4, .s 5 [3, 2, 1]]
  | 1 => [.q 0, .q 1, .q 2, .q 3, .q 5, .q 6, .s 4 [6, 5, 2, 1, 0], .q 7, .q 8, .q 9, .s 10 [8]]
  | _ => []
theorem cb67 : Try.f67.body.map (codeB Try.prog Try.f67.ntmps tk67 pl67) = some true := by kernel_rfl
theorem goes67 : goesB Try.prog 67 = true := by kernel_rfl

theorem chg_end {M M1 M' : Mem} {O W : Nat → Prop} {d n rf rl : Nat} {s : DS} {adr : Nat → Nat} {chs : List Ch} (hD : DiskIs M d n rf rl adr s O W chs) (x : Ch) (hx : x.bx M W adr) (h1 : x.c.ok s.dir) (h2 : x.c.lt s.files.length) (h3 : Gd s.files.length (x.c.run s.dir)) (hm1 : DirAt M1 rf adr (x.c.run s.dir)) (hk1 : ∀ c, c ≠ rf → M1 c = M c)
    (hd : M' d = some (.cells [int s.room, mapV rf, mapV rl, .sl ((chs.map fun c : Ch => AVal.raw c.val) ++ [.raw x.val]) true, int s.fuse, bool s.down])) (hk : ∀ c, c ≠ d → M' c = M1 c) : DiskIs M' d (n + 1) rf rl adr (s.chg x.c) O W (chs ++ [x]) ∧ ∀ c, M c ≠ none → ¬ O c → M' c = M c := by
  have hk2 : ∀ c, c ≠ rf → c ≠ d → M' c = M c := fun c e1 e2 => (hk c e2).trans (hk1 c e1)
  have hO : ∀ c, M c ≠ none → ¬ O c → M' c = M c := fun c _ h2 => hk2 c (fun e => h2 (by rw [e]; exact hD.orf)) fun e => h2 (by rw [e]; exact hD.od)
  refine ⟨hD.chg (fun c _ e1 e2 => hk2 c e1 e2) (by rw [hd]; unfold dC; rw [List.map_append]; rfl) (hm1.keep (hk rf hD.dn.1.symm)) (Ch.bx_keep (n := s.files.length) hx (fun c e1 e2 => hO c e1 fun h => e2 (hD.ow c h)) (fun c hc => .inl hc) (fun _ _ => rfl) h2) h1 h2 h3, hO⟩
set_option maxHeartbeats 4000000 in
set_option maxRecDepth 20000 in
theorem snd67 (M : Mem) (d n rf rl : Nat) (adr : Nat → Nat) (s : DS) (O W : Nat → Prop) (chs : List Ch) (hD : DiskIs M d n rf rl adr s O W chs) (hn : n < BIG) (x : Ch) (hx : x.bx M W adr) (h1 : x.c.ok s.dir) (h2 : x.c.lt s.files.length) (h3 : Gd s.files.length (x.c.run s.dir)) (bf bd : Nat) (hbf : M bf = some (.cells [.raw x.val])) (hbd : M bd = some (.cells [ptr d])) : SoundCall Try.prog 67 [ptr bf, ptr bd] M fun _ M' => DiskIs M' d (n + 1) rf rl adr (s.chg x.c) O W (chs ++ [x]) ∧ ∀ c, M c ≠ none → ¬ O c → M' c = M c := by
  have hd := hD.hd
  unfold dC at hd
  have hbig : BIG = 2 ^ 40 := rfl
  have hns := hD.ns
  have hln : chs.length = s.since.length := by rw [← hD.ea, List.length_map]
  obtain ⟨dm, hma, -⟩ := hD.mf
  have hfr : bf ≠ rf := fun e => map_cells hma (e ▸ hbf)
  have hdr : bd ≠ rf := fun e => map_cells hma (e ▸ hbd)
  have hdd := hD.dn.1
  have hbdd : bd ≠ d := fun e => by rw [e, hd] at hbd; cases hbd
  have hbfd : bf ≠ d := fun e => by rw [e, hd] at hbf; cases hbf
  refine SoundCall.go tk67 pl67 mixed Try.func67 cb67 rfl (Nat.le_of_ble_eq_true rfl) ?_
  refine s_seq ?_
  refine s_draw rfl ?_
  refine d_q rfl (q_ldm ag70 sz70 rfl (by repeat first | exact Mem.upd_self _ _ _ | assumption | refine Mem.upd_ne (by assumption) ?_) rfl (v_raw rfl)) rfl rfl rfl ?_
  refine d_q rfl (q_ldm ag24 sz24 rfl (by repeat first | exact Mem.upd_self _ _ _ | assumption | refine Mem.upd_ne (by assumption) ?_) rfl ((by first | exact v_raw rfl | exact v_sptr rfl))) rfl rfl rfl ?_
  refine d_q rfl (q_nil rfl) rfl rfl rfl ?_
  refine d_q rfl (q_fr fo61_1 rfl) rfl rfl rfl ?_
  refine d_q rfl (q_ldm ag58 sz58 rfl (by repeat first | exact Mem.upd_self _ _ _ | assumption | refine Mem.upd_ne (by assumption) ?_) rfl (v_raw rfl)) rfl rfl rfl ?_
  refine d_s rfl ?_
  refine o_callv rfl (run_ch hD.mf (okC_gd hD.oc).2 x hx h1) (ch_goes x.c) (ac (v_raw rfl) ac_nil) rfl rfl ?_
  rintro r M1 ⟨hm1, hk1⟩
  have hd1 := (hk1 d hdd).trans hd
  have hbf1 := (hk1 bf hfr).trans hbf
  have hbd1 := (hk1 bd hdr).trans hbd
  refine o_nil ⟨(by simp [Mem.upd, *]), ?_⟩
  refine d_nil ?_
  refine s_draw rfl ?_
  refine d_q rfl (q_ldm ag24 sz24 rfl (by repeat first | exact Mem.upd_self _ _ _ | assumption | refine Mem.upd_ne (by assumption) ?_) rfl ((by first | exact v_raw rfl | exact v_sptr rfl))) rfl rfl rfl ?_
  refine d_q rfl (q_ldm ag24 sz24 rfl (by repeat first | exact Mem.upd_self _ _ _ | assumption | refine Mem.upd_ne (by assumption) ?_) rfl ((by first | exact v_raw rfl | exact v_sptr rfl))) rfl rfl rfl ?_
  refine d_q rfl (q_nil rfl) rfl rfl rfl ?_
  refine d_q rfl (q_fr fo61_3 rfl) rfl rfl rfl ?_
  refine d_q rfl (q_ldm ag70 sz70 rfl (by repeat first | exact Mem.upd_self _ _ _ | assumption | refine Mem.upd_ne (by assumption) ?_) rfl (v_raw rfl)) rfl rfl rfl ?_
  refine d_q rfl (q_bs slt59 (pc (v_raw rfl) pn) rfl (Els.cons rfl rfl Els.nil) (by decide)) rfl rfl rfl ?_
  refine d_s rfl ?_
  refine o_take rfl rfl (by repeat first | exact Mem.upd_self _ _ _ | assumption | refine Mem.upd_ne (by assumption) ?_) rfl ag59 sz59 ?_
  refine o_nil ⟨(by simp [Mem.upd, *]), ?_⟩
  refine d_qs rfl (q_app slt59 rfl rfl rfl rfl (Els.map fun _ => ⟨rfl, rfl⟩) (by first | exact (Els.map fun _ => ⟨rfl, rfl⟩) | exact Els.cons rfl rfl Els.nil) (by simp; omega)) rfl rfl rfl rfl ?_
  refine d_q rfl (q_nil rfl) rfl rfl rfl ?_
  refine d_q rfl (q_fr fo61_3 rfl) rfl rfl rfl ?_
  refine d_s rfl ?_
  refine o_store_own rfl (by repeat first | exact Mem.upd_self _ _ _ | assumption | refine Mem.upd_ne (by assumption) ?_) rfl sz59 (Nat.le_of_ble_eq_true rfl) ?_
  refine o_nil ⟨(by simp [Mem.upd, *]), ?_⟩
  refine d_nil ?_
  refine s_end ?_
  exact chg_end hD x hx h1 h2 h3 hm1 hk1 (Mem.upd_self _ _ _) (fun c h => (upd_other h).trans (upd_other h))

def tk35 : Nat → Nat → Option Nat := fun _ _ => none
def pl35 : Nat → List PStep := fun _ => []
theorem cb35 : Try.f35.body.map (codeB Try.prog Try.f35.ntmps tk35 pl35) = some true := by kernel_rfl
theorem goes35 : goesB Try.prog 35 = true := by kernel_rfl
set_option maxHeartbeats 4000000 in
set_option maxRecDepth 20000 in
theorem snd35 (M : Mem) (d n rf rl : Nat) (adr : Nat → Nat) (s : DS) (O W : Nat → Prop) (chs : List Ch) (hD : DiskIs M d n rf rl adr s O W chs) (hn : n < BIG) (x : Ch) (hx : x.bx M W adr) (h1 : x.c.ok s.dir) (h2 : x.c.lt s.files.length) (h3 : Gd s.files.length (x.c.run s.dir)) : SoundCall Try.prog 35 [ptr d, .raw x.val] M fun r M' => r = int (s.act fun t => t.chg x.c).1 ∧ Aft M M' d (n + 1) (s.act fun t => t.chg x.c).2 O W := by
  have hd := hD.hd
  unfold dC at hd
  have hbig : BIG = 2 ^ 40 := rfl
  refine SoundCall.go tk35 pl35 mixed Try.func35 cb35 rfl (Nat.le_of_ble_eq_true rfl) ?_
  refine s_seq ?_
  refine s_region ?_
  refine o_box (by first | exact e_raw rfl | exact e_agg rfl | exact e_sl rfl) rfl rfl (fun B1 hB1 => ?_)
  have hm1 : M B1 = none := le_none (by repeat first | exact Mem.le_refl _ | refine leU ?_ (by assumption)) hB1
  have hdB1 : d ≠ B1 := fun e => by rw [e, hm1] at hd; cases hd
  refine o_box (by first | exact e_raw rfl) rfl rfl (fun B2 hB2 => ?_)
  have hm2 : M B2 = none := le_none (by repeat first | exact Mem.le_refl _ | refine leU ?_ (by assumption)) hB2
  have hdB2 : d ≠ B2 := fun e => by rw [e, hm2] at hd; cases hd
  have f1_2 : B1 ≠ B2 := Mem.fresh_ne hB2 (by repeat first | exact Mem.upd_self _ _ _ | assumption | refine Mem.upd_ne (by assumption) ?_)
  refine o_q (q_as (v_raw rfl)) rfl rfl rfl ?_
  refine o_nil ?_
  refine s_seq ?_
  refine s_region ?_
  refine o_q (q_ldm ag24 sz24 rfl (by repeat first | exact Mem.upd_self _ _ _ | assumption | refine Mem.upd_ne (by assumption) ?_) rfl ((by first | exact v_raw rfl | exact v_sptr rfl))) rfl rfl rfl ?_
  refine o_q (q_mkf2 rfl rfl) rfl rfl rfl ?_
  refine o_callx ((snd38 _ d (int s.room) (mapV rf) (mapV rl) (.sl (chs.map fun c : Ch => AVal.raw c.val) true) s.fuse s.down (by repeat first | exact hd | refine Mem.upd_ne (by assumption) ?_) hD.fuse 67 #[] #[ptrV B2, ptrV B1] _ goes67 (fun hfz => snd67 _ d n rf rl adr { s with fuse := tick s.fuse } O W chs ((hD.le (by repeat first | exact Mem.le_refl _ | refine leU ?_ (by assumption))).setd (tick s.fuse) s.down (tick_bd hD.fuse)) hn x (Ch.bx_keep (n := s.files.length) hx (fun c k1 k2 => (upd_other fun e => k2 (by rw [e]; exact hD.ow _ hD.od)).trans (leK (by repeat first | exact Mem.le_refl _ | refine leU ?_ (by assumption)) k1)) (fun c hc => .inl hc) (fun _ _ => rfl) h2) h1 h2 h3 B2 B1 (by repeat first | exact Mem.upd_self _ _ _ | assumption | refine Mem.upd_ne (by first | assumption | exact Ne.symm (by assumption)) ?_) (by repeat first | exact Mem.upd_self _ _ _ | assumption | refine Mem.upd_ne (by first | assumption | exact Ne.symm (by assumption)) ?_)))) goes38 (ac ((by first | exact v_raw rfl | exact v_sptr rfl)) (ac (v_raw rfl) ac_nil)) rfl ?_
  rintro r' M' h38
  obtain ⟨rk, rfl⟩ : ∃ rk, r' = int rk := by rcases h38 with ⟨_, h, _⟩ | ⟨_, h, _⟩ <;> exact ⟨_, h⟩
  refine o_q (q_as (v_raw rfl)) rfl rfl rfl ?_
  refine o_nil ?_
  refine s_ret ?_
  refine s_end ?_
  exact do_end (t := fun t => t.chg x.c) hD (by repeat first | exact Mem.le_refl _ | refine leU ?_ (by assumption)) (Nat.le_succ n) h38 (fun hq => Aft.of hq.1 ⟨hq.2, fun c hc => .inl hc, fun c hc => hc⟩)

def tk11 : Nat → Nat → Option Nat := fun _ _ => none
def pl11 : Nat → List PStep
  | 1 => [.q 0, .q 1, .q 2, .q 3, .q 4, .s 5 [0, 1, 2, 3, 4], .q 6, .q 7, .q 8, .q 9, .q 10]
  | _ => []
theorem cb11 : Try.f11.body.map (codeB Try.prog Try.f11.ntmps tk11 pl11) = some true := by kernel_rfl
theorem goes11 : goesB Try.prog 11 = true := by kernel_rfl

def adrN (s : DS) (adr : Nat → Nat) (B i : Nat) : Nat := if i = s.files.length then B else adr i
theorem adrN_at (s : DS) (adr : Nat → Nat) (B : Nat) : adrN s adr B s.files.length = B := if_pos rfl
theorem adrN_lt {s : DS} {adr : Nat → Nat} {B i : Nat} (h : i < s.files.length) : adrN s adr B i = adr i := if_neg (by omega)
theorem le_new {M1 : Mem} {B2 B3 : Nat} {x y z w : AObj} (h2 : M1 B2 = none) (h3 : (M1.upd B2 x) B3 = none) : (M1.upd B2 w).le ((((M1.upd B2 x).upd B3 y).upd B3 z).upd B2 w) := fun c o hc => by
  by_cases e : c = B2
  · rw [e, Mem.upd_self] at hc ⊢; exact hc
  · rw [upd_other e] at hc ⊢
    have e3 : c ≠ B3 := fun e3 => by rw [← e3] at h3; rw [upd_other e, hc] at h3; cases h3
    rw [upd_other e3, upd_other e3, upd_other e]; exact hc
theorem create_end {M Mc M' : Mem} {O W : Nat → Prop} {d n rf rl B : Nat} {s : DS} {adr : Nat → Nat} {chs : List Ch} {nm : ByteArray} (hD : DiskIs M d n rf rl adr s O W chs) (hB : M B = none) (hle : ∀ c o, M c = some o → Mc c = some o)
    (h : Aft Mc M' d (n + 1) (s.made.act fun t => t.chg (.mk nm s.files.length)).2 (un O (· = B)) (un W (· = B))) : Aft M M' d (n + 1) (s.act fun t => t.made.chg (.mk nm t.files.length)).2 O W := by
  obtain ⟨O', W', h1, h2, h3, h4⟩ := h
  have hn : ∀ c, Mc c = none → M c = none := fun c hc => le_none (show M.le Mc from hle) hc
  have hB' : ∀ c, c = B → M c = none := fun c e => by rw [e]; exact hB
  refine ⟨O', W', ?_, ⟨fun c k1 k2 => ?_, fun c hc => ?_, fun c hc => h2.up c (.inl hc)⟩, fun c hc => ?_, fun c hc => h4 c (.inl hc)⟩
  · unfold DS.act at h1 ⊢
    by_cases e : s.fuse = 0
    · rw [if_pos e]
      rw [if_pos (show s.made.fuse = 0 from e)] at h1
      obtain ⟨rf', rl', adr', chs', h1⟩ := h1
      exact ⟨rf', rl', adr', chs', DiskIs.drop (s := { s with down := true }) (F := fl0) h1 hD.oc⟩
    · rw [if_neg e]
      rw [if_neg (show ¬ s.made.fuse = 0 from e)] at h1
      exact h1
  · have e1 : Mc c = M c := leK (show M.le Mc from hle) k1
    rw [h2.eq c (by rw [e1]; exact k1) fun h => h.elim k2 fun e => k1 (hB' c e), e1]
  · rcases h2.new c hc with (h | h) | h
    · exact .inl h
    · exact .inr (hB' c h)
    · exact .inr (hn c h)
  · rcases h3 c hc with (h | h) | h
    · exact .inl h
    · exact .inr (hB' c h)
    · exact .inr (hn c h)
theorem le_create {M : Mem} {B1 B2 B3 c : Nat} {x1 x2 y z w o : AObj} (hc : M c = some o) (h1 : M B1 = none) (h2 : M B2 = none) (h3 : M B3 = none) : (((((M.upd B1 x1).upd B2 x2).upd B3 y).upd B3 z).upd B2 w) c = some o := by
  have e1 : c ≠ B1 := fun e => by rw [e, h1] at hc; cases hc
  have e2 : c ≠ B2 := fun e => by rw [e, h2] at hc; cases hc
  have e3 : c ≠ B3 := fun e => by rw [e, h3] at hc; cases hc
  rw [upd_other e2, upd_other e3, upd_other e3, upd_other e2, upd_other e1]; exact hc
theorem made_fst (s : DS) (f g : DS → DS) : (s.made.act f).1 = (s.act g).1 := by
  unfold DS.act
  rw [show s.made.fuse = s.fuse from rfl]
  split <;> rfl
set_option maxHeartbeats 4000000 in
set_option maxRecDepth 20000 in
theorem snd11 (M : Mem) (d n rf rl : Nat) (adr : Nat → Nat) (s : DS) (O W : Nat → Prop) (chs : List Ch) (hD : DiskIs M d n rf rl adr s O W chs) (hn : n < BIG) (nm : ByteArray) : SoundCall Try.prog 11 [ptr d, str nm] M fun r M' => r = int (s.create nm).1 ∧ Aft M M' d (n + 1) (s.create nm).2 O W := by
  have hd := hD.hd
  unfold dC at hd
  have hbig : BIG = 2 ^ 40 := rfl
  obtain ⟨dm, hm, hp⟩ := hD.mf
  have hgd := (okC_gd hD.oc).2
  have hg := perm_gets hp hgd.srt nm
  have hiso : (gets dm nm).isSome = (gets s.dir nm).isSome := by rw [hg, Option.isSome_map]
  have hln : dm.length = s.dir.length := by rw [hp.length_eq, List.length_map]
  have hrn := hm.some
  refine SoundCall.go tk11 pl11 mixed Try.func11 cb11 rfl (Nat.le_of_ble_eq_true rfl) ?_
  refine s_seq ?_
  refine s_region ?_
  refine o_box (by first | exact e_raw rfl | exact e_agg rfl | exact e_sl rfl) rfl rfl (fun B1 hB1 => ?_)
  have hm1 : M B1 = none := le_none (by repeat first | exact Mem.le_refl _ | refine leU ?_ (by assumption)) hB1
  have hdB1 : d ≠ B1 := fun e => by rw [e, hm1] at hd; cases hd
  have hrB : rf ≠ B1 := fun e => hrn (e ▸ hm1)
  refine o_q (q_as (v_raw rfl)) rfl rfl rfl ?_
  refine o_nil ?_
  refine s_seq ?_
  refine s_draw rfl ?_
  refine d_q rfl (q_mv ((by first | exact v_raw rfl | exact v_sptr rfl))) rfl rfl rfl ?_
  refine d_q rfl (q_nil rfl) rfl rfl rfl ?_
  refine d_q rfl (q_fr fo61_1 rfl) rfl rfl rfl ?_
  refine d_q rfl (q_ldm ag58 sz58 rfl (by repeat first | exact Mem.upd_self _ _ _ | assumption | refine Mem.upd_ne (by assumption) ?_) rfl (v_raw rfl)) rfl rfl rfl ?_
  refine d_q rfl (q_ldm ag9 sz9 rfl (by repeat first | exact Mem.upd_self _ _ _ | assumption | refine Mem.upd_ne (by assumption) ?_) rfl (v_raw rfl)) rfl rfl rfl ?_
  refine d_s rfl ?_
  refine m_get2 (k := nm) und58 kt9 z62 rfl rfl (by exact hm.keep (upd_other hrB)) ?_
  refine o_nil ⟨(fun _ _ _ => rfl), ?_⟩
  refine d_q rfl (q_mv (v_tup rfl)) rfl rfl rfl ?_
  refine d_q rfl (q_ext rfl rfl ((by first | exact v_raw rfl | exact v_sptr rfl))) rfl rfl rfl ?_
  refine d_q rfl (q_ext rfl rfl (v_raw rfl)) rfl rfl rfl ?_
  refine d_q rfl (q_as ((by first | exact v_raw rfl | exact v_sptr rfl))) rfl rfl rfl ?_
  refine d_q rfl (q_as (v_raw rfl)) rfl rfl rfl ?_
  refine d_nil ?_
  refine s_seq ?_
  refine s_block ?_
  refine s_seq ?_
  refine s_region ?_
  refine o_q (q_mv ((by first | exact v_raw rfl | exact v_sptr rfl))) rfl rfl rfl ?_
  refine o_q (q_nil rfl) rfl rfl rfl ?_
  refine o_q (q_fr fo61_5 rfl) rfl rfl rfl ?_
  refine o_q (q_ldm ag4 sz4 rfl (by repeat first | exact Mem.upd_self _ _ _ | assumption | refine Mem.upd_ne (by assumption) ?_) rfl (v_raw rfl)) rfl rfl rfl ?_
  refine o_q (q_as (v_raw rfl)) rfl rfl rfl ?_
  refine o_nil ?_
  refine s_cond rfl (fun h1 => ?_) (fun h1 => ?_)
  · have k1 := h1; try simp only [decide_eq_true_eq, decide_eq_false_iff_not, Bool.not_eq_true', Bool.not_eq_false', Bool.not_true, Bool.not_false, List.length_map, Decidable.not_not] at k1
    refine s_seq ?_
    refine s_region ?_
    refine o_q (q_as (v_raw rfl)) rfl rfl rfl ?_
    refine o_nil ?_
    refine s_ret ?_
    refine s_blk_ret ?_
    refine s_code_ret ?_
    refine s_end ?_
    have e : s.create nm = (9, s) := by unfold DS.create; rw [if_pos h1]
    exact ⟨by rw [e]; rfl, by rw [e]; exact Aft.same hD (Nat.le_succ n) (by repeat first | exact Mem.le_refl _ | refine leU ?_ (by assumption))⟩
  · have k1 := h1; try simp only [decide_eq_true_eq, decide_eq_false_iff_not, Bool.not_eq_true', Bool.not_eq_false', Bool.not_true, Bool.not_false, List.length_map, Decidable.not_not] at k1
    refine s_seq ?_
    refine s_region ?_
    refine o_q (q_ldm ag9 sz9 rfl (by repeat first | exact Mem.upd_self _ _ _ | assumption | refine Mem.upd_ne (by assumption) ?_) rfl (v_raw rfl)) rfl rfl rfl ?_
    refine o_call ((snd34 nm _)) goes34 (ac (v_raw rfl) ac_nil) rfl ?_
    refine o_q (q_not rfl) rfl rfl rfl ?_
    refine o_q (q_as (v_raw rfl)) rfl rfl rfl ?_
    refine o_nil ?_
    refine s_cond rfl (fun h2 => ?_) (fun h2 => ?_)
    · have k2 := h2; try simp only [decide_eq_true_eq, decide_eq_false_iff_not, Bool.not_eq_true', Bool.not_eq_false', Bool.not_true, Bool.not_false, List.length_map, Decidable.not_not] at k2
      refine s_seq ?_
      refine s_region ?_
      refine o_q (q_as (v_raw rfl)) rfl rfl rfl ?_
      refine o_nil ?_
      refine s_ret ?_
      refine s_blk_ret ?_
      refine s_code_ret ?_
      refine s_end ?_
      have e : s.create nm = (5, s) := by unfold DS.create; rw [if_neg (by simp [h1]), if_pos (by simpa using h2)]
      exact ⟨by rw [e]; rfl, by rw [e]; exact Aft.same hD (Nat.le_succ n) (by repeat first | exact Mem.le_refl _ | refine leU ?_ (by assumption))⟩
    · have k2 := h2; try simp only [decide_eq_true_eq, decide_eq_false_iff_not, Bool.not_eq_true', Bool.not_eq_false', Bool.not_true, Bool.not_false, List.length_map, Decidable.not_not] at k2
      refine s_seq ?_
      refine s_region ?_
      refine o_q (q_mv (v_raw rfl)) rfl rfl rfl ?_
      refine o_q (q_as (v_raw rfl)) rfl rfl rfl ?_
      refine o_nil ?_
      refine s_cond rfl (fun h3 => ?_) (fun h3 => ?_)
      · have k3 := h3; try simp only [decide_eq_true_eq, decide_eq_false_iff_not, Bool.not_eq_true', Bool.not_eq_false', Bool.not_true, Bool.not_false, List.length_map, Decidable.not_not] at k3
        refine s_seq ?_
        refine s_region ?_
        refine o_q (q_as (v_raw rfl)) rfl rfl rfl ?_
        refine o_nil ?_
        refine s_ret ?_
        refine s_blk_ret ?_
        refine s_code_ret ?_
        refine s_end ?_
        have e : s.create nm = (6, s) := by unfold DS.create; rw [if_neg (by simp [h1]), if_neg (by simpa using h2), if_pos (by rw [← hiso]; exact h3)]
        exact ⟨by rw [e]; rfl, by rw [e]; exact Aft.same hD (Nat.le_succ n) (by repeat first | exact Mem.le_refl _ | refine leU ?_ (by assumption))⟩
      · have k3 := h3; try simp only [decide_eq_true_eq, decide_eq_false_iff_not, Bool.not_eq_true', Bool.not_eq_false', Bool.not_true, Bool.not_false, List.length_map, Decidable.not_not] at k3
        refine s_seq ?_
        refine s_region ?_
        refine o_q (q_mv ((by first | exact v_raw rfl | exact v_sptr rfl))) rfl rfl rfl ?_
        refine o_q (q_nil rfl) rfl rfl rfl ?_
        refine o_q (q_fr fo61_1 rfl) rfl rfl rfl ?_
        refine o_q (q_ldm ag58 sz58 rfl (by repeat first | exact Mem.upd_self _ _ _ | assumption | refine Mem.upd_ne (by assumption) ?_) rfl (v_raw rfl)) rfl rfl rfl ?_
        refine m_len rfl und58 rfl (by exact hm.keep (upd_other hrB)) ?_
        refine o_q (q_geq rfl rfl) rfl rfl rfl ?_
        refine o_q (q_as (v_raw rfl)) rfl rfl rfl ?_
        refine o_nil ?_
        refine s_cond rfl (fun h4 => ?_) (fun h4 => ?_)
        · have k4 := h4; try simp only [decide_eq_true_eq, decide_eq_false_iff_not, Bool.not_eq_true', Bool.not_eq_false', Bool.not_true, Bool.not_false, List.length_map, Decidable.not_not] at k4
          refine s_seq ?_
          refine s_region ?_
          refine o_q (q_as (v_raw rfl)) rfl rfl rfl ?_
          refine o_nil ?_
          refine s_ret ?_
          refine s_blk_ret ?_
          refine s_code_ret ?_
          refine s_end ?_
          have e : s.create nm = (8, s) := by unfold DS.create; rw [if_neg (by simp [h1]), if_neg (by simpa using h2), if_neg (by rw [← hiso, h3]; simp), if_pos (by omega)]
          exact ⟨by rw [e]; rfl, by rw [e]; exact Aft.same hD (Nat.le_succ n) (by repeat first | exact Mem.le_refl _ | refine leU ?_ (by assumption))⟩
        · have k4 := h4; try simp only [decide_eq_true_eq, decide_eq_false_iff_not, Bool.not_eq_true', Bool.not_eq_false', Bool.not_true, Bool.not_false, List.length_map, Decidable.not_not] at k4
          refine s_skip ?_
          refine s_blk_normal ?_
          refine s_seq ?_
          refine s_region ?_
          refine o_q (q_b (cs := [.raw (.slice none 0 0), .raw (.slice none 0 0), .raw (.slice none 0 0)]) bz68 bp68 bf_nil) rfl rfl rfl ?_
          refine o_box (by first | exact e_raw rfl | exact e_agg rfl | exact e_sl rfl) rfl rfl (fun B2 hB2 => ?_)
          have hm2 : M B2 = none := le_none (by repeat first | exact Mem.le_refl _ | refine leU ?_ (by assumption)) hB2
          have hdB2 : d ≠ B2 := fun e => by rw [e, hm2] at hd; cases hd
          have f1_2 : B1 ≠ B2 := Mem.fresh_ne hB2 (by repeat first | exact Mem.upd_self _ _ _ | assumption | refine Mem.upd_ne (by assumption) ?_)
          refine o_alloc zc62 (fun B3 hB3 => ?_)
          have hm3 : M B3 = none := le_none (by repeat first | exact Mem.le_refl _ | refine leU ?_ (by assumption)) hB3
          have hdB3 : d ≠ B3 := fun e => by rw [e, hm3] at hd; cases hd
          have f1_3 : B1 ≠ B3 := Mem.fresh_ne hB3 (by repeat first | exact Mem.upd_self _ _ _ | assumption | refine Mem.upd_ne (by assumption) ?_)
          have f2_3 : B2 ≠ B3 := Mem.fresh_ne hB3 (by repeat first | exact Mem.upd_self _ _ _ | assumption | refine Mem.upd_ne (by assumption) ?_)
          refine o_store rfl (by repeat first | exact Mem.upd_self _ _ _ | assumption | refine Mem.upd_ne (by assumption) ?_) (by first | exact e_raw rfl | exact e_agg rfl | exact e_sl rfl | rfl) rfl sz62 rfl (Nat.le_of_ble_eq_true rfl) rfl rfl ?_
          refine o_nil ?_
          refine s_seq ?_
          refine s_region ?_
          refine o_q (q_mv ((by first | exact v_raw rfl | exact v_sptr rfl))) rfl rfl rfl ?_
          refine o_q (q_mkf2 rfl rfl) rfl rfl rfl ?_
          refine o_callx (((SoundCall.nilin (b := B2) (j := 2) (by repeat first | exact Mem.upd_self _ _ _ | assumption | refine Mem.upd_ne (by first | assumption | exact Ne.symm (by assumption)) ?_) rfl (snd35 _ d n rf rl (adrN s adr B2) s.made (un O (· = B2)) (un W (· = B2)) chs ((DiskIs.new (adr' := (adrN s adr B2)) (hD.le (by repeat first | exact Mem.le_refl _ | refine leU ?_ (by assumption))) hB2 ⟨none, rfl, .inl rfl⟩ ⟨none, rfl, .inl rfl⟩ (fun i hi => adrN_lt hi) (adrN_at s adr B2)).le (le_new hB2 hB3)) hn ⟨.mk nm s.files.length, B3, B1⟩ ⟨⟨show _ = some (AObj.cells [ptr (adrN s adr B2 s.files.length)]) by rw [adrN_at]; exact (by repeat first | exact Mem.upd_self _ _ _ | assumption | refine Mem.upd_ne (by first | assumption | exact Ne.symm (by assumption)) ?_), fun h => h.elim (fun h => hD.ok _ h hm3) fun e => f2_3 e.symm⟩, ((upd_other f1_2).trans ((upd_other f1_3).trans ((upd_other f1_3).trans ((upd_other f1_2).trans (Mem.upd_self _ _ _))))), fun h => h.elim (fun h => hD.ok _ h hm1) fun e => f1_2 e⟩ trivial (by show s.files.length < (s.files ++ [fl0]).length; simp) (by show Gd (s.files ++ [fl0]).length _; rw [List.length_append]; exact hgd.make (by simpa using h2) (by omega)))))) goes35 (ac ((by first | exact v_raw rfl | exact v_sptr rfl)) (ac (v_raw rfl) ac_nil)) rfl ?_
          rintro r' M' ⟨rfl, hA⟩
          refine o_q (q_as (v_raw rfl)) rfl rfl rfl ?_
          refine o_nil ?_
          refine s_ret ?_
          refine s_end ?_
          have e : s.create nm = s.act fun t => t.made.chg (.mk nm t.files.length) := by unfold DS.create; rw [if_neg (by simp [h1]), if_neg (by simpa using h2), if_neg (by rw [← hiso, h3]; simp), if_neg (by omega)]
          exact ⟨by rw [e]; exact congrArg int (made_fst s _ _), by rw [e]; exact create_end hD hm2 (fun c o hc => le_create hc hm1 hm2 hm3) hA⟩

def tk19 : Nat → Nat → Option Nat := fun _ _ => none
def pl19 : Nat → List PStep := fun _ => []
theorem cb19 : Try.f19.body.map (codeB Try.prog Try.f19.ntmps tk19 pl19) = some true := by kernel_rfl
theorem goes19 : goesB Try.prog 19 = true := by kernel_rfl
set_option maxHeartbeats 4000000 in
set_option maxRecDepth 20000 in
theorem snd19 (M : Mem) (d n rf rl : Nat) (adr : Nat → Nat) (s : DS) (O W : Nat → Prop) (chs : List Ch) (hD : DiskIs M d n rf rl adr s O W chs) (hn : n < BIG) (nm b : ByteArray) : SoundCall Try.prog 19 [ptr d, str nm, str b] M fun r M' => r = int (s.rename nm b).1 ∧ Aft M M' d (n + 1) (s.rename nm b).2 O W := by
  have hd := hD.hd
  unfold dC at hd
  have hbig : BIG = 2 ^ 40 := rfl
  have hgd := (okC_gd hD.oc).2
  refine SoundCall.go tk19 pl19 mixed Try.func19 cb19 rfl (Nat.le_of_ble_eq_true rfl) ?_
  refine s_seq ?_
  refine s_region ?_
  refine o_box (by first | exact e_raw rfl | exact e_agg rfl | exact e_sl rfl) rfl rfl (fun B1 hB1 => ?_)
  have hm1 : M B1 = none := le_none (by repeat first | exact Mem.le_refl _ | refine leU ?_ (by assumption)) hB1
  have hdB1 : d ≠ B1 := fun e => by rw [e, hm1] at hd; cases hd
  refine o_box (by first | exact e_raw rfl | exact e_agg rfl | exact e_sl rfl) rfl rfl (fun B2 hB2 => ?_)
  have hm2 : M B2 = none := le_none (by repeat first | exact Mem.le_refl _ | refine leU ?_ (by assumption)) hB2
  have hdB2 : d ≠ B2 := fun e => by rw [e, hm2] at hd; cases hd
  have f1_2 : B1 ≠ B2 := Mem.fresh_ne hB2 (by repeat first | exact Mem.upd_self _ _ _ | assumption | refine Mem.upd_ne (by assumption) ?_)
  refine o_q (q_as (v_raw rfl)) rfl rfl rfl ?_
  refine o_nil ?_
  refine s_seq ?_
  refine s_seq ?_
  refine s_region ?_
  refine o_q (q_mv ((by first | exact v_raw rfl | exact v_sptr rfl))) rfl rfl rfl ?_
  refine o_q (q_ldm ag9 sz9 rfl (by repeat first | exact Mem.upd_self _ _ _ | assumption | refine Mem.upd_ne (by assumption) ?_) rfl (v_raw rfl)) rfl rfl rfl ?_
  refine o_call ((snd37 _ d n rf rl adr s O W chs (hD.le (by repeat first | exact Mem.le_refl _ | refine leU ?_ (by assumption))) nm)) goes37 (ac ((by first | exact v_raw rfl | exact v_sptr rfl)) (ac (v_raw rfl) ac_nil)) rfl ?_
  refine o_q (q_mv (v_tup rfl)) rfl rfl rfl ?_
  refine o_q (q_ext rfl rfl ((by first | exact v_raw rfl | exact v_sptr rfl))) rfl rfl rfl ?_
  refine o_q (q_ext rfl rfl (v_raw rfl)) rfl rfl rfl ?_
  refine o_q (q_as ((by first | exact v_raw rfl | exact v_sptr rfl))) rfl rfl rfl ?_
  refine o_q (q_as (v_raw rfl)) rfl rfl rfl ?_
  refine o_nil ?_
  refine s_seq ?_
  refine s_region ?_
  refine o_q (q_mv (v_raw rfl)) rfl rfl rfl ?_
  refine o_q (q_neq rfl rfl) rfl rfl rfl ?_
  refine o_nil ?_
  refine s_cond rfl (fun h1 => ?_) (fun h1 => ?_)
  · have k1 := h1; try simp only [decide_eq_true_eq, decide_eq_false_iff_not, Bool.not_eq_true', Bool.not_eq_false', Bool.not_true, Bool.not_false, List.length_map, Decidable.not_not] at k1
    refine s_seq ?_
    refine s_region ?_
    refine o_q (q_mv (v_raw rfl)) rfl rfl rfl ?_
    refine o_q (q_as (v_raw rfl)) rfl rfl rfl ?_
    refine o_nil ?_
    refine s_ret ?_
    refine s_code_ret ?_
    refine s_end ?_
    have e : s.rename nm b = (s.find nm, s) := onf_no k1 _
    exact ⟨by rw [e]; rfl, by rw [e]; exact Aft.same hD (Nat.le_succ n) (by repeat first | exact Mem.le_refl _ | refine leU ?_ (by assumption))⟩
  · have k1 := h1; try simp only [decide_eq_true_eq, decide_eq_false_iff_not, Bool.not_eq_true', Bool.not_eq_false', Bool.not_true, Bool.not_false, List.length_map, Decidable.not_not] at k1
    obtain ⟨i, hgi, hdn, hfp, hon⟩ := onf_yes k1
    rw [hfp adr]
    refine s_skip ?_
    refine s_seq ?_
    refine s_seq ?_
    refine s_region ?_
    refine o_q (q_ldm ag9 sz9 rfl (by repeat first | exact Mem.upd_self _ _ _ | assumption | refine Mem.upd_ne (by assumption) ?_) rfl (v_raw rfl)) rfl rfl rfl ?_
    refine o_call ((snd34 b _)) goes34 (ac (v_raw rfl) ac_nil) rfl ?_
    refine o_q (q_not rfl) rfl rfl rfl ?_
    refine o_nil ?_
    refine s_cond rfl (fun h2 => ?_) (fun h2 => ?_)
    · have k2 := h2; try simp only [decide_eq_true_eq, decide_eq_false_iff_not, Bool.not_eq_true', Bool.not_eq_false', Bool.not_true, Bool.not_false, List.length_map, Decidable.not_not] at k2
      refine s_seq ?_
      refine s_region ?_
      refine o_q (q_as (v_raw rfl)) rfl rfl rfl ?_
      refine o_nil ?_
      refine s_ret ?_
      refine s_code_ret ?_
      refine s_end ?_
      have e : s.rename nm b = (5, s) := (hon _).trans (if_pos (by simpa using h2))
      exact ⟨by rw [e]; rfl, by rw [e]; exact Aft.same hD (Nat.le_succ n) (by repeat first | exact Mem.le_refl _ | refine leU ?_ (by assumption))⟩
    · have k2 := h2; try simp only [decide_eq_true_eq, decide_eq_false_iff_not, Bool.not_eq_true', Bool.not_eq_false', Bool.not_true, Bool.not_false, List.length_map, Decidable.not_not] at k2
      refine s_skip ?_
      refine s_seq ?_
      refine s_region ?_
      refine o_q (q_mv ((by first | exact v_raw rfl | exact v_sptr rfl))) rfl rfl rfl ?_
      refine o_q (q_mkf2 rfl rfl) rfl rfl rfl ?_
      refine o_callx ((snd35 _ d n rf rl adr s O W chs (hD.le (by repeat first | exact Mem.le_refl _ | refine leU ?_ (by assumption))) hn ⟨.mv nm b, B1, B2⟩ ⟨⟨(by repeat first | exact Mem.upd_self _ _ _ | assumption | refine Mem.upd_ne (by first | assumption | exact Ne.symm (by assumption)) ?_), fun h => hD.ok _ h hm1⟩, (by repeat first | exact Mem.upd_self _ _ _ | assumption | refine Mem.upd_ne (by first | assumption | exact Ne.symm (by assumption)) ?_), fun h => hD.ok _ h hm2⟩ (by rw [Dc.ok, hgi]; rfl) trivial (by show Gd _ (insS (delS s.dir nm) b ((gets s.dir nm).getD 0)); rw [hgi]; exact hgd.move hgi (by simpa using h2)))) goes35 (ac ((by first | exact v_raw rfl | exact v_sptr rfl)) (ac (v_raw rfl) ac_nil)) rfl ?_
      rintro r' M' ⟨rfl, hA⟩
      refine o_q (q_as (v_raw rfl)) rfl rfl rfl ?_
      refine o_nil ?_
      refine s_ret ?_
      refine s_end ?_
      have e : s.rename nm b = s.act fun t => t.chg (.mv nm b) := (hon _).trans (if_neg (by simpa using h2))
      exact ⟨by rw [e]; rfl, by rw [e]; exact Aft.pre hD (by repeat first | exact Mem.le_refl _ | refine leU ?_ (by assumption)) (fun c _ _ => rfl) (fun c h => h) hA⟩

def tk27 : Nat → Nat → Option Nat := fun _ _ => none
def pl27 : Nat → List PStep := fun _ => []
theorem cb27 : Try.f27.body.map (codeB Try.prog Try.f27.ntmps tk27 pl27) = some true := by kernel_rfl
theorem goes27 : goesB Try.prog 27 = true := by kernel_rfl
set_option maxHeartbeats 4000000 in
set_option maxRecDepth 20000 in
theorem snd27 (M : Mem) (d n rf rl : Nat) (adr : Nat → Nat) (s : DS) (O W : Nat → Prop) (chs : List Ch) (hD : DiskIs M d n rf rl adr s O W chs) (hn : n < BIG) (nm : ByteArray) : SoundCall Try.prog 27 [ptr d, str nm] M fun r M' => r = int (s.remove nm).1 ∧ Aft M M' d (n + 1) (s.remove nm).2 O W := by
  have hd := hD.hd
  unfold dC at hd
  have hbig : BIG = 2 ^ 40 := rfl
  have hgd := (okC_gd hD.oc).2
  refine SoundCall.go tk27 pl27 mixed Try.func27 cb27 rfl (Nat.le_of_ble_eq_true rfl) ?_
  refine s_seq ?_
  refine s_region ?_
  refine o_box (by first | exact e_raw rfl | exact e_agg rfl | exact e_sl rfl) rfl rfl (fun B1 hB1 => ?_)
  have hm1 : M B1 = none := le_none (by repeat first | exact Mem.le_refl _ | refine leU ?_ (by assumption)) hB1
  have hdB1 : d ≠ B1 := fun e => by rw [e, hm1] at hd; cases hd
  refine o_q (q_as (v_raw rfl)) rfl rfl rfl ?_
  refine o_nil ?_
  refine s_seq ?_
  refine s_seq ?_
  refine s_region ?_
  refine o_q (q_mv ((by first | exact v_raw rfl | exact v_sptr rfl))) rfl rfl rfl ?_
  refine o_q (q_ldm ag9 sz9 rfl (by repeat first | exact Mem.upd_self _ _ _ | assumption | refine Mem.upd_ne (by assumption) ?_) rfl (v_raw rfl)) rfl rfl rfl ?_
  refine o_call ((snd37 _ d n rf rl adr s O W chs (hD.le (by repeat first | exact Mem.le_refl _ | refine leU ?_ (by assumption))) nm)) goes37 (ac ((by first | exact v_raw rfl | exact v_sptr rfl)) (ac (v_raw rfl) ac_nil)) rfl ?_
  refine o_q (q_mv (v_tup rfl)) rfl rfl rfl ?_
  refine o_q (q_ext rfl rfl ((by first | exact v_raw rfl | exact v_sptr rfl))) rfl rfl rfl ?_
  refine o_q (q_ext rfl rfl (v_raw rfl)) rfl rfl rfl ?_
  refine o_q (q_as ((by first | exact v_raw rfl | exact v_sptr rfl))) rfl rfl rfl ?_
  refine o_q (q_as (v_raw rfl)) rfl rfl rfl ?_
  refine o_nil ?_
  refine s_seq ?_
  refine s_region ?_
  refine o_q (q_mv (v_raw rfl)) rfl rfl rfl ?_
  refine o_q (q_neq rfl rfl) rfl rfl rfl ?_
  refine o_nil ?_
  refine s_cond rfl (fun h1 => ?_) (fun h1 => ?_)
  · have k1 := h1; try simp only [decide_eq_true_eq, decide_eq_false_iff_not, Bool.not_eq_true', Bool.not_eq_false', Bool.not_true, Bool.not_false, List.length_map, Decidable.not_not] at k1
    refine s_seq ?_
    refine s_region ?_
    refine o_q (q_mv (v_raw rfl)) rfl rfl rfl ?_
    refine o_q (q_as (v_raw rfl)) rfl rfl rfl ?_
    refine o_nil ?_
    refine s_ret ?_
    refine s_code_ret ?_
    refine s_end ?_
    have e : s.remove nm = (s.find nm, s) := onf_no k1 _
    exact ⟨by rw [e]; rfl, by rw [e]; exact Aft.same hD (Nat.le_succ n) (by repeat first | exact Mem.le_refl _ | refine leU ?_ (by assumption))⟩
  · have k1 := h1; try simp only [decide_eq_true_eq, decide_eq_false_iff_not, Bool.not_eq_true', Bool.not_eq_false', Bool.not_true, Bool.not_false, List.length_map, Decidable.not_not] at k1
    obtain ⟨i, hgi, hdn, hfp, hon⟩ := onf_yes k1
    rw [hfp adr]
    refine s_skip ?_
    refine s_seq ?_
    refine s_region ?_
    refine o_q (q_mv ((by first | exact v_raw rfl | exact v_sptr rfl))) rfl rfl rfl ?_
    refine o_q (q_mkf1 rfl) rfl rfl rfl ?_
    refine o_callx ((snd35 _ d n rf rl adr s O W chs (hD.le (by repeat first | exact Mem.le_refl _ | refine leU ?_ (by assumption))) hn ⟨.rm nm, B1, 0⟩ ⟨(by repeat first | exact Mem.upd_self _ _ _ | assumption | refine Mem.upd_ne (by first | assumption | exact Ne.symm (by assumption)) ?_), fun h => hD.ok _ h hm1⟩ trivial trivial (hgd.del nm))) goes35 (ac ((by first | exact v_raw rfl | exact v_sptr rfl)) (ac (v_raw rfl) ac_nil)) rfl ?_
    rintro r' M' ⟨rfl, hA⟩
    refine o_q (q_as (v_raw rfl)) rfl rfl rfl ?_
    refine o_nil ?_
    refine s_ret ?_
    refine s_end ?_
    have e : s.remove nm = s.act fun t => t.chg (.rm nm) := hon _
    exact ⟨by rw [e]; rfl, by rw [e]; exact Aft.pre hD (by repeat first | exact Mem.le_refl _ | refine leU ?_ (by assumption)) (fun c _ _ => rfl) (fun c h => h) hA⟩

def tk44 : Nat → Nat → Option Nat := fun _ _ => none
def pl44 : Nat → List PStep := fun _ => []
theorem cb44 : Try.f44.body.map (codeB Try.prog Try.f44.ntmps tk44 pl44) = some true := by kernel_rfl
theorem goes44 : goesB Try.prog 44 = true := by kernel_rfl
set_option maxHeartbeats 4000000 in
set_option maxRecDepth 20000 in
theorem snd44 (M : Mem) (r : Nat) (dm : List (ByteArray × Nat)) (hM : MapAt ptrV M r dm) : SoundCall Try.prog 44 [mapV r] M fun q M' => ∃ b, ∃ o, M b = none ∧ q = mapV b ∧ M' = M.upd b o ∧ MapAt ptrV M' b dm := by
  obtain ⟨clk, lf, hm⟩ := hM
  refine SoundCall.go tk44 pl44 mixed Try.func44 cb44 rfl (Nat.le_of_ble_eq_true rfl) ?_
  refine s_seq ?_
  refine s_region ?_
  refine o_q (q_as (v_raw rfl)) rfl rfl rfl ?_
  refine o_nil ?_
  refine s_seq ?_
  refine s_seq ?_
  refine s_region ?_
  refine o_q (q_mv (v_raw rfl)) rfl rfl rfl ?_
  refine o_q (q_meql und58 rfl rfl) rfl rfl rfl ?_
  refine o_nil ?_
  refine s_cond rfl (fun h1 => ?_) (fun h1 => ?_)
  · have k1 := h1; try simp only [decide_eq_true_eq, decide_eq_false_iff_not, Bool.not_eq_true', Bool.not_eq_false', Bool.not_true, Bool.not_false, List.length_map, Decidable.not_not] at k1
    cases h1
  · have k1 := h1; try simp only [decide_eq_true_eq, decide_eq_false_iff_not, Bool.not_eq_true', Bool.not_eq_false', Bool.not_true, Bool.not_false, List.length_map, Decidable.not_not] at k1
    refine s_skip ?_
    refine s_seq ?_
    refine s_region ?_
    refine o_q (q_mv (v_raw rfl)) rfl rfl rfl ?_
    refine x_iface und58 (fun ms h => by cases h) rfl ?_
    refine x_clone (clk := clk) Try.func69 (by kernel_rfl) rfl (by kernel_rfl) (by kernel_rfl) rfl hm.hM (fun B1 hB1 => ?_)
    refine x_assert und58 rfl ?_
    refine o_q (q_as (v_raw rfl)) rfl rfl rfl ?_
    refine o_nil ?_
    refine s_ret ?_
    refine s_end ?_
    exact ⟨B1, _, hB1, rfl, rfl, clk, lf, { hm with hM := Mem.upd_self _ _ _ }⟩

def tk43 : Nat → Nat → Option Nat := fun _ _ => none
def pl43 : Nat → List PStep
  | 0 => [.q 0, .q 1, .q 2, .q 3, .q 4, .q 5, .s 6 [4, 3, 2, 1, 0], .q 7, .q 8, .s 9 [7, 1], .q 10, .q 11, .s 12 [10]]
  | _ => []
theorem cb43 : Try.f43.body.map (codeB Try.prog Try.f43.ntmps tk43 pl43) = some true := by kernel_rfl
theorem goes43 : goesB Try.prog 43 = true := by kernel_rfl

theorem Aft.up {M M' : Mem} {O W : Nat → Prop} {d n : Nat} {s : DS} (h : Aft M M' d n s O W) : Aft M M' d (n + 1) s O W := by
  obtain ⟨O', W', ⟨rf, rl, adr, chs, h1⟩, h2⟩ := h
  exact ⟨O', W', ⟨rf, rl, adr, chs, h1.up (Nat.le_succ n)⟩, h2⟩
theorem sync_end {M M1 M' : Mem} {O W : Nat → Prop} {d n rf rl B : Nat} {s : DS} {adr : Nat → Nat} {chs : List Ch} {dm : List (ByteArray × Nat)} {o : AObj} (hD : DiskIs M d n rf rl adr s O W chs) (hB : M B = none) (h1 : M1 = M.upd B o) (hma : MapAt ptrV M1 B dm) (hp : dm.Perm (s.dir.map fun p => (p.1, adr p.2)))
    (hd : M' d = some (.cells [int s.room, mapV rf, mapV B, .sl [] true, int s.fuse, bool s.down])) (hk : ∀ c, c ≠ d → M' c = M1 c) : Aft M M' d n { s with lst := s.dir, since := [] } O W := by
  have hne : ∀ c, M c ≠ none → c ≠ B := fun c h e => h (by rw [e]; exact hB)
  have hk2 : ∀ c, M c ≠ none → c ≠ d → M' c = M c := fun c e1 e2 => by rw [hk c e2, h1]; exact upd_other (hne c e1)
  have hO : ∀ c, M c ≠ none → ¬ O c → M' c = M c := fun c e1 h2 => hk2 c e1 fun e => h2 (by rw [e]; exact hD.od)
  have hW : ∀ c, un W (· = B) c → W c ∨ M c = none := fun c hc => hc.imp id fun e => by rw [e]; exact hB
  have hN : ∀ c, M c ≠ none → ¬ W c → M' c = M c := fun c e1 e2 => hO c e1 fun h => e2 (hD.ow c h)
  have hw : ∀ c, W c → c ≠ d → M' c = M c := fun c h1 => hk2 c (hD.ok c h1)
  have hBd : B ≠ d := fun e => hD.ok d (hD.ow _ hD.od) (by rw [← e]; exact hB)
  refine ⟨un O (· = B), un W (· = B), ⟨rf, B, adr, [], { hD with
    hd := hd
    mf := hD.mf.keep (hw rf (hD.ow _ hD.orf) hD.dn.1.symm)
    ml := ⟨dm, hma.keep (hk B hBd), hp⟩
    od := .inl hD.od
    orf := .inl hD.orf
    orl := .inr rfl
    oi := fun i hi => .inl (hD.oi i hi)
    ow := fun c hc => hc.imp (hD.ow c) id
    ok := fun c hc => by
      by_cases e : c = d
      · rw [e, hd]; exact fun h => by cases h
      · rcases hc with hc | hc
        · rw [hw c hc e]; exact hD.ok c hc
        · rw [hc, hk B hBd]; exact hma.some
    ne := hne rf (hD.ok _ (hD.ow _ hD.orf))
    fa := fun i F hi => (hD.fa i F hi).keep hN hW (hw _ (hD.ow _ (hD.oi i (List.getElem?_eq_some_iff.1 hi).1)) (hD.dn.2.2 i (List.getElem?_eq_some_iff.1 hi).1).1)
    ea := rfl
    bx := fun c hc => by cases hc
    oc := ⟨rfl, (okC_gd hD.oc).2⟩
    ns := Nat.zero_le _ }⟩, ⟨hO, fun c hc => hc.imp id fun e => by rw [e]; exact hB, fun c hc => .inl hc⟩, hW, fun c hc => .inl hc⟩
set_option maxHeartbeats 4000000 in
set_option maxRecDepth 20000 in
theorem snd43 (M : Mem) (d n rf rl : Nat) (adr : Nat → Nat) (s : DS) (O W : Nat → Prop) (chs : List Ch) (hD : DiskIs M d n rf rl adr s O W chs) (bd : Nat) (hbd : M bd = some (.cells [ptr d])) : SoundCall Try.prog 43 [ptr bd] M fun _ M' => Aft M M' d n { s with lst := s.dir, since := [] } O W := by
  have hd := hD.hd
  unfold dC at hd
  obtain ⟨dm, hm, hp⟩ := hD.mf
  have hbdd : bd ≠ d := fun e => by rw [e, hd] at hbd; cases hbd
  refine SoundCall.go tk43 pl43 mixed Try.func43 cb43 rfl (Nat.le_of_ble_eq_true rfl) ?_
  refine s_draw rfl ?_
  refine d_q rfl (q_ldm ag24 sz24 rfl (by repeat first | exact Mem.upd_self _ _ _ | assumption | refine Mem.upd_ne (by assumption) ?_) rfl ((by first | exact v_raw rfl | exact v_sptr rfl))) rfl rfl rfl ?_
  refine d_q rfl (q_ldm ag24 sz24 rfl (by repeat first | exact Mem.upd_self _ _ _ | assumption | refine Mem.upd_ne (by assumption) ?_) rfl ((by first | exact v_raw rfl | exact v_sptr rfl))) rfl rfl rfl ?_
  refine d_q rfl (q_ldm ag24 sz24 rfl (by repeat first | exact Mem.upd_self _ _ _ | assumption | refine Mem.upd_ne (by assumption) ?_) rfl ((by first | exact v_raw rfl | exact v_sptr rfl))) rfl rfl rfl ?_
  refine d_q rfl (q_nil rfl) rfl rfl rfl ?_
  refine d_q rfl (q_fr fo61_1 rfl) rfl rfl rfl ?_
  refine d_q rfl (q_ldm ag58 sz58 rfl (by repeat first | exact Mem.upd_self _ _ _ | assumption | refine Mem.upd_ne (by assumption) ?_) rfl (v_raw rfl)) rfl rfl rfl ?_
  refine d_s rfl ?_
  refine o_callx ((snd44 M rf dm hm)) goes44 (ac (v_raw rfl) ac_nil) rfl ?_
  rintro q M1 ⟨B1, o1, hB1, rfl, hM1, hma⟩
  have hd1 : M1 d = M d := by rw [hM1]; exact upd_other fun e => by rw [e, hB1] at hd; cases hd
  rw [hd] at hd1
  have hbd1 : M1 bd = some (.cells [ptr d]) := by rw [hM1]; exact (upd_other fun e => by rw [e, hB1] at hbd; cases hbd).trans hbd
  have hbB : bd ≠ B1 := fun e => by rw [e, hB1] at hbd; cases hbd
  have hdB : d ≠ B1 := fun e => by rw [e, hB1] at hd; cases hd
  refine o_nil ⟨(by simp [Mem.upd, *]), ?_⟩
  refine d_q rfl (q_nil rfl) rfl rfl rfl ?_
  refine d_q rfl (q_fr fo61_2 rfl) rfl rfl rfl ?_
  refine d_s rfl ?_
  refine o_store rfl (by repeat first | exact Mem.upd_self _ _ _ | assumption | refine Mem.upd_ne (by assumption) ?_) (by first | exact e_raw rfl | exact e_agg rfl | exact e_sl rfl | rfl) rfl sz58 rfl (Nat.le_of_ble_eq_true rfl) rfl rfl ?_
  refine o_nil ⟨(by simp [Mem.upd, *]), ?_⟩
  refine d_q rfl (q_nil rfl) rfl rfl rfl ?_
  refine d_q rfl (q_fr fo61_3 rfl) rfl rfl rfl ?_
  refine d_s rfl ?_
  refine o_store_nil rfl (Mem.upd_self _ _ _) sz59 (Nat.le_of_ble_eq_true rfl) ?_
  refine o_nil ⟨(by simp [Mem.upd, *]), ?_⟩
  refine d_nil ?_
  refine s_end ?_
  exact sync_end hD hB1 hM1 hma hp (Mem.upd_self _ _ _) (fun c h => (upd_other h).trans (upd_other h))

def tk14 : Nat → Nat → Option Nat := fun _ _ => none
def pl14 : Nat → List PStep := fun _ => []
theorem cb14 : Try.f14.body.map (codeB Try.prog Try.f14.ntmps tk14 pl14) = some true := by kernel_rfl
theorem goes14 : goesB Try.prog 14 = true := by kernel_rfl
set_option maxHeartbeats 4000000 in
set_option maxRecDepth 20000 in
theorem snd14 (M : Mem) (d n rf rl : Nat) (adr : Nat → Nat) (s : DS) (O W : Nat → Prop) (chs : List Ch) (hD : DiskIs M d n rf rl adr s O W chs) (hn : n < BIG) : SoundCall Try.prog 14 [ptr d] M fun r M' => r = int s.dirsync.1 ∧ Aft M M' d (n + 1) s.dirsync.2 O W := by
  have hd := hD.hd
  unfold dC at hd
  have hbig : BIG = 2 ^ 40 := rfl
  refine SoundCall.go tk14 pl14 mixed Try.func14 cb14 rfl (Nat.le_of_ble_eq_true rfl) ?_
  refine s_seq ?_
  refine s_region ?_
  refine o_box (by first | exact e_raw rfl | exact e_agg rfl | exact e_sl rfl) rfl rfl (fun B1 hB1 => ?_)
  have hm1 : M B1 = none := le_none (by repeat first | exact Mem.le_refl _ | refine leU ?_ (by assumption)) hB1
  have hdB1 : d ≠ B1 := fun e => by rw [e, hm1] at hd; cases hd
  refine o_q (q_as (v_raw rfl)) rfl rfl rfl ?_
  refine o_nil ?_
  refine s_seq ?_
  refine s_seq ?_
  refine s_region ?_
  refine o_q (q_ldm ag24 sz24 rfl (by repeat first | exact Mem.upd_self _ _ _ | assumption | refine Mem.upd_ne (by assumption) ?_) rfl ((by first | exact v_raw rfl | exact v_sptr rfl))) rfl rfl rfl ?_
  refine o_q (q_nil rfl) rfl rfl rfl ?_
  refine o_q (q_fr fo61_5 rfl) rfl rfl rfl ?_
  refine o_q (q_ldm ag4 sz4 rfl (by repeat first | exact Mem.upd_self _ _ _ | assumption | refine Mem.upd_ne (by assumption) ?_) rfl (v_raw rfl)) rfl rfl rfl ?_
  refine o_nil ?_
  refine s_cond rfl (fun h1 => ?_) (fun h1 => ?_)
  · have k1 := h1; try simp only [decide_eq_true_eq, decide_eq_false_iff_not, Bool.not_eq_true', Bool.not_eq_false', Bool.not_true, Bool.not_false, List.length_map, Decidable.not_not] at k1
    refine s_seq ?_
    refine s_region ?_
    refine o_q (q_as (v_raw rfl)) rfl rfl rfl ?_
    refine o_nil ?_
    refine s_ret ?_
    refine s_code_ret ?_
    refine s_end ?_
    have e : s.dirsync = (9, s) := by unfold DS.dirsync; rw [if_pos h1]
    exact ⟨by rw [e]; rfl, by rw [e]; exact Aft.same hD (Nat.le_succ n) (by repeat first | exact Mem.le_refl _ | refine leU ?_ (by assumption))⟩
  · have k1 := h1; try simp only [decide_eq_true_eq, decide_eq_false_iff_not, Bool.not_eq_true', Bool.not_eq_false', Bool.not_true, Bool.not_false, List.length_map, Decidable.not_not] at k1
    refine s_skip ?_
    refine s_seq ?_
    refine s_region ?_
    refine o_q (q_ldm ag24 sz24 rfl (by repeat first | exact Mem.upd_self _ _ _ | assumption | refine Mem.upd_ne (by assumption) ?_) rfl ((by first | exact v_raw rfl | exact v_sptr rfl))) rfl rfl rfl ?_
    refine o_q (q_mkf1 rfl) rfl rfl rfl ?_
    refine o_callx ((snd38 _ d (int s.room) (mapV rf) (mapV rl) (.sl (chs.map fun c : Ch => AVal.raw c.val) true) s.fuse s.down (by repeat first | exact hd | refine Mem.upd_ne (by assumption) ?_) hD.fuse 43 #[] #[ptrV B1] _ goes43 (fun hfz => (snd43 _ d n rf rl adr { s with fuse := tick s.fuse } O W chs ((hD.le (by repeat first | exact Mem.le_refl _ | refine leU ?_ (by assumption))).setd (tick s.fuse) s.down (tick_bd hD.fuse)) B1 (by repeat first | exact Mem.upd_self _ _ _ | assumption | refine Mem.upd_ne (by first | assumption | exact Ne.symm (by assumption)) ?_))))) goes38 (ac ((by first | exact v_raw rfl | exact v_sptr rfl)) (ac (v_raw rfl) ac_nil)) rfl ?_
    rintro r' M' h38
    obtain ⟨rk, rfl⟩ : ∃ rk, r' = int rk := by rcases h38 with ⟨_, h, _⟩ | ⟨_, h, _⟩ <;> exact ⟨_, h⟩
    refine o_q (q_as (v_raw rfl)) rfl rfl rfl ?_
    refine o_nil ?_
    refine s_ret ?_
    refine s_end ?_
    have e : s.dirsync = s.act fun t => { t with lst := t.dir, since := [] } := by unfold DS.dirsync; rw [if_neg (by simp [h1])]
    have hr := do_end (t := fun t : DS => { t with lst := t.dir, since := [] }) hD (by repeat first | exact Mem.le_refl _ | refine leU ?_ (by assumption)) (Nat.le_succ n) h38 (fun hq => hq.up)
    exact ⟨by rw [e]; exact hr.1, by rw [e]; exact hr.2⟩
end C04
