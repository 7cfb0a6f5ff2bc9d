import Derived.Test.YtphenhkofjbeoaaAm22
set_option linter.unusedVariables false
/-! An effect hangs on the operands, and on memory, alone. -/
namespace Go.Am
set_option linter.unusedSimpArgs false
section
variable {P : Program} {o : Oper} {T T' : Nat → AVal} {M : Mem} {tk : Option Nat}

theorem aParts_congr : ∀ (parts : List (Nat × Operand)) (k : Nat), (∀ p ∈ parts, ev T p.2 = ev T' p.2) → aParts T k parts = aParts T' k parts
  | [], _, _ => rfl
  | (i, x) :: rest, k, h => by
    simp only [aParts]
    rw [h (i, x) (by simp), aParts_congr rest (k + 1) fun p hp => h p (by simp [hp])]

theorem aArgs_congr {mv : Option Nat} : ∀ (xs : List Operand) (k : Nat), (∀ x ∈ xs, ev T x = ev T' x) → aArgs T mv k xs = aArgs T' mv k xs
  | [], _, _ => rfl
  | x :: xs, k, h => by
    simp only [aArgs]
    rw [h x (by simp), aArgs_congr xs (k + 1) fun y hy => h y (by simp [hy])]

theorem map_ev_congr {xs : List Operand} (h : ∀ x ∈ xs, ev T x = ev T' x) : xs.map (ev T) = xs.map (ev T') := List.map_congr_left h

theorem aBound_congr {d : Nat} {x : Option Operand} (h : ∀ y ∈ x.toList, ev T y = ev T' y) : aBound T d x = aBound T' d x := by
  cases x with
  | none => rfl
  | some y => simp only [aBound]; rw [h y (by simp)]

theorem mapM_ev_congr {x : Option Operand} (h : ∀ y ∈ x.toList, ev T y = ev T' y) : (x.mapM fun y => rawOf (ev T y)) = x.mapM fun y => rawOf (ev T' y) := by
  cases x with
  | none => rfl
  | some y => simp only [Option.mapM_some]; rw [h y (by simp)]

theorem aop_congr {ty : TypeId} {op : Op} (h : ∀ x ∈ op.operands.toList, ev T x = ev T' x) : aop P T M ty op = aop P T' M ty op := by
  cases op <;> simp only [aop] <;> simp only [Op.operands] at h
  case pick c x y => rw [h c (by simp), h x (by simp), h y (by simp)]
  case load t x => rw [h x (by simp)]
  case nilCheck x => rw [h x (by simp)]
  case binOp op t x y yt => rw [h x (by simp), h y (by simp)]
  case unOp op t x => rw [h x (by simp)]
  case convert s d x => rw [h x (by simp)]
  case makeInterface t x => rw [h x (by simp)]
  case makeFunc fn first cap =>
    rw [map_ev_congr (xs := first.toList) fun x hx => h x (by simp; exact .inl (by simpa using hx)), map_ev_congr (xs := cap.toList) fun x hx => h x (by simp; exact .inr (by simpa using hx))]
  case slice t x lo hi mx =>
    have hl : ∀ y ∈ lo.toList, ev T y = ev T' y := fun y hy => h y (by simp at hy ⊢; simp [hy])
    have hh : ∀ y ∈ hi.toList, ev T y = ev T' y := fun y hy => h y (by simp at hy ⊢; simp [hy])
    have hm : ∀ y ∈ mx.toList, ev T y = ev T' y := fun y hy => h y (by simp at hy ⊢; simp [hy])
    unfold aSlice
    rw [h x (by simp)]
    rw [mapM_ev_congr hl, mapM_ev_congr hh, mapM_ev_congr hm]
    simp only [aBound_congr hl, aBound_congr hh, aBound_congr hm]
  case fieldAddr t x f => rw [h x (by simp)]
  case field t x f => rw [h x (by simp)]
  case indexAddr t x ix => rw [h x (by simp), h ix (by simp)]
  case index t x ix => rw [h x (by simp), h ix (by simp)]
  case extract x i => rw [h x (by simp)]
  case build t parts =>
    unfold aBuild
    have : (parts.toList.map fun (i, x) => (i, ev T x)) = parts.toList.map fun (i, x) => (i, ev T' x) := by
      apply List.map_congr_left
      rintro ⟨i, x⟩ hp
      dsimp only
      rw [h x (by simp only [List.mem_map]; exact ⟨(i, x), hp, rfl⟩)]
    rw [this]
  case lookup t m k ok => rw [h m (by simp), h k (by simp)]
  case call c =>
    obtain ⟨callee, args, argTypes⟩ := c
    cases callee <;> simp only []
    rename_i b
    rw [map_ev_congr (xs := args.toList) fun x hx => h x (by simp [Call.operands]; simpa using hx)]

theorem estep_mono {N N' : Eff → Prop} (hN : ∀ e, (e.lz = none ∨ e.lz = lzOf tk o) → N e → N' e) (h : estep P tk o T M N) : estep P tk o T M N' := by
  have dflt : ∀ op, o.op = op → (match aop P T M o.type op with | some V => N ⟨none, M, V.shut⟩ | none => False) → (match aop P T M o.type op with | some V => N' ⟨none, M, V.shut⟩ | none => False) := fun op _ h => by
    split at h
    · exact hN _ (.inl rfl) h
    · exact h.elim
  unfold estep at h ⊢
  unfold lzOf at hN
  cases hop : o.op <;> rw [hop] at h hN <;> try exact dflt _ hop h
  case move x =>
    dsimp only at h hN ⊢
    split at h
    · rename_i ht
      rw [if_pos ht] at hN ⊢
      exact hN _ (.inr rfl) h
    · rename_i ht
      rw [if_neg ht]
      exact hN _ (.inl rfl) h
  case assign x =>
    dsimp only at h hN ⊢
    split at h
    · rename_i ht
      rw [if_pos ht] at hN ⊢
      exact hN _ (.inr rfl) h
    · rename_i ht
      rw [if_neg ht]
      exact hN _ (.inl rfl) h
  case convert s d x =>
    refine h.imp (dflt _ hop) fun h => ?_
    unfold eS2B at h ⊢
    split at h
    · exact ⟨h.1, fun b cap hb hc => hN _ (.inl rfl) (h.2 b cap hb hc)⟩
    · exact h.elim
  case binOp op t x y t' =>
    refine h.imp (dflt _ hop) fun h => ?_
    unfold eNil at h ⊢
    split at h
    · exact ⟨h.1, h.2.1, fun b hb => hN _ (.inl rfl) (h.2.2 b hb)⟩
    · exact ⟨h.1, h.2.1, fun b h1 h2 => hN _ (.inl rfl) (h.2.2 b h1 h2)⟩
    · exact h.elim
  case extract x i =>
    dsimp only at h hN ⊢
    split at h
    · rename_i ht
      rw [if_pos ht] at hN ⊢
      split at h
      · split at h
        · exact hN _ (.inr rfl) h
        · exact h.elim
      · exact h.elim
    · rename_i ht
      rw [if_neg ht]
      exact dflt _ hop h
  case range t x =>
    dsimp only [eRange] at h ⊢
    split at h
    · exact fun b hb => hN _ (.inl rfl) (h b hb)
    · exact h.elim
  case next i str =>
    dsimp only [eNext] at h ⊢
    split at h
    · split at h
      · split at h
        · rename_i hlt; rw [if_pos hlt]; exact hN _ (.inl rfl) h
        · rename_i hlt; rw [if_neg hlt]; exact hN _ (.inl rfl) h
      · exact h.elim
    · exact h.elim
  case store t p x =>
    dsimp only [eStore] at h hN ⊢
    split at h
    · split at h
      · refine ⟨h.1, h.2.1, h.2.2.1, ?_⟩
        have h4 := h.2.2.2
        split at h4
        · exact hN _ (.inr rfl) h4
        · exact hN _ (.inl rfl) h4
      · exact h.elim
    · exact h.elim
  case alloc t =>
    dsimp only at h ⊢
    split at h
    · exact fun b hb => hN _ (.inl rfl) (h b hb)
    · exact h.elim
  case box t x => exact ⟨h.1, fun b hb => hN _ (.inl rfl) (h.2 b hb)⟩
  case buildSlice t len parts =>
    dsimp only [eBuildSlice] at h ⊢
    split at h
    · split at h
      · exact ⟨h.1, h.2.1, h.2.2.1, h.2.2.2.1, hN _ (.inl rfl) h.2.2.2.2⟩
      · exact h.elim
    · exact h.elim
  case makeMap t r =>
    cases r with
    | none => exact fun b hb => hN _ (.inl rfl) (h b hb)
    | some r => exact dflt (.makeMap t (some r)) hop h
  case makeSlice t l c =>
    dsimp only [eMakeSlice] at h ⊢
    split at h
    · split at h
      · exact ⟨h.1, h.2.1, h.2.2.1, h.2.2.2.1, h.2.2.2.2.1, h.2.2.2.2.2.1, fun b hb => hN _ (.inl rfl) (h.2.2.2.2.2.2 b hb)⟩
      · exact h.elim
    · exact h.elim
  case mapUpdate t m k x =>
    dsimp only [eMapUpdate] at h ⊢
    split at h
    · split at h
      · split at h
        · exact ⟨h.1, hN _ (.inl rfl) h.2⟩
        · exact h.elim
      · exact h.elim
    · exact h.elim
  case insert t m k x =>
    dsimp only [eMapUpdate] at h ⊢
    split at h
    · split at h
      · split at h
        · exact ⟨h.1, hN _ (.inl rfl) h.2⟩
        · exact h.elim
      · exact h.elim
    · exact h.elim
  case load t x =>
    dsimp only at h ⊢
    cases tk with
    | none => exact dflt (.load t x) hop h
    | some k =>
      dsimp only [eTake] at h ⊢
      split at h
      · split at h
        · split at h
          · exact ⟨h.1, h.2.1, hN _ (.inl rfl) h.2.2⟩
          · exact h.elim
        · exact h.elim
      · exact h.elim
  case call c =>
    obtain ⟨callee, args, argTypes⟩ := c
    cases callee with
    | value F =>
      dsimp only [eCall] at h hN ⊢
      split at h
      · obtain ⟨h1, h2, h3, Post, h4, h5⟩ := h
        exact ⟨h1, h2, h3, Post, h4, fun r M' hq => hN _ (.inr rfl) (h5 r M' hq)⟩
      · exact h.elim
    | invoke r m => exact dflt (.call ⟨.invoke r m, args, argTypes⟩) hop h
    | builtin b =>
      cases b
      case cap => exact dflt (.call ⟨.builtin .cap, args, argTypes⟩) hop h
      case clear => exact dflt (.call ⟨.builtin .clear, args, argTypes⟩) hop h
      case close => exact dflt (.call ⟨.builtin .close, args, argTypes⟩) hop h
      case complex => exact dflt (.call ⟨.builtin .complex, args, argTypes⟩) hop h
      case copy => exact dflt (.call ⟨.builtin .copy, args, argTypes⟩) hop h
      case imag => exact dflt (.call ⟨.builtin .imag, args, argTypes⟩) hop h
      case len => exact dflt (.call ⟨.builtin .len, args, argTypes⟩) hop h
      case make => exact dflt (.call ⟨.builtin .make, args, argTypes⟩) hop h
      case max => exact dflt (.call ⟨.builtin .max, args, argTypes⟩) hop h
      case min => exact dflt (.call ⟨.builtin .min, args, argTypes⟩) hop h
      case new => exact dflt (.call ⟨.builtin .new, args, argTypes⟩) hop h
      case panic => exact dflt (.call ⟨.builtin .panic, args, argTypes⟩) hop h
      case print => exact dflt (.call ⟨.builtin .print, args, argTypes⟩) hop h
      case println => exact dflt (.call ⟨.builtin .println, args, argTypes⟩) hop h
      case real => exact dflt (.call ⟨.builtin .real, args, argTypes⟩) hop h
      case recover => exact dflt (.call ⟨.builtin .recover, args, argTypes⟩) hop h
      case unsafeAdd => exact dflt (.call ⟨.builtin .unsafeAdd, args, argTypes⟩) hop h
      case unsafeSlice => exact dflt (.call ⟨.builtin .unsafeSlice, args, argTypes⟩) hop h
      case unsafeSliceData => exact dflt (.call ⟨.builtin .unsafeSliceData, args, argTypes⟩) hop h
      case unsafeString => exact dflt (.call ⟨.builtin .unsafeString, args, argTypes⟩) hop h
      case unsafeStringData => exact dflt (.call ⟨.builtin .unsafeStringData, args, argTypes⟩) hop h
      case unsafeSizeof => exact dflt (.call ⟨.builtin .unsafeSizeof, args, argTypes⟩) hop h
      case unsafeAlignof => exact dflt (.call ⟨.builtin .unsafeAlignof, args, argTypes⟩) hop h
      case unsafeOffsetof => exact dflt (.call ⟨.builtin .unsafeOffsetof, args, argTypes⟩) hop h
      case append =>
        dsimp only at h hN ⊢
        split at h
        · rename_i x y hargs
          refine ⟨h.1, ?_⟩
          have h2 := h.2
          split at h2
          · refine hN _ (.inr ?_) h2
            rw [hargs]; rfl
          · exact h2.elim
        · exact h.elim
      case delete =>
        dsimp only [eDelete] at h ⊢
        split at h
        · split at h
          · split at h
            · split at h
              · exact hN _ (.inl rfl) h
              · exact h.elim
            · exact h.elim
          · exact h.elim
        · exact h.elim

theorem estep_congr {N : Eff → Prop} (hE : ∀ x ∈ o.op.operands.toList, ev T x = ev T' x) (h : estep P tk o T M N) : estep P tk o T' M N := by
  have dflt : ∀ op, o.op = op → (match aop P T M o.type op with | some V => N ⟨none, M, V.shut⟩ | none => False) → (match aop P T' M o.type op with | some V => N ⟨none, M, V.shut⟩ | none => False) := fun op hop h => by
    rw [← aop_congr (by rw [← hop]; exact hE)]; exact h
  unfold estep at h ⊢
  cases hop : o.op <;> rw [hop] at h <;> try exact dflt _ hop h
  all_goals (have hE' := hE; rw [hop] at hE'; simp only [Op.operands] at hE')
  case move x => dsimp only at h ⊢; rw [← hE' x (by simp)]; exact h
  case assign x => dsimp only at h ⊢; rw [← hE' x (by simp)]; exact h
  case convert s d x =>
    refine h.imp (dflt _ hop) fun h => ?_
    rw [← hE' x (by simp)]; exact h
  case binOp op t x y t' =>
    refine h.imp (dflt _ hop) fun h => ?_
    rw [← hE' x (by simp)]; exact h
  case extract x i =>
    dsimp only at h ⊢
    split at h
    · rename_i ht
      rw [if_pos ht, ← hE' x (by simp)]; exact h
    · rename_i ht
      rw [if_neg ht]; exact dflt _ hop h
  case range t x => dsimp only at h ⊢; rw [← hE' x (by simp)]; exact h
  case next i str => dsimp only at h ⊢; rw [← hE' i (by simp)]; exact h
  case store t p x => dsimp only at h ⊢; rw [← hE' p (by simp), ← hE' x (by simp)]; exact h
  case alloc t => exact h
  case box t x => dsimp only at h ⊢; rw [← hE' x (by simp)]; exact h
  case buildSlice t len parts =>
    dsimp only [eBuildSlice] at h ⊢
    rw [← aParts_congr (T := T) (T' := T') parts.toList 0 fun p hp => hE' p.2 (by simp only [List.mem_map]; exact ⟨p, hp, rfl⟩)]
    exact h
  case makeMap t r =>
    cases r with
    | none => exact h
    | some r => exact dflt (.makeMap t (some r)) hop h
  case makeSlice t l c => dsimp only at h ⊢; rw [← hE' l (by simp), ← hE' c (by simp)]; exact h
  case mapUpdate t m k x => dsimp only at h ⊢; rw [← hE' m (by simp), ← hE' k (by simp), ← hE' x (by simp)]; exact h
  case insert t m k x => dsimp only at h ⊢; rw [← hE' m (by simp), ← hE' k (by simp), ← hE' x (by simp)]; exact h
  case load t x =>
    dsimp only at h ⊢
    cases tk with
    | none => exact dflt (.load t x) hop h
    | some k => dsimp only at h ⊢; rw [← hE' x (by simp)]; exact h
  case call c =>
    obtain ⟨callee, args, argTypes⟩ := c
    cases callee with
    | value F =>
      dsimp only [eCall] at h ⊢
      rw [← hE' F (by simp [Call.operands]), ← aArgs_congr (T := T) (T' := T') args.toList 0 fun x hx => hE' x (by simp [Call.operands]; right; simpa using hx)]
      exact h
    | invoke r m => exact dflt (.call ⟨.invoke r m, args, argTypes⟩) hop h
    | builtin b =>
      cases b
      case cap => exact dflt (.call ⟨.builtin .cap, args, argTypes⟩) hop h
      case clear => exact dflt (.call ⟨.builtin .clear, args, argTypes⟩) hop h
      case close => exact dflt (.call ⟨.builtin .close, args, argTypes⟩) hop h
      case complex => exact dflt (.call ⟨.builtin .complex, args, argTypes⟩) hop h
      case copy => exact dflt (.call ⟨.builtin .copy, args, argTypes⟩) hop h
      case imag => exact dflt (.call ⟨.builtin .imag, args, argTypes⟩) hop h
      case len => exact dflt (.call ⟨.builtin .len, args, argTypes⟩) hop h
      case make => exact dflt (.call ⟨.builtin .make, args, argTypes⟩) hop h
      case max => exact dflt (.call ⟨.builtin .max, args, argTypes⟩) hop h
      case min => exact dflt (.call ⟨.builtin .min, args, argTypes⟩) hop h
      case new => exact dflt (.call ⟨.builtin .new, args, argTypes⟩) hop h
      case panic => exact dflt (.call ⟨.builtin .panic, args, argTypes⟩) hop h
      case print => exact dflt (.call ⟨.builtin .print, args, argTypes⟩) hop h
      case println => exact dflt (.call ⟨.builtin .println, args, argTypes⟩) hop h
      case real => exact dflt (.call ⟨.builtin .real, args, argTypes⟩) hop h
      case recover => exact dflt (.call ⟨.builtin .recover, args, argTypes⟩) hop h
      case unsafeAdd => exact dflt (.call ⟨.builtin .unsafeAdd, args, argTypes⟩) hop h
      case unsafeSlice => exact dflt (.call ⟨.builtin .unsafeSlice, args, argTypes⟩) hop h
      case unsafeSliceData => exact dflt (.call ⟨.builtin .unsafeSliceData, args, argTypes⟩) hop h
      case unsafeString => exact dflt (.call ⟨.builtin .unsafeString, args, argTypes⟩) hop h
      case unsafeStringData => exact dflt (.call ⟨.builtin .unsafeStringData, args, argTypes⟩) hop h
      case unsafeSizeof => exact dflt (.call ⟨.builtin .unsafeSizeof, args, argTypes⟩) hop h
      case unsafeAlignof => exact dflt (.call ⟨.builtin .unsafeAlignof, args, argTypes⟩) hop h
      case unsafeOffsetof => exact dflt (.call ⟨.builtin .unsafeOffsetof, args, argTypes⟩) hop h
      case append =>
        dsimp only at h ⊢
        split at h
        · rename_i x y hargs
          rw [← hE' x (by simp [Call.operands, ← Array.mem_toList_iff, hargs]), ← hE' y (by simp [Call.operands, ← Array.mem_toList_iff, hargs])]
          exact h
        · exact h.elim
      case delete =>
        dsimp only at h ⊢
        split at h
        · rename_i x y t hargs ht
          rw [← hE' x (by simp [Call.operands, ← Array.mem_toList_iff, hargs]), ← hE' y (by simp [Call.operands, ← Array.mem_toList_iff, hargs])]
          exact h
        · exact h.elim

theorem eAppR_mono {P : Program} {argTypes : Array TypeId} {X Y : AVal} {M : Mem} {N N' : Mem → AVal → Prop} (hN : ∀ M1 V, N M1 V → N' M1 V) (h : eAppR P argTypes X Y M N) : eAppR P argTypes X Y M N' := by
  obtain ⟨Y', st, e, zv, h1, h2, h3, h4, h5, h⟩ := h
  refine ⟨Y', st, e, zv, h1, h2, h3, h4, h5, ?_⟩
  rcases h with ⟨hX, ys, g1, g2, g3⟩ | ⟨b, off, n, c, hX, l, ys, g1, g2, g3, g4, g5, g6, g7, g8⟩
  · exact .inl ⟨hX, ys, g1, g2, fun base c M1 k1 k2 => hN _ _ (g3 base c M1 k1 k2)⟩
  · exact .inr ⟨b, off, n, c, hX, l, ys, g1, g2, g3, g4, g5, g6, fun k => hN _ _ (g7 k), fun k b' c' k1 k2 => hN _ _ (g8 k b' c' k1 k2)⟩

theorem eExact_mono {P : Program} {o : Oper} {T : Nat → AVal} {M : Mem} {N N' : Mem → AVal → Prop} (hN : ∀ M1 V, N M1 V → N' M1 V) (h : eExact P o T M N) : eExact P o T M N' := fun ρ w h1 h2 h3 => by
  rcases h ρ w h1 h2 h3 with ⟨v, V, g1, g2, g3⟩ | ⟨v, V, r, ob, ob', n, g1, g2, g3, g4, g5⟩ | ⟨r, ob, ob', g1, g2, g3, g4⟩ | ⟨v, ob', g1, g2, g3⟩
  · exact .inl ⟨v, V, g1, g2, hN _ _ g3⟩
  · exact .inr (.inl ⟨v, V, r, ob, ob', n, g1, g2, g3, g4, hN _ _ g5⟩)
  · exact .inr (.inr (.inl ⟨r, ob, ob', g1, g2, g3, hN _ _ g4⟩))
  · exact .inr (.inr (.inr ⟨v, ob', g1, g2, hN _ _ g3⟩))

theorem xstep_mono {P : Program} {o : Oper} {T : Nat → AVal} {M : Mem} {N N' : Mem → AVal → Prop} (hN : ∀ M1 V, N M1 V → N' M1 V) (h : xstep P o T M N) : xstep P o T M N' := by
  unfold xstep at h ⊢
  refine h.imp (eExact_mono hN) fun h => ?_
  split at h
  · split at h
    · refine ⟨h.1, h.2.imp (eAppR_mono hN) fun h => ?_⟩
      obtain ⟨Y', ys, h1, h2, h3, h4⟩ := h
      exact ⟨Y', ys, h1, h2, h3, hN _ _ h4⟩
    · exact h.elim
  · split at h
    · obtain ⟨st, e, zv, h1, h2, h3, h4, h⟩ := h
      refine ⟨st, e, zv, h1, h2, h3, h4, ?_⟩
      rcases h with ⟨base, c, hX, hK⟩ | ⟨b, off, n, c, l, hX, hn, hb, hle, hK⟩
      · exact .inl ⟨base, c, hX, hN _ _ hK⟩
      · exact .inr ⟨b, off, n, c, l, hX, hn, hb, hle, hN _ _ hK⟩
    · exact h.elim
  · exact h.elim

theorem dstep_mono {P : Program} {tk : Option Nat} {o : Oper} {S : St} {K K' : St → Prop} (hK : ∀ S', K S' → K' S') (h : dstep P tk o S K) : dstep P tk o S K' :=
  h.imp (estep_mono fun e _ he => hK _ he) (xstep_mono fun M1 V he => hK _ he)

theorem xstep_congr {P : Program} {o : Oper} {T T' : Nat → AVal} {M : Mem} {N : Mem → AVal → Prop} (hT : ∀ x ∈ o.op.operands.toList, ev T x = ev T' x) (h : xstep P o T M N) : xstep P o T' M N := by
  unfold xstep at h ⊢
  refine h.imp (fun h ρ w h1 h2 h3 => h ρ w (fun x hx v hv => h1 x hx v (by rw [← hT x hx]; exact hv)) h2 h3) fun h => ?_
  split at h
  · rename_i args argTypes hop
    split at h
    · rename_i x y hargs
      have e1 : ∀ z ∈ [x, y], ev T z = ev T' z := fun z hz => hT z (by
        rw [hop]
        have : z ∈ args.toList := by rw [hargs]; exact hz
        simp only [Op.operands, Call.operands]
        simpa using this)
      rw [← e1 x (by simp), ← e1 y (by simp)]
      exact h
    · exact h.elim
  · rename_i args argTypes hop
    split at h
    · rename_i x hargs
      have e1 : ev T x = ev T' x := hT x (by
        rw [hop]
        have : x ∈ args.toList := by rw [hargs]; exact List.mem_singleton.2 rfl
        simp only [Op.operands, Call.operands]
        simpa using this)
      rw [← e1]
      exact h
    · exact h.elim
  · exact h.elim

end
end Go.Am
