import Derived.Test.YtphenhkofjbeoaaAm7
namespace Go.Am
section
variable {P : Program} {κ : Ghost} {w : World}

theorem rawsOf_rep : ∀ (xs : List AVal) (us vs : List Value), rawsOf xs = some us → xs.length = vs.length → (∀ (i : Nat) X v, xs[i]? = some X → vs[i]? = some v → Rep P κ w X v) → vs = us
  | [], us, vs, h, hl, _ => by
    have : vs = [] := by cases vs <;> simp_all
    subst this
    simpa [rawsOf] using h
  | X :: xs, us, vs, h, hl, hr => by
    cases vs with
    | nil => simp at hl
    | cons v vs =>
      unfold rawsOf at h
      rw [List.mapM_cons] at h
      cases hx : rawOf X with
      | none => rw [hx] at h; cases h
      | some u =>
        rw [hx] at h
        simp only [Option.bind_eq_bind, Option.bind_some] at h
        cases hxs : xs.mapM rawOf with
        | none => rw [hxs] at h; cases h
        | some us' =>
          rw [hxs] at h
          obtain rfl := Option.some.inj h
          rw [rawOf_rep hx (hr 0 X v rfl rfl), rawsOf_rep xs us' vs hxs (by simpa using hl) fun i X v h1 h2 => hr (i + 1) X v (by simpa using h1) (by simpa using h2)]

theorem rawsOf_ev {T : Nat → AVal} {a : Act} (hT : ∀ t, Rep P κ w (T t) (a.eval (.tmp t))) {xs : Array Operand} {us : List Value} (h : rawsOf (xs.toList.map (ev T)) = some us) : xs.map a.eval = us.toArray := by
  have := rawsOf_rep (P := P) (κ := κ) (w := w) _ us (xs.toList.map a.eval) h (by simp) fun i X v h1 h2 => by
    simp only [List.getElem?_map, Option.map_eq_some_iff] at h1 h2
    obtain ⟨x, e1, rfl⟩ := h1
    obtain ⟨y, e2, rfl⟩ := h2
    rw [e1] at e2
    obtain rfl := Option.some.inj e2
    exact ev_rep hT _
  apply Array.ext'
  rw [Array.toList_map, this]

theorem run_invoke_builtin {b : Builtin} {argTypes : Array TypeId} {ty : TypeId} {consts : Array Bool} {args : Array Value} {s : Sem Value} {v : Value} {w' : World}
    (hb : builtin b argTypes ty consts args = (do pure (.value (← s)) : Sem Next)) (hs : s.run P w = .ok v w') : (invoke { target := .builtin b argTypes ty consts, args : Deferred }.target args).run P w = .ok (.value v) w' := by
  show (builtin b argTypes ty consts args).run P w = _
  rw [hb]
  exact run_val hs

theorem run_aBuiltin {T : Nat → AVal} {a : Act} (hT : ∀ t, Rep P κ w (T t) (a.eval (.tmp t))) {M : Mem} (hM : ∀ b o, M b = some o → RepO P κ w b o) {b : Builtin} {argTypes : Array TypeId} {ty : TypeId} {consts : Array Bool} {args : Array Operand} {V : AVal}
    (h : aBuiltin P M b argTypes ty (args.toList.map (ev T)) = some V) : ∃ u, (builtin b argTypes ty consts (args.map a.eval)).run P w = .ok (.value u) w ∧ Rep P κ w V u := by
  have plain : ∀ (f : Array Value → Sem Value), (rawsOf (args.toList.map (ev T))).bind (fun vs => (pr P (f vs.toArray)).map .raw) = some V → ∃ u, (do pure (Next.value (← f (args.map a.eval))) : Sem Next).run P w = .ok (.value u) w ∧ Rep P κ w V u := by
    intro f h
    simp only [Option.bind_eq_some_iff, Option.map_eq_some_iff] at h
    obtain ⟨us, h1, u, h2, rfl⟩ := h
    rw [rawsOf_ev hT h1]
    exact ⟨u, run_val (pr_run h2 w), .raw u⟩
  unfold aBuiltin at h
  split at h
  · -- len
    have one1 : ∀ X, args.toList.map (ev T) = [X] → ∃ x, args = #[x] ∧ X = ev T x := fun X e => by
      have hl := congrArg List.length e
      simp only [List.length_map, Array.length_toList, List.length_singleton] at hl
      obtain ⟨x, hx⟩ := Array.size_eq_one_iff.1 hl
      subst hx
      simp only [List.map_cons, List.map_nil, List.cons.injEq, and_true] at e
      exact ⟨x, rfl, e.symm⟩
    split at h
    · rename_i l own he
      obtain ⟨x, rfl, hX⟩ := one1 _ he
      have hx := ev_rep hT x
      rw [← hX] at hx
      split at h
      · rename_i e hu
        obtain rfl := Option.some.inj h
        simp only [Option.bind_eq_some_iff] at hu
        obtain ⟨t, ht, hu⟩ := hu
        refine ⟨.int .i64 l.length, ?_, .raw _⟩
        rw [show Array.map a.eval #[x] = #[a.eval x] from by simp]
        refine run_val (s := Builtin.len_ argTypes ty #[a.eval x]) ?_
        simp only [Builtin.len_, ht]
        show ((underlying t) >>= _).run P w = _
        rw [run_bind_pr (pr_underlying hu)]
        generalize a.eval x = v at hx
        cases hx <;> rfl
      · cases h
    · rename_i r he
      obtain ⟨x, rfl, hX⟩ := one1 _ he
      have hx := ev_rep hT x
      rw [← hX] at hx
      split at h
      · rename_i kt et es hu hMr
        obtain rfl := Option.some.inj h
        simp only [Option.bind_eq_some_iff] at hu
        obtain ⟨t, ht, hu⟩ := hu
        obtain ⟨ents, clock, h1, h2, -, -, -⟩ := hM r _ hMr
        refine ⟨.int .i64 es.length, ?_, .raw _⟩
        rw [show Array.map a.eval #[x] = #[a.eval x] from by simp]
        refine run_val (s := Builtin.len_ argTypes ty #[a.eval x]) ?_
        simp only [Builtin.len_, ht]
        show ((underlying t) >>= _).run P w = _
        rw [run_bind_pr (pr_underlying hu), rep_raw hx]
        show ((getObj r) >>= _).run P w = _
        rw [run_getObj h1, ← h2]; rfl
      · cases h
    · rename_i v hne he
      obtain ⟨x, rfl, hX⟩ := one1 _ he
      have hx := ev_rep hT x
      rw [← hX] at hx
      simp only [Option.map_eq_some_iff] at h
      obtain ⟨u, h1, rfl⟩ := h
      refine ⟨u, ?_, .raw u⟩
      rw [show Array.map a.eval #[x] = #[a.eval x] from by simp]
      refine run_val (s := Builtin.len_ argTypes ty #[a.eval x]) ?_
      rw [rep_raw hx]
      exact pr_run h1 w
    · cases h
  · exact plain (Builtin.max_ argTypes ty) h
  · exact plain (Builtin.min_ argTypes ty) h
  · exact plain (Builtin.complex_ argTypes ty) h
  · exact plain (Builtin.real_ argTypes ty) h
  · exact plain (Builtin.imag_ argTypes ty) h
  · cases h

theorem mapM_u8 : ∀ (cs : List AVal) (bs : List UInt8), cs.mapM u8of = some bs → ∀ vs : List Value, cs.length = vs.length → (∀ (i : Nat) c v, cs[i]? = some c → vs[i]? = some v → Rep P κ w c v) →
    ∃ ns : List Int, vs = ns.map (Value.int .u8) ∧ bs = ns.map fun n => UInt8.ofNat n.toNat
  | [], bs, h, vs, hl, _ => by
    have : vs = [] := by cases vs <;> simp_all
    subst this
    have : bs = [] := by simpa using h.symm
    subst this
    exact ⟨[], rfl, rfl⟩
  | c :: cs, bs, h, vs, hl, hr => by
    cases vs with
    | nil => simp at hl
    | cons v vs =>
      rw [List.mapM_cons] at h
      cases hu : u8of c with
      | none => rw [hu] at h; cases h
      | some u =>
        rw [hu] at h
        simp only [Option.bind_eq_bind, Option.bind_some] at h
        cases hm : cs.mapM u8of with
        | none => rw [hm] at h; cases h
        | some us =>
          rw [hm] at h
          obtain rfl := Option.some.inj h
          obtain ⟨ns, e1, e2⟩ := mapM_u8 cs us hm vs (by simpa using hl) fun i c v h1 h2 => hr (i + 1) c v (by simpa using h1) (by simpa using h2)
          have h0 := hr 0 c v rfl rfl
          unfold u8of at hu
          split at hu
          · rename_i n
            obtain rfl := Option.some.inj hu
            have hv : v = .int .u8 n := by cases h0; rfl
            exact ⟨n :: ns, by rw [hv, e1]; rfl, by rw [e2]; rfl⟩
          · cases hu

theorem run_bytes {f : Value → ByteArray → Sem (ForInStep ByteArray)} (hf : ∀ n s, f (.int .u8 n) s = pure (ForInStep.yield (s.push (UInt8.ofNat n.toNat)))) (ns : List Int) : ∀ s : ByteArray, (forIn (ns.map (Value.int .u8)) s f).run P w = .ok ⟨s.data ++ (ns.map fun n => UInt8.ofNat n.toNat).toArray⟩ w := by
  induction ns with
  | nil => intro s; simp only [List.map_nil, List.forIn_nil]; show Result.ok s w = _; simp
  | cons n ns ih =>
    intro s
    rw [List.map_cons, List.forIn_cons, hf]
    rw [Sem.run_bind, Sem.run_pure, Result.andThen_ok]
    dsimp only
    rw [ih]
    congr 1
    apply ByteArray.ext
    show (s.data.push _) ++ _ = s.data ++ _
    simp

theorem run_b2s {l : List Value} {ns : List Int} {a : Addr} {n c : Nat} (hl : (loadCells a n).run P w = .ok l.toArray w) (hns : l = ns.map (Value.int .u8)) : (Conv.bytesToString (.slice (some a) n c)).run P w = .ok (.string ⟨(ns.map fun n => UInt8.ofNat n.toNat).toArray⟩) w := by
  unfold Conv.bytesToString
  show ((loadCells a n) >>= _).run P w = _
  rw [Sem.run_bind, hl, Result.andThen_ok, Sem.run_bind]
  subst hns
  simp only [List.forIn_toArray]
  rw [run_bytes (fun _ _ => rfl), Result.andThen_ok]
  show Result.ok _ w = _
  congr 2
  apply ByteArray.ext
  show (#[] : Array UInt8) ++ _ = _
  simp

theorem convert_b2s {s d : TypeId} {v : Value} (h : b2s P s d = true) (hv : ∃ a n c, v = .slice a n c) : (convert s d v).run P w = (Conv.bytesToString v).run P w := by
  obtain ⟨a, n, c, rfl⟩ := hv
  unfold b2s at h
  split at h
  · rename_i e hs hd
    split at h
    · rename_i he
      show ((underlying s) >>= _).run P w = _
      rw [run_bind_pr (pr_underlying hs)]
      show ((underlying d) >>= _).run P w = _
      rw [run_bind_pr (pr_underlying hd)]
      show ((underlying e) >>= _).run P w = _
      rw [run_bind_pr (pr_underlying he)]
    · cases h
  · cases h

theorem run_aConvert {M : Mem} (hM : ∀ b o, M b = some o → RepO P κ w b o) {s d : TypeId} {X V : AVal} {v : Value} (hv : Rep P κ w X v) (h : aConvert P M s d X = some V) : ∃ u, (convert s d v).run P w = .ok u w ∧ Rep P κ w V u := by
  unfold aConvert at h
  split at h
  · rename_i l own
    split at h
    · rename_i hb
      unfold aStr at h
      simp only [Option.map_eq_some_iff] at h
      obtain ⟨bs, h1, rfl⟩ := h
      cases hv with
      | nil =>
        have : bs = [] := by simpa using h1.symm
        subst this
        refine ⟨.string .empty, ?_, .raw _⟩
        rw [convert_b2s hb ⟨_, _, _, rfl⟩]; rfl
      | sl _ _ b off cap sz cv hcap hsz hk hw hr ho =>
        have hf : flat l = l := by
          have : ∀ (l : List AVal) bs, l.mapM u8of = some bs → flat l = l := by
            intro l
            induction l with
            | nil => intro _ _; rfl
            | cons c cs ih =>
              intro bs h
              rw [List.mapM_cons] at h
              cases hu : u8of c with
              | none => rw [hu] at h; cases h
              | some u =>
                rw [hu] at h
                simp only [Option.bind_eq_bind, Option.bind_some] at h
                cases hm : cs.mapM u8of with
                | none => rw [hm] at h; cases h
                | some us =>
                  have e := ih us hm
                  unfold flat at e ⊢
                  rw [List.flatMap_cons, e]
                  unfold u8of at hu
                  split at hu
                  · rfl
                  · cases hu
          exact this l bs h1
        rw [hf] at hw hr
        have hld := run_loadCells (P := P) (w := w) (b := b) (o := off) (n := l.length) cv hw
        obtain ⟨ns, e1, e2⟩ := mapM_u8 (P := P) (κ := κ) (w := w) l bs h1 ((List.range l.length).map cv) (by simp) fun i c v h2 h3 => by
          rw [List.getElem?_map] at h3
          simp only [Option.map_eq_some_iff] at h3
          obtain ⟨j, h3, rfl⟩ := h3
          have : j = i := by
            have := List.getElem?_eq_some_iff.1 h3
            obtain ⟨_, e⟩ := this
            simpa using e.symm
          subst this
          exact hr _ c h2
        refine ⟨.string ⟨bs.toArray⟩, ?_, .raw _⟩
        rw [convert_b2s hb ⟨_, _, _, rfl⟩, run_b2s hld e1, e2]
    · cases h
  · rename_i b o n c
    have hv := rep_raw hv
    subst hv
    split at h
    · rename_i l hb
      split at h
      · rename_i hc
        unfold aStr at h
        simp only [Option.map_eq_some_iff] at h
        obtain ⟨bs, h1, rfl⟩ := h
        obtain ⟨cs, e, fr, hh, hsz, hfr, hr⟩ := hM b _ hb
        have hcell : ∀ j, j < n → w.cell? ⟨b, o + j, none⟩ = some (cs.getD (o + j) undef) := fun j hj => by
          rw [cell_of_cells hh, Array.getD_eq_getD_getElem?]
          have : o + j < cs.size := by omega
          simp [this]
        have hld := run_loadCells (P := P) (w := w) (b := b) (o := o) (n := n) (fun j => cs.getD (o + j) undef) hcell
        obtain ⟨ns, e1, e2⟩ := mapM_u8 (P := P) (κ := κ) (w := w) _ bs h1 ((List.range n).map fun j => cs.getD (o + j) undef) (by simp; omega) fun i c v h2 h3 => by
          rw [List.getElem?_map] at h3
          simp only [Option.map_eq_some_iff] at h3
          obtain ⟨j, h3, rfl⟩ := h3
          have hj : j = i := by
            obtain ⟨_, e⟩ := List.getElem?_eq_some_iff.1 h3
            simpa using e.symm
          subst hj
          have hjn : j < n := by
            obtain ⟨hj, _⟩ := List.getElem?_eq_some_iff.1 h3
            simpa using hj
          rw [List.getElem?_take, if_pos hjn, List.getElem?_drop] at h2
          have hlt : o + j < cs.size := by omega
          refine (hr (o + j) c _ h2 ?_).1
          rw [Array.getD_eq_getD_getElem?]
          simp [hlt]
        refine ⟨.string ⟨bs.toArray⟩, ?_, .raw _⟩
        rw [convert_b2s hc.1 ⟨_, _, _, rfl⟩, run_b2s hld e1, e2]
      · cases h
    · cases h
  · rename_i v' _
    have hv := rep_raw hv
    subst hv
    simp only [Option.map_eq_some_iff] at h
    obtain ⟨u, h1, rfl⟩ := h
    exact ⟨u, pr_run h1 w, .raw u⟩
  · cases h

theorem nil_eval {a : Act} {y : Operand} (h : isNilSlice y = true) : ∃ n m, a.eval y = .slice none n m := by
  unfold isNilSlice at h
  split at h
  · exact ⟨_, _, rfl⟩
  · cases h

theorem aop_sound {T : Nat → AVal} {a : Act} (hT : ∀ t, Rep P κ w (T t) (a.eval (.tmp t))) {M : Mem} (hM : ∀ b o, M b = some o → RepO P κ w b o) {o : Oper} {V : AVal} (h : aop P T M o.type o.op = some V) :
    ∃ u, (execOp a.eval o).run P w = .ok (.value u) w ∧ Rep P κ w V u := by
  have E := fun x => ev_rep (P := P) (κ := κ) (w := w) hT x
  cases hop : o.op <;> rw [hop] at h <;> simp only [aop, reduceCtorEq] at h
  case pick c x y =>
    split at h
    · rename_i t ht
      obtain rfl := Option.some.inj h
      have hc := E c
      rw [ht] at hc
      refine ⟨if t then a.eval x else a.eval y, ?_, ?_⟩
      · unfold execOp
        rw [hop]
        show ((asBool (a.eval c)) >>= fun b => (pure (Next.value (if b then a.eval x else a.eval y)) : Sem Next)).run P w = _
        rw [rep_raw hc]; rfl
      · cases t
        · exact E y
        · exact E x
    · cases h
  case load t x =>
    have hx := E x
    have key : ∀ u, (Instr.loadAt t (a.eval x)).run P w = .ok u w → (execOp a.eval o).run P w = .ok (.value u) w := fun u hu => by
      unfold execOp; rw [hop]; exact run_val hu
    split at h
    · rename_i b off he
      rw [he] at hx
      split at h
      · rename_i l hb
        obtain ⟨u, h1, h2⟩ := run_loadAt_ptr hM hb h
        rw [← rep_raw hx] at h1
        exact ⟨u, key u h1, h2⟩
      · cases h
    · rename_i l i off he
      rw [he] at hx
      split at h
      · rename_i e hi
        obtain ⟨u, h1, h2⟩ := run_loadAt_sptr hx hi h
        exact ⟨u, key u h1, h2⟩
      · cases h
    · cases h
  case nilCheck x =>
    have hx := E x
    have key : ∀ u, a.eval x = u → (match u with | .pointer (some _) => True | .func (.func _) _ _ => True | _ => False) → (execOp a.eval o).run P w = .ok (.value u) w := fun u hu hm => by
      unfold execOp; rw [hop]; dsimp only; rw [hu]
      split at hm
      · rfl
      · rfl
      · exact hm.elim
    split at h
    · rename_i p he
      obtain rfl := Option.some.inj h
      rw [he] at hx
      exact ⟨_, key _ (rep_raw hx) trivial, .raw _⟩
    · rename_i f xs ys he
      obtain rfl := Option.some.inj h
      rw [he] at hx
      exact ⟨_, key _ (rep_raw hx) trivial, .raw _⟩
    · rename_i l i off he
      obtain rfl := Option.some.inj h
      rw [he] at hx
      refine ⟨_, key _ rfl ?_, hx⟩
      generalize a.eval x = v at hx
      cases hx
      trivial
    · cases h
  case binOp op t x y yt =>
    obtain ⟨u, h1, h2⟩ := run_aBin (E x) (E y) nil_eval h
    exact ⟨u, by unfold execOp; rw [hop]; exact run_val h1, h2⟩
  case unOp op t x =>
    obtain ⟨u, h1, h2⟩ := run_raw1 (E x) h
    exact ⟨u, by unfold execOp; rw [hop]; exact run_val h1, h2⟩
  case convert s d x =>
    obtain ⟨u, h1, h2⟩ := run_aConvert hM (E x) h
    exact ⟨u, by unfold execOp; rw [hop]; exact run_val h1, h2⟩
  case makeInterface t x =>
    obtain ⟨u, h1, h2⟩ := run_raw1 (E x) h
    exact ⟨u, by unfold execOp; rw [hop]; exact run_val h1, h2⟩
  case makeFunc fn first cap =>
    split at h
    · rename_i xs ys hx hy
      obtain rfl := Option.some.inj h
      refine ⟨_, ?_, .raw _⟩
      unfold execOp; rw [hop]
      exact run_val (by rw [rawsOf_ev hT hx, rawsOf_ev hT hy]; rfl)
    · cases h
  case slice t x lo hi mx =>
    obtain ⟨u, h1, h2⟩ := run_aSlice hT (E x) h
    exact ⟨u, by unfold execOp; rw [hop]; exact run_val h1, h2⟩
  case fieldAddr t x f =>
    obtain ⟨u, h1, h2⟩ := run_aFieldAddr (E x) h
    exact ⟨u, by unfold execOp; rw [hop]; exact run_val h1, h2⟩
  case field t x f =>
    obtain ⟨u, h1, h2⟩ := run_aField (E x) h
    exact ⟨u, by unfold execOp; rw [hop]; exact run_val h1, h2⟩
  case indexAddr t x ix =>
    obtain ⟨u, h1, h2⟩ := run_aIndexAddr (E x) (E ix) h
    exact ⟨u, by unfold execOp; rw [hop]; exact run_val h1, h2⟩
  case index t x ix =>
    obtain ⟨u, h1, h2⟩ := run_aIndex (E x) (E ix) h
    exact ⟨u, by unfold execOp; rw [hop]; exact run_val h1, h2⟩
  case extract x i =>
    have hx := E x
    have key : ∀ vs u, a.eval x = .tuple vs → vs[i]? = some u → (execOp a.eval o).run P w = .ok (.value u) w := fun vs u e1 e2 => by
      unfold execOp; rw [hop]
      refine run_val (s := Instr.extract (a.eval x) i) ?_
      rw [e1]
      show (match vs[i]? with | some v => (pure v : Sem Value) | none => stuck _).run P w = _
      rw [e2]; rfl
    split at h
    · rename_i cs he
      rw [he] at hx
      generalize hv : a.eval x = v at hx
      cases hx with
      | tup _ vs hl hr =>
        have hi : i < vs.size := by
          rw [← hl]
          rcases Nat.lt_or_ge i cs.length with h' | h'
          · exact h'
          · rw [List.getElem?_eq_none h'] at h; cases h
        exact ⟨vs[i], key vs _ hv (Array.getElem?_eq_getElem hi), hr i _ _ h (Array.getElem?_eq_getElem hi)⟩
    · rename_i vs he
      rw [he] at hx
      simp only [Option.map_eq_some_iff] at h
      obtain ⟨u, h1, rfl⟩ := h
      exact ⟨u, key vs u (rep_raw hx) h1, .raw u⟩
    · cases h
  case build t parts =>
    obtain ⟨u, h1, h2⟩ := run_aBuild hT h
    exact ⟨u, by unfold execOp; rw [hop]; exact run_val h1, h2⟩
  case lookup t m k ok =>
    obtain ⟨u, h1, h2⟩ := run_aLookup hM (E m) (E k) h
    exact ⟨u, by unfold execOp; rw [hop]; exact run_val h1, h2⟩
  case call c =>
    obtain ⟨callee, args, argTypes⟩ := c
    cases callee <;> simp only [reduceCtorEq] at h
    rename_i b
    obtain ⟨u, h1, h2⟩ := run_aBuiltin (consts := args.map fun | .const _ => true | _ => false) hT hM h
    refine ⟨u, ?_, h2⟩
    unfold execOp; rw [hop]
    exact h1

end
end Go.Am
