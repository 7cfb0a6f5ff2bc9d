import Derived.Test.YticeppepdlgbhaaGreatDoorAmF
import Derived.Test.YticeppepdlgbhaaGreatDoorZg1
import Derived.Laws.Externs
import Derived.MapKept
/-! slices.Sorted(maps.Keys(m)) and maps.Clone(m), over memory that is known. -/
open Go Go.Proofs Go.Am
set_option linter.unusedVariables false
set_option linter.unusedSimpArgs false
set_option autoImplicit false
namespace C17k
abbrev str (s : ByteArray) : AVal := .raw (.string s)
theorem kund9 : Tryz.prog.underlying 9 = some .string := by kernel_rfl
/-- The entries of a map that is known by its keys. -/
theorem map_en {P : Program} {κ : Ghost} {w : World} {r : Nat} {β : Type} {enc : β → AVal} {kvs : List (ByteArray × β)} (h : RepO P κ w r (.map (ents Value.string enc kvs))) : ∃ clk, ∃ l : List (En ByteArray), w.heap[r]? = some (.map (entsX Value.string l) clk) ∧ l.map En.k = kvs.map (·.1) ∧ (∀ e ∈ l, e.s < clk) ∧ (l.map En.s).Nodup := by
 obtain ⟨es, clk, h1, h2, h3, h4, h5⟩ := h
 have h2' : es.size = kvs.length := by rw [h2]; simp [ents]
 have hk : ∀ j, ∀ hj : j < kvs.length, (es[j]'(by omega)).key = .string (kvs[j]).1 := fun j hj => by
  have := (h3 j (.string (kvs[j]).1, enc (kvs[j]).2) (es[j]'(by omega)) (by simp [ents, hj]) (Array.getElem?_eq_getElem (by omega))).1
  exact this
 refine ⟨clk, List.ofFn fun j : Fin kvs.length => ⟨(kvs[j.1]).1, (es[j.1]'(by omega)).val, (es[j.1]'(by omega)).born⟩, ?_, ?_, fun e he => ?_, ?_⟩
 ·rw [h1]
  congr 2
  apply Array.ext
  ·simp [entsX, h2']
  ·intro j g1 g2
   simp only [entsX, List.getElem_toArray, List.getElem_map, List.getElem_ofFn]
   have := hk j (by omega)
   cases hx : es[j] with
   | mk a b c => rw [hx] at this; simp only [hx]; simp only at this; rw [this]
 ·apply List.ext_getElem
  ·simp
  ·intro j g1 g2
   simp
 ·obtain ⟨j, rfl⟩ := (List.mem_ofFn ..).1 he
  exact h4 j.1 _ (Array.getElem?_eq_getElem (by omega))
 ·rw [List.nodup_iff_pairwise_ne, List.pairwise_iff_getElem]
  intro i j hi hj hij he
  simp only [List.length_map, List.length_ofFn] at hi hj
  simp only [List.getElem_map, List.getElem_ofFn] at he
  have := h5 i j _ _ (Array.getElem?_eq_getElem (by omega)) (Array.getElem?_eq_getElem (by omega)) he
  omega
/-- slices.Sorted over the keys of a map. -/
theorem sorted37 {β : Type} (enc : β → AVal) (Bm r : Nat) (kvs : List (ByteArray × β)) (M : Mem) (hB : M Bm = some (.cells [.raw (.map (some r))])) (hr : M r = some (.map (ents Value.string enc kvs))) (hl : kvs.length ≤ 1000) (hs : ∀ p ∈ kvs, p.1.size ≤ maxLen) (hnd : (kvs.map (·.1)).Nodup) :
  SoundCall Tryz.prog 56 [.raw (.func (.func 105) #[] #[.pointer (some ⟨Bm, 0, none⟩)])] M fun q M' => q = .sl ((sortS (kvs.map (·.1))).map str) false ∧ M' = M := by
 intro κ w vs hsz hh
 have hr0 := hh.tmp 0
 obtain ⟨v0, rfl⟩ : ∃ v, vs = #[v] := by
  match vs, hsz with
  | ⟨[v]⟩, _ => exact ⟨v, rfl⟩
 have e0 : v0 = .func (.func 105) #[] #[.pointer (some ⟨Bm, 0, none⟩)] := rep_raw hr0
 subst e0
 have hml : maxLen = 2 ^ 63 - 1 := rfl
 obtain ⟨clk, l, hrw, hkl, hst, hsn⟩ := map_en (hh.obj r _ hr)
 have hll : l.length = kvs.length := by have := congrArg List.length hkl; simpa using this
 rw [← hkl] at hnd ⊢
 obtain ⟨hown, hperm, hsize⟩ := owns_keys (w := w) kund9 hrw (by omega) (fun e he => by
  have h1 : e.k ∈ kvs.map (·.1) := by rw [← hkl]; exact List.mem_map.2 ⟨e, he, rfl⟩
  obtain ⟨p, hp, e2⟩ := List.mem_map.1 h1
  rw [← e2]; exact hs p hp) hst hsn hnd
 have hcell : w.cell? ⟨Bm, 0, none⟩ = some (.map (some r)) := by
  obtain ⟨c, e, fr, a1, a2, a3, a4⟩ := hh.obj Bm _ hB
  match c, a2 with
  | ⟨[c0]⟩, _ =>
   have := rep_raw (a4 0 (.raw (.map (some r))) c0 rfl rfl).1
   rw [cell_of_cells a1, this]; rfl
 refine (Kt.sorted Bm r l.length (keysD l) w (hh.lt hB) hcell hown (by omega) (by omega)).mono ?_
 rintro e w' ⟨v, ss, rfl, hS, hrow, hnil, hbel⟩
 have hss : ss.mergeSort (fun x y => decide (x ≤ y)) = (sortS (l.map En.k)).map fun k => k.data.toList := sort_keys (by rw [List.map_map]; exact hS.trans hperm.symm)
 rw [hss] at hrow
 have henc : ((sortS (l.map En.k)).map fun k => k.data.toList).map encStr = (sortS (l.map En.k)).map Value.string := by
  rw [List.map_map]
  refine List.map_congr_left fun k _ => ?_
  show encStr k.data.toList = _
  simp [encStr]
 rw [henc] at hrow
 have hlen : ss.length = (sortS (l.map En.k)).length := by
  have := congrArg List.length hss
  simpa using this
 rcases hrow.2 with ⟨rfl, h0⟩ | ⟨g, cap, cur, rfl, hg, hblk, hcap, -, hcs, htk⟩
 ·have hn : sortS (l.map En.k) = [] := List.eq_nil_of_length_eq_zero (by omega)
  obtain ⟨h1, hk1⟩ := hh.below hbel
  refine ⟨_, κ, .sl [] false, M, rfl, ⟨by rw [hn]; rfl, rfl⟩, ?_, hk1⟩
  have hput := h1.put 0 (X := .sl [] false) (x := .slice none 0 0) (.nil false) fun b o hsp => by
   rcases hsp with ⟨l', o1, c1, g1, -⟩ | ⟨Vs, vs', i, X, x, g1, -⟩ <;> cases g1
  have e1 : setT (argT [AVal.raw (.func (.func 105) #[] #[.pointer (some ⟨Bm, 0, none⟩)])]) 0 (.sl [] false) = argT [.sl [] false] := by
   funext t
   unfold setT argT
   by_cases ht : t = 0
   ·subst ht; rfl
   ·rw [if_neg ht]
    obtain ⟨k, rfl⟩ : ∃ k, t = k + 1 := ⟨t - 1, by omega⟩
    rfl
  have e2 : (fun t => if t = 0 then Value.slice none 0 0 else (fun t => (#[Value.func (.func 105) #[] #[.pointer (some ⟨Bm, 0, none⟩)]] : Array Value).getD t undef) t) = fun t => if t = 0 then Value.slice none 0 0 else undef := by
   funext t
   by_cases ht : t = 0
   ·simp [ht]
   ·obtain ⟨k, rfl⟩ : ∃ k, t = k + 1 := ⟨t - 1, by omega⟩
    rw [if_neg ht, if_neg ht]; rfl
  rw [e1, e2] at hput
  exact hput
 ·obtain ⟨κ', h1, hk1⟩ := hh.row hbel hg hblk (l := (sortS (l.map En.k)).map str) (by rw [List.length_map, ← hlen]; exact hcap) (by omega) (fun X hX => by obtain ⟨k, -, rfl⟩ := List.mem_map.1 hX; rfl) (fun j X v e1 e2 => by
   rw [List.getElem?_map] at e1
   obtain ⟨k, hk, rfl⟩ := Option.map_eq_some_iff.1 e1
   have hj : j < (sortS (l.map En.k)).length := (List.getElem?_eq_some_iff.1 hk).1
   have h2 : cur.toList[j]? = some (.string k) := by
    have := congrArg (fun z : List Value => z[j]?) htk
    simp only [Nat.mul_one, List.getElem?_take, List.getElem?_map, hk, Option.map_some] at this
    rw [if_pos (by omega)] at this
    exact this
   rw [Array.getElem?_toList, e2] at h2
   obtain rfl := Option.some.inj h2
   exact .raw _)
  rw [List.length_map, ← hlen] at h1
  exact ⟨_, κ', _, M, rfl, ⟨rfl, rfl⟩, h1, hk1⟩
theorem extraB : Go.Proofs.Builder.Extra Tryz.prog Tryz.laysRepeat_ren := { sizeBuilder := by kernel_rfl, liesBuilder := by kernel_rfl, t5 := Tryz.underlying5, a5 := Tryz.isAgg5, z5 := Tryz.sizeOf5, v5 := Tryz.zeroValue5, infoByte := by kernel_rfl, cellsByte := by kernel_rfl, sizeByte := by kernel_rfl, neB5 := by decide }
/-- strings.Repeat. -/
theorem repeat46 (s : ByteArray) (c : Nat) (M : Mem) (hc : c ≤ 1000) (hs : s.size ≤ 100) : SoundCall Tryz.prog 107 [.raw (.string s), .raw (.int .i64 c)] M fun r M' => r = .raw (.string ⟨(Go.Lib.repeatL s.data.toList c).toArray⟩) ∧ M' = M := by
 intro κ w vs hsz hh
 have hr0 := hh.tmp 0
 have hr1 := hh.tmp 1
 obtain ⟨v0, v1, rfl⟩ : ∃ v0 v1, vs = #[v0, v1] := by
  match vs, hsz with
  | ⟨[v0, v1]⟩, _ => exact ⟨v0, v1, rfl⟩
 have e0 : v0 = .string s := rep_raw hr0
 have e1 : v1 = .int .i64 c := rep_raw hr1
 subst e0 e1
 have hm : s.size * c ≤ 100 * 1000 := Nat.mul_le_mul hs hc
 refine (show Calls Tryz.prog 107 #[.string s, .int .i64 c] w _ from (Go.Proofs.Any.strings_Repeat Tryz.laysRepeat extraB s c w (by omega) (by omega))).mono ?_
 rintro e w' ⟨rfl, hbel⟩
 obtain ⟨h1, hk1⟩ := hh.below hbel
 refine ⟨_, κ, _, M, rfl, ⟨rfl, rfl⟩, ?_, hk1⟩
 have hput := (h1.put 0 (X := .raw (.string ⟨(Go.Lib.repeatL s.data.toList c).toArray⟩)) (x := .string ⟨(Go.Lib.repeatL s.data.toList c).toArray⟩) (.raw _) (fun _ _ => Spare.not_raw)).put 1 (X := .undef) (x := undef) (.undef _) (fun b o hs => by rcases hs with ⟨_, _, _, e, _⟩ | ⟨_, _, _, _, _, e, _⟩ <;> cases e)
 have e1 : setT (setT (argT [AVal.raw (.string s), AVal.raw (.int .i64 c)]) 0 (.raw (.string ⟨(Go.Lib.repeatL s.data.toList c).toArray⟩))) 1 .undef = argT [.raw (.string ⟨(Go.Lib.repeatL s.data.toList c).toArray⟩)] := by
  funext t
  unfold setT argT
  match t with
  | 0 => rfl
  | 1 => rfl
  | t + 2 => rfl
 have e2 : (fun t => if t = 1 then undef else if t = 0 then Value.string ⟨(Go.Lib.repeatL s.data.toList c).toArray⟩ else (fun t => (#[Value.string s, Value.int .i64 c] : Array Value).getD t undef) t) = fun t => if t = 0 then Value.string ⟨(Go.Lib.repeatL s.data.toList c).toArray⟩ else undef := by
  funext t
  match t with
  | 0 => rfl
  | 1 => rfl
  | t + 2 => rfl
 rw [e1, e2] at hput
 exact hput
end C17k
