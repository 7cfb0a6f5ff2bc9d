import Derived.Test.YtkjdclhhmgjfbaaAmD
import Derived.Test.YtkjdclhhmgjfbaaG04
import Derived.Laws.Externs
import Derived.MapKept
/-! slices.Sorted(maps.Keys(m)) and maps.Clone(m), over memory that is known. -/
open Go Go.Proofs Go.Am
set_option linter.unusedVariables false
set_option linter.unusedSimpArgs false
set_option autoImplicit false
namespace C04
def str (s : ByteArray) : AVal := .raw (.string s)
theorem kund9 : Try.prog.underlying 9 = some .string := by kernel_rfl
/-- slices.Sorted over the keys of a map. -/
theorem sorted45 (Bm r clk : Nat) (l : List (En ByteArray)) (M : Mem) (hB : M Bm = some (.cells [.raw (.map (some r))])) (hr : M r = some (.it (.map (entsX Value.string l) clk))) (hl : l.length ≤ 1000) (hs : ∀ e ∈ l, e.k.size ≤ maxLen) (hst : ∀ e ∈ l, e.s < clk) (hsn : (l.map En.s).Nodup) (hnd : (l.map En.k).Nodup) :
    SoundCall Try.prog 45 [.raw (.func (.func 72) #[] #[.pointer (some ⟨Bm, 0, none⟩)])] M fun q M' => q = .sl ((sortS (l.map En.k)).map str) false ∧ M' = M := by
  intro κ w vs hsz hh
  have hr0 := hh.tmp 0
  obtain ⟨v0, rfl⟩ : ∃ v, vs = #[v] := by
    match vs, hsz with
    | ⟨[v]⟩, _ => exact ⟨v, rfl⟩
  have e0 : v0 = .func (.func 72) #[] #[.pointer (some ⟨Bm, 0, none⟩)] := rep_raw hr0
  subst e0
  have hml : maxLen = 2 ^ 63 - 1 := rfl
  obtain ⟨hown, hperm, hsize⟩ := owns_keys (w := w) kund9 (hh.obj r _ hr).1 (by omega) hs hst hsn hnd
  have hcell : w.cell? ⟨Bm, 0, none⟩ = some (.map (some r)) := by
    obtain ⟨c, e, fr, a1, a2, a3, a4⟩ := hh.obj Bm _ hB
    match c, a2 with
    | ⟨[c0]⟩, _ =>
      have := rep_raw (a4 0 (.raw (.map (some r))) c0 rfl rfl).1
      rw [cell_of_cells a1, this]; rfl
  refine (Ks.sorted Bm r l.length (keysD l) w (hh.lt hB) hcell hown (by omega) (by omega)).mono ?_
  rintro e w' ⟨v, ss, rfl, hS, hrow, hnil, hbel⟩
  have hss : ss.mergeSort (fun x y => decide (x ≤ y)) = (sortS (l.map En.k)).map fun k => k.data.toList := sort_keys (by rw [List.map_map]; exact hS.trans hperm.symm)
  rw [hss] at hrow
  have henc : ((sortS (l.map En.k)).map fun k => k.data.toList).map encStr = (sortS (l.map En.k)).map Value.string := by
    rw [List.map_map]
    refine List.map_congr_left fun k _ => ?_
    show encStr k.data.toList = _
    simp [encStr]
  rw [henc] at hrow
  have hlen : ss.length = (sortS (l.map En.k)).length := by
    have := congrArg List.length hss
    simpa using this
  rcases hrow.2 with ⟨rfl, h0⟩ | ⟨g, cap, cur, rfl, hg, hblk, hcap, -, hcs, htk⟩
  · have hn : sortS (l.map En.k) = [] := List.eq_nil_of_length_eq_zero (by omega)
    obtain ⟨h1, hk1⟩ := hh.below hbel
    refine ⟨_, κ, .sl [] false, M, rfl, ⟨by rw [hn]; rfl, rfl⟩, ?_, hk1⟩
    have hput := h1.put 0 (X := .sl [] false) (x := .slice none 0 0) (.nil false) fun b o hsp => by
      rcases hsp with ⟨l', o1, c1, g1, -⟩ | ⟨Vs, vs', i, X, x, g1, -⟩ <;> cases g1
    have e1 : setT (argT [AVal.raw (.func (.func 72) #[] #[.pointer (some ⟨Bm, 0, none⟩)])]) 0 (.sl [] false) = argT [.sl [] false] := by
      funext t
      unfold setT argT
      by_cases ht : t = 0
      · subst ht; rfl
      · rw [if_neg ht]
        obtain ⟨k, rfl⟩ : ∃ k, t = k + 1 := ⟨t - 1, by omega⟩
        rfl
    have e2 : (fun t => if t = 0 then Value.slice none 0 0 else (fun t => (#[Value.func (.func 72) #[] #[.pointer (some ⟨Bm, 0, none⟩)]] : Array Value).getD t undef) t) = fun t => if t = 0 then Value.slice none 0 0 else undef := by
      funext t
      by_cases ht : t = 0
      · simp [ht]
      · obtain ⟨k, rfl⟩ : ∃ k, t = k + 1 := ⟨t - 1, by omega⟩
        rw [if_neg ht, if_neg ht]; rfl
    rw [e1, e2] at hput
    exact hput
  · obtain ⟨κ', h1, hk1⟩ := hh.row hbel hg hblk (l := (sortS (l.map En.k)).map str) (by rw [List.length_map, ← hlen]; exact hcap) (by omega) (fun X hX => by obtain ⟨k, -, rfl⟩ := List.mem_map.1 hX; rfl) (fun j X v e1 e2 => by
      rw [List.getElem?_map] at e1
      obtain ⟨k, hk, rfl⟩ := Option.map_eq_some_iff.1 e1
      have hj : j < (sortS (l.map En.k)).length := (List.getElem?_eq_some_iff.1 hk).1
      have h2 : cur.toList[j]? = some (.string k) := by
        have := congrArg (fun z : List Value => z[j]?) htk
        simp only [Nat.mul_one, List.getElem?_take, List.getElem?_map, hk, Option.map_some] at this
        rw [if_pos (by omega)] at this
        exact this
      rw [Array.getElem?_toList, e2] at h2
      obtain rfl := Option.some.inj h2
      exact .raw _)
    rw [List.length_map, ← hlen] at h1
    exact ⟨_, κ', _, M, rfl, ⟨rfl, rfl⟩, h1, hk1⟩
end C04
