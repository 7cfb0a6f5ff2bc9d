import Derived.Test.YtphenhkofjbeoaaAm40
import Derived.SizedLaws
/-! Rows: how large what stands in slices may be. -/
namespace Go.Am
section
variable {H : Type} {P : Program} {ts : List TypeId} {ds : List (DataW H)}

theorem weightsAll_mem {e : TypeId} : ∀ {elems : List (DataW H)} {d : DataW H}, d ∈ elems → ∀ n ∈ d.weights P e, n ∈ DataW.weightsAll P e elems
  | d0 :: elems, d, hd, n, hn => by
    simp only [DataW.weightsAll, List.mem_append]
    rcases List.mem_cons.1 hd with rfl | hd
    · exact .inl hn
    · exact .inr (weightsAll_mem hd n hn)

theorem sized_elem (h : (DataW.weightsEach P ts ds).all (· ≤ reachBytes) = true) {j : Nat} {t e : TypeId} {elems spare : List (DataW H)} (ht : ts[j]? = some t) (hd : ds[j]? = some (.slice elems spare)) (hu : P.underlying t = some (.slice e)) {d : DataW H} (hm : d ∈ elems) {n : Nat} (hn : n ∈ d.weights P e) : n ≤ reachBytes := by
  have := List.all_eq_true.1 h n (DataW.weights_mem_each ht hd n (by
    simp only [DataW.weights, hu, List.mem_cons, List.mem_append]
    exact .inr (.inl (weightsAll_mem hm n hn))))
  simpa using this

/-- A string in a slice of strings. -/
theorem sized_str (h : (DataW.weightsEach P ts ds).all (· ≤ reachBytes) = true) {j : Nat} {t e : TypeId} {elems spare : List (DataW H)} (ht : ts[j]? = some t) (hd : ds[j]? = some (.slice elems spare)) (hu : P.underlying t = some (.slice e)) {s : ByteArray} (hm : DataW.lit (.string s.data.toList) ∈ elems) : s.size ≤ 140737488351232 := by
  have h1 := sized_elem h ht hd hu hm (n := s.data.toList.length) (by simp [DataW.weights])
  have h2 : s.data.toList.length = s.size := Array.length_toList
  have h3 : reachBytes = 140737488351232 := rfl
  omega
end
end Go.Am
