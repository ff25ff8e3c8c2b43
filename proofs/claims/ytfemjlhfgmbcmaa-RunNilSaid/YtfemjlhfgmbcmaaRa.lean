/- Arguments that are slices, opened; what they weigh. -/
import Derived.Test.YtfemjlhfgmbcmaaRows
import Derived.Test.YtfemjlhfgmbcmaaHg
import Derived.Deep.Slices
import Derived.Deep.Fields
import Derived.ChangeSame
import Derived.WalkKit
import Derived.ProofKit
import Derived.OpenShut
import Derived.ShutString
import Derived.ChangeOld
import Derived.SizedLaws
import Derived.JoinedCond
namespace Go.Proofs.Ytfemjlhfgmbcmaa
open Go.ChangeShapes Go.WideShapes Go.Deep Go.RowKit Go.Proofs.YtfemjlhfgmbcmaaW.PrintWords Go.Proofs.YtfemjlhfgmbcmaaW.PrintLast Go.Proofs.YtfemjlhfgmbcmaaW.PrintMore

theorem bulk_pos {H : Type} (d : DataW H) : 1 ≤ Rows.uptoBulk d := by
  cases d with
  | lit l => cases l <;> simp [Rows.uptoBulk]
  | nil => simp [Rows.uptoBulk]
  | ptr d => simp [Rows.uptoBulk]
  | slice elems spare => simp [Rows.uptoBulk]
  | agg parts => simp [Rows.uptoBulk]
  | iface t d => simp [Rows.uptoBulk]
  | map entries => simp [Rows.uptoBulk]
  | held h => simp [Rows.uptoBulk]
theorem bulk_map {H : Type} {α : Type} (D : Nat → DataW H) (wt : α → Nat) (f : Nat → α) : ∀ (l : List Nat), (∀ i ∈ l, wt (f i) ≤ Rows.uptoBulk (D i)) → (l.map fun i => wt (f i)).sum ≤ Rows.uptoBulkAll (l.map D)
  | [], _ => by simp
  | i :: l, h => by
    have h1 := h i (by simp)
    have h2 := bulk_map D wt f l (fun j hj => h j (by simp [hj]))
    simp only [List.map_cons, List.sum_cons, Rows.uptoBulkAll]
    omega

theorem open_sliceK {H : Type} {enc : TypeId × Value → H} {P : Program} {w : World} {α : Type} (d : Kd α) (z : α) (Inv : α → Prop) (wt : α → Nat) {t e : TypeId} {fuel : Nat} {cs : List Value} {x : DataW H × List MemPlace}
    (ht : P.underlying t = some (.slice e)) (hC : P.cellsOf e = d.sz)
    (hopen : ∀ n cs (y : DataW H × List MemPlace), DataW.trod enc P w 0 (fun _ => true) true n e cs = some y → ∃ a, d.K w a cs ∧ Inv a ∧ wt a ≤ Rows.uptoBulk y.1)
    (h : DataW.trod enc P w 0 (fun _ => true) true fuel t cs = some x) :
    ∃ A len cap xs, cs = [.slice A len cap] ∧ xs.length = len ∧ Kd.C d w A len xs ∧ len ≤ cap ∧ len ≤ 9223372036854775807 ∧ (∀ a ∈ xs, Inv a) ∧ (xs.map wt).sum + 1 ≤ Rows.uptoBulk x.1 := by
  rcases open_slice ht h with ⟨h1, h2⟩ | ⟨a, len, cap, m, n, D, Pl, rfl, hb, hl, hm, hmm, rfl, hx⟩
  · subst h2
    exact ⟨none, 0, 0, [], h1, rfl, ⟨rfl, by omega, fun h => by omega⟩, by omega, by omega, by simp, by simp [Rows.uptoBulk]⟩
  · have hmc : m = cap := by rw [hmm]; simp
    subst hmc
    have each : ∀ i, i < m → ∃ q : α, (∃ c, c.length = d.sz ∧ d.K w q c ∧ ∀ j u, c[j]? = some u → w.cell? (a.add (i * d.sz + j)) = some u) ∧ Inv q ∧ wt q ≤ Rows.uptoBulk (D i) := by
      intro i hi
      obtain ⟨cs', hc, ht'⟩ := hx i hi
      obtain ⟨q, hK, hI, hw⟩ := hopen n cs' _ ht'
      obtain ⟨_, hlen, hcell⟩ := World.cells?_some hc
      rw [hC] at hlen hcell
      refine ⟨q, ⟨cs', hlen, hK, fun j u hu => ?_⟩, hI, hw⟩
      have hj : j < d.sz := by rw [← hlen]; exact (List.getElem?_eq_some_iff.1 hu).1
      have := hcell j hj
      rw [Go.Deep.add_add] at this
      rw [this, hu]
    haveI : Inhabited α := ⟨z⟩
    obtain ⟨F, hF⟩ := choose_lt each
    have hml : m ≤ 9223372036854775807 := by unfold maxLen at hm; omega
    refine ⟨some a, len, m, (List.range len).map F, rfl, by simp, ⟨by simp, by omega, fun _ => ⟨a, rfl, fun j p hj => ?_⟩⟩, hl, by omega, ?_, ?_⟩
    · have hjl : j < len := by
        have := (List.getElem?_eq_some_iff.1 hj).1
        simpa using this
      have hp : F j = p := by simpa [hjl] using hj
      obtain ⟨⟨c, h1, h2, h3⟩, _⟩ := hF j (by omega)
      rw [hp] at h2
      exact ⟨c, h1, h2, h3⟩
    · intro q hq
      obtain ⟨i, hi, rfl⟩ := List.mem_map.1 hq
      exact (hF i (by have := List.mem_range.1 hi; omega)).2.1
    · have := bulk_map D wt F (List.range len) (fun i hi => (hF i (by have := List.mem_range.1 hi; omega)).2.2)
      simp only [Rows.uptoBulk, List.map_map]
      have e : (List.map (wt ∘ F) (List.range len)).sum = (List.map (fun i => wt (F i)) (List.range len)).sum := rfl
      rw [e]
      omega

theorem open_str1 {H : Type} {enc : TypeId × Value → H} {P : Program} {w : World} {t : TypeId} (ht : P.underlying t = some .string) :
    ∀ n cs (y : DataW H × List MemPlace), DataW.trod enc P w 0 (fun _ => true) true n t cs = some y → ∃ s : ByteArray, Kd.string.K w s cs ∧ s.size ≤ 9223372036854775807 ∧ s.size + 1 ≤ Rows.uptoBulk y.1 := by
  intro n cs y h
  obtain ⟨s, rfl, rfl, hs⟩ := DataW.trod_string ht h
  refine ⟨s, rfl, by unfold maxLen at hs; omega, ?_⟩
  simp [Rows.uptoBulk]

theorem upto_bound {H : Type} {l : List (DataW H)} (hk : Rows.uptoSmall H l = true) : Rows.uptoBulkAll l ≤ 1048576 := of_decide_eq_true hk
end Go.Proofs.Ytfemjlhfgmbcmaa
