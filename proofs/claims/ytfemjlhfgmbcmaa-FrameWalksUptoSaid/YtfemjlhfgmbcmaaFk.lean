/- Plain: frames one behind the other. -/
import Derived.Test.YtfemjlhfgmbcmaaFi
namespace Go.Proofs.Ytfemjlhfgmbcmaa
open Go.RowKit Go.Proofs.YtfemjlhfgmbcmaaW.PrintWords Go.Proofs.YtfemjlhfgmbcmaaW.PrintLast Go.Proofs.YtfemjlhfgmbcmaaW.PrintMore

theorem framesF_put (k : Nat) (t m : ByteArray) (ht : t.size ≤ 65536) (hk : k < 256) : framesF (putB k t ++ m) = ⟨(k : Int), t, ht⟩ :: framesF m := by
  have h := takeF_put k t m ht hk
  have hps := putB_size k t
  have hs : (putB k t ++ m).size = (putB k t).size + m.size := ByteArray.size_append
  rw [framesF_cons _ (by omega) (by rw [h])]
  have hx : (putB k t ++ m).extract (takeF (putB k t ++ m)).2.2.1 (putB k t ++ m).size = m := by
    rw [h]
    apply ba_ext
    exact tail_ba _ (putB k t).data.toList m.data.toList _ (by simp) (by rw [← Lib.size_eq])
  rw [hx]
  congr 1
  have : ∀ (x : Int × ByteArray × Nat × Nat) (p : x.2.1.size ≤ 65536), x = ((k : Int), t, (putB k t).size, 0) → (⟨x.1, x.2.1, p⟩ : Fr) = ⟨(k : Int), t, ht⟩ := by
    rintro x p rfl; rfl
  exact this _ _ h

/-- The first k texts as frames, one behind the other. -/
def joinK (l : List ByteArray) : Nat → ByteArray
  | 0 => ⟨#[]⟩
  | k + 1 => joinK l k ++ putB (k % 256) (rdOf ByteArray.empty l (k : Int))
/-- x is the frame of the text at place j. -/
def IsRow (l : List ByteArray) (j : Nat) (x : Fr) : Prop := x.kind = ((j % 256 : Nat) : Int) ∧ x.load = rdOf ByteArray.empty l (j : Int)
def rowsK (l : List ByteArray) (h : ∀ j : Nat, j < l.length → (rdOf ByteArray.empty l (j : Int)).size ≤ 65536) : (k : Nat) → k ≤ l.length → List Fr
  | 0, _ => []
  | k + 1, hk => rowsK l h k (by omega) ++ [⟨((k % 256 : Nat) : Int), rdOf ByteArray.empty l (k : Int), h k (by omega)⟩]
theorem rowsK_length (l : List ByteArray) (h) : ∀ (k : Nat) (hk : k ≤ l.length), (rowsK l h k hk).length = k
  | 0, _ => rfl
  | k + 1, hk => by rw [rowsK, List.length_append, rowsK_length l h k (by omega)]; rfl
theorem rowsK_at (l : List ByteArray) (h) : ∀ (k : Nat) (hk : k ≤ l.length) (j : Nat) (x : Fr), (rowsK l h k hk)[j]? = some x → IsRow l j x
  | 0, _, j, x, hx => by simp [rowsK] at hx
  | k + 1, hk, j, x, hx => by
    rw [rowsK] at hx
    by_cases hj : j < k
    · rw [List.getElem?_append_left (by rw [rowsK_length]; exact hj)] at hx
      exact rowsK_at l h k (by omega) j x hx
    · rw [List.getElem?_append_right (by rw [rowsK_length]; omega), rowsK_length] at hx
      by_cases hj2 : j = k
      · subst hj2
        rw [Nat.sub_self] at hx
        simp only [List.getElem?_cons_zero, Option.some.injEq] at hx
        subst hx
        exact ⟨rfl, rfl⟩
      · rw [List.getElem?_eq_none (by simp; omega)] at hx; cases hx
theorem framesF_join (l : List ByteArray) (h) : ∀ (k : Nat) (hk : k ≤ l.length) (m : ByteArray), framesF (joinK l k ++ m) = rowsK l h k hk ++ framesF m
  | 0, _, m => by
    have : joinK l 0 ++ m = m := ba_ext (by simp [joinK])
    rw [this]; rfl
  | k + 1, hk, m => by
    have e : joinK l (k + 1) ++ m = joinK l k ++ (putB (k % 256) (rdOf ByteArray.empty l (k : Int)) ++ m) := ba_ext (by simp [joinK])
    rw [e, framesF_join l h k (by omega), framesF_put _ _ _ (h k (by omega)) (by omega), rowsK, List.append_assoc]
    rfl
theorem goodL_append (a b : List Fr) : goodL (a ++ b) = goodL a + goodL b := by simp [goodL]
theorem goodL_rows (l : List ByteArray) (h) : ∀ (k : Nat) (hk : k ≤ l.length), goodL (rowsK l h k hk) = (joinK l k).size
  | 0, _ => rfl
  | k + 1, hk => by
    rw [rowsK, goodL_append, goodL_rows l h k (by omega), joinK, ByteArray.size_append, putB_size]
    simp only [goodL, List.map_cons, List.map_nil, List.sum_cons, List.sum_nil]
    omega
theorem frames_len (s : ByteArray) : 6 * (framesF s).length ≤ s.size := by
  by_cases h : s.size = 0 ∨ (takeF s).2.2.2 ≠ 0
  · rw [framesF_nil s h]; exact Nat.zero_le _
  · have hg := takeF_good s (by omega)
    rw [framesF_cons s (by omega) (by omega)]
    have ih := frames_len (s.extract (takeF s).2.2.1 s.size)
    rw [extract_size_le _ _ _ (Nat.le_refl _)] at ih
    simp only [List.length_cons]
    omega
  termination_by s.size
  decreasing_by
    have := takeF_good s (by omega)
    rw [extract_size_le _ _ _ (Nat.le_refl _)]; omega
theorem joinK_size (l : List ByteArray) (h : ∀ j : Nat, j < l.length → (rdOf ByteArray.empty l (j : Int)).size ≤ 65536) : ∀ (k : Nat), k ≤ l.length → (joinK l k).size ≤ 65551 * k
  | 0, _ => by simp [joinK]; rfl
  | k + 1, hk => by
    have h1 := joinK_size l h k (by omega)
    have h2 := h k (by omega)
    have h3 := encL_le10 (rdOf ByteArray.empty l (k : Int)).size (by omega)
    rw [joinK, ByteArray.size_append, putB_size]
    omega
end Go.Proofs.Ytfemjlhfgmbcmaa
