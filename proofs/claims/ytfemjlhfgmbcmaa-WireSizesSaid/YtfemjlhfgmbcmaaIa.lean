/- Plain: how many bytes a number has. -/
import Derived.Test.YtfemjlhfgmbcmaaHg
namespace Go.Proofs.Ytfemjlhfgmbcmaa
open Go.RowKit

/-- How many bits a number has. -/
def blen (v : Nat) : Nat := if h : v = 0 then 0 else blen (v / 2) + 1
  termination_by v
  decreasing_by omega
theorem blen_0 : blen 0 = 0 := by rw [blen]; simp
theorem blen_s {v : Nat} (h : 0 < v) : blen v = blen (v / 2) + 1 := by rw [blen, dif_neg (by omega)]
theorem blen_le : ∀ (d v : Nat), v < 2 ^ d → blen v ≤ d
  | 0, v, h => by rw [show v = 0 by simpa using h, blen_0]; omega
  | d + 1, v, h => by
    by_cases h0 : v = 0
    · rw [h0, blen_0]; omega
    · rw [blen_s (by omega)]
      have := blen_le d (v / 2) (by rw [Nat.pow_succ] at h; omega)
      omega
theorem blen_7 {v : Nat} (h : 128 ≤ v) : blen v = blen (v / 128) + 7 := by
  rw [blen_s (show 0 < v by omega), blen_s (show 0 < v / 2 by omega), blen_s (show 0 < v / 2 / 2 by omega), blen_s (show 0 < v / 2 / 2 / 2 by omega), blen_s (show 0 < v / 2 / 2 / 2 / 2 by omega),
    blen_s (show 0 < v / 2 / 2 / 2 / 2 / 2 by omega), blen_s (show 0 < v / 2 / 2 / 2 / 2 / 2 / 2 by omega)]
  rw [show v / 2 / 2 / 2 / 2 / 2 / 2 / 2 = v / 128 by omega]
theorem blen_pos {v : Nat} (h : 0 < v) : 0 < blen v := by rw [blen_s h]; omega
theorem encL_bits : ∀ (d v : Nat), v < 2 ^ d → (encL v).length = if blen v = 0 then 1 else (blen v + 6) / 7
  | d, v, hd => by
    by_cases h : v < 128
    · rw [encL_small h]
      have := blen_le 7 v h
      split
      · rfl
      · simp only [List.length_cons, List.length_nil]; omega
    · rw [encL_big h, blen_7 (by omega)]
      obtain ⟨d, rfl⟩ : ∃ m, d = m + 1 := ⟨d - 1, by
        have : d ≠ 0 := by rintro rfl; simp at hd; omega
        omega⟩
      have h2 := blen_pos (v := v / 128) (by omega)
      have := encL_bits d (v / 128) (by rw [Nat.pow_succ] at hd; omega)
      rw [if_neg (by omega)] at this
      simp only [List.length_cons]
      rw [this, if_neg (by omega)]
      omega

end Go.Proofs.Ytfemjlhfgmbcmaa
