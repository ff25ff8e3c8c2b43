/- Plain laws of numbers and texts as bytes. -/
import Derived.Test.YtfemjlhfgmbcmaaHf
namespace Go.Proofs.Ytfemjlhfgmbcmaa
open Go.RowKit

/-- What was read as a number is just what it is written as. -/
theorem numL_enc : ∀ (l : List UInt8) (i v r n : Nat), numL i v l = (r, n, 0) → ∃ m, r = v + m * 2 ^ (7 * i) ∧ l.take (n - i) = encL m ∧ (0 < i → 0 < m) ∧ i < n
  | [], i, v, r, n, h => by simp [numL] at h
  | b :: t, i, v, r, n, h => by
    have hb := b.toNat_lt
    by_cases c : (i = 9 ∧ 1 < b.toNat) ∨ (0 < i ∧ b.toNat = 0)
    · rw [numL, if_pos c] at h; simp at h
    · by_cases c2 : b.toNat < 128
      · rw [numL, if_neg c, if_pos c2] at h
        simp only [Prod.mk.injEq, and_true] at h
        obtain ⟨rfl, rfl⟩ := h
        refine ⟨b.toNat, by rw [Nat.mod_eq_of_lt c2], ?_, by omega, by omega⟩
        rw [show i + 1 - i = 1 by omega, encL_small c2]; simp
      · rw [numL, if_neg c, if_neg c2] at h
        obtain ⟨m, h1, h2, h3, h4⟩ := numL_enc t (i + 1) _ r n h
        have hm := h3 (by omega)
        refine ⟨b.toNat % 128 + 128 * m, ?_, ?_, by omega, by omega⟩
        · rw [h1, pow7_succ, Nat.add_mul, Nat.add_assoc, Nat.mul_comm 128 m, Nat.mul_assoc]
        · rw [show n - i = (n - (i + 1)) + 1 by omega, List.take_succ_cons, h2, encL_big (v := b.toNat % 128 + 128 * m) (by omega)]
          rw [show (b.toNat % 128 + 128 * m) % 128 + 128 = b.toNat by omega, UInt8.ofNat_toNat, show (b.toNat % 128 + 128 * m) / 128 = m by omega]

theorem num0_enc (s : ByteArray) (h : (num0 s).2.2 = 0) : s.data.toList.take (num0 s).2.1 = encL (num0 s).1 := by
  have e : numL 0 0 s.data.toList = ((num0 s).1, (num0 s).2.1, 0) := by
    show num0 s = _
    rw [← h]
  obtain ⟨m, h1, h2, _⟩ := numL_enc _ 0 0 _ _ e
  simp only [Nat.zero_add, Nat.mul_zero, Nat.pow_zero, Nat.mul_one, Nat.sub_zero] at h1 h2
  rw [h2, h1]

theorem extract_size_le (s : ByteArray) (a b : Nat) (h : b ≤ s.size) : (s.extract a b).size = b - a := by
  rw [ByteArray.size_extract]; omega

theorem toList_enc (v : Nat) : (encB v).toList = encL v := by rw [Lib.toList_data]; simp [encB]
/-- What Uint comes to: a number, or none. -/
theorem uintR_cases (s : ByteArray) : (∃ v n : Nat, 0 < n ∧ n ≤ s.size ∧ n ≤ 10 ∧ v < 18446744073709551616 ∧ uintR s 0 = ((v : Int), s.extract n s.size, 0) ∧ s.data.toList.take n = encL v ∧ num0 s = (v, n, 0)) ∨
    (∃ er : Nat, (er = 2 ∨ er = 3) ∧ uintR s 0 = (0, s, (er : Int)) ∧ num0 s = (0, 0, er)) := by
  by_cases h : (num0 s).2.2 = 0
  · obtain ⟨h1, h2, h3, h4⟩ := num0_ok s h
    refine .inl ⟨(num0 s).1, (num0 s).2.1, h1, h2, h3, h4, ?_, num0_enc s h, Prod.ext rfl (Prod.ext rfl h)⟩
    simp [uintR, takeR, h]
  · obtain ⟨h1, h2, h3⟩ := num0_no s h
    refine .inr ⟨(num0 s).2.2, h3, ?_, Prod.ext h1 (Prod.ext h2 rfl)⟩
    simp [uintR, takeR, h]

theorem textR_cases (s : ByteArray) (most : Int) : (∃ v n : Nat, 0 < n ∧ n + v ≤ s.size ∧ n ≤ 10 ∧ (v : Int) ≤ most ∧ textR s 0 most = (s.extract n (n + v), s.extract (n + v) s.size, 0) ∧ s.data.toList.take n = encL v ∧ num0 s = (v, n, 0)) ∨
    (∃ er : Nat, (er = 2 ∨ er = 3 ∨ er = 13) ∧ textR s 0 most = (⟨#[]⟩, s, (er : Int))) := by
  rcases uintR_cases s with ⟨v, n, h1, h2, h3, h4, _, h5, h6⟩ | ⟨er, h1, _, h6⟩
  · by_cases c : most < 0 ∨ most < v
    · refine .inr ⟨13, by omega, ?_⟩
      simp [textR, text0, h6, if_pos c, takeR]
    · by_cases c2 : s.size - n < v
      · refine .inr ⟨2, by omega, ?_⟩
        simp [textR, text0, h6, if_neg c, if_pos c2, takeR]
      · refine .inl ⟨v, n, h1, by omega, h3, by omega, ?_, h5, h6⟩
        simp [textR, text0, h6, if_neg c, if_neg c2, takeR]
  · have : er ≠ 0 := by omega
    refine .inr ⟨er, by omega, ?_⟩
    simp [textR, text0, h6, this, takeR]

theorem take_text (s : ByteArray) (n v : Nat) (h : n + v ≤ s.size) (he : s.data.toList.take n = encL v) :
    (encB (s.extract n (n + v)).size ++ s.extract n (n + v)).toList = (s.extract 0 (n + v)).toList := by
  rw [extract_size_le _ _ _ h, show n + v - n = v by omega, Lib.toList_data, Lib.toList_data]
  rw [Lib.extract_data]
  simp only [ByteArray.data_append, Array.toList_append]
  rw [Lib.extract_data]
  simp only [encB, List.drop_zero, Nat.sub_zero]
  rw [← he, show n + v - n = v by omega]
  rw [List.take_add]
end Go.Proofs.Ytfemjlhfgmbcmaa
