/- Plain laws: what was written is read, whatever follows; no true beginning is one. -/
import Derived.Test.YtfemjlhfgmbcmaaKc
namespace Go.Proofs.Ytfemjlhfgmbcmaa
open Go.RowKit

/-- A true beginning of a number's bytes is short of more. -/
theorem numL_cut : ∀ (d m : Nat), m < 128 ^ (d + 1) → ∀ (i v c : Nat), i + d ≤ 9 → (i + d = 9 → m < 2 * 128 ^ d) → c < (encL m).length → numL i v ((encL m).take c) = (0, 0, 2)
  | d, m, hm, i, v, c, hi, h9, hc => by
    by_cases h : m < 128
    · rw [encL_small h] at hc ⊢
      have : c = 0 := by simpa using hc
      subst this
      simp [numL]
    · rw [encL_big h] at hc ⊢
      obtain ⟨d, rfl⟩ : ∃ e, d = e + 1 := ⟨d - 1, by
        have : d ≠ 0 := by rintro rfl; simp at hm; omega
        omega⟩
      cases c with
      | zero => simp [numL]
      | succ c =>
        rw [List.take_succ_cons, numL]
        have hb : (UInt8.ofNat (m % 128 + 128)).toNat = m % 128 + 128 := by
          rw [UInt8.toNat_ofNat']; omega
        rw [hb, if_neg (by omega), if_neg (by omega)]
        exact numL_cut d (m / 128) (by rw [Nat.div_lt_iff_lt_mul (by decide)]; rw [Nat.pow_succ] at hm; exact hm) (i + 1) _ c (by omega)
          (fun e => by have := h9 (by omega); rw [Nat.div_lt_iff_lt_mul (by decide)]; rw [Nat.pow_succ] at this; omega) (by simpa using hc)

/-- A number's bytes are read as it, whatever follows. -/
theorem numL_back : ∀ (d m : Nat), m < 128 ^ (d + 1) → ∀ (i v : Nat) (r : List UInt8), i + d ≤ 9 → (i + d = 9 → m < 2 * 128 ^ d) → (0 < i → 0 < m) → numL i v (encL m ++ r) = (v + m * 2 ^ (7 * i), i + (encL m).length, 0)
  | d, m, hm, i, v, r, hi, h9, h0 => by
    by_cases h : m < 128
    · rw [encL_small h]
      have hb : (UInt8.ofNat m).toNat = m := by rw [UInt8.toNat_ofNat']; omega
      rw [List.cons_append, numL, hb, if_neg (by
        rintro (⟨h1, h2⟩ | ⟨h1, h2⟩)
        · have : d = 0 := by omega
          subst this; have := h9 (by omega); simp at this; omega
        · have := h0 h1; omega), if_pos h, Nat.mod_eq_of_lt h]
      simp
    · rw [encL_big h]
      obtain ⟨d, rfl⟩ : ∃ e, d = e + 1 := ⟨d - 1, by
        have : d ≠ 0 := by rintro rfl; simp at hm; omega
        omega⟩
      have hb : (UInt8.ofNat (m % 128 + 128)).toNat = m % 128 + 128 := by
        rw [UInt8.toNat_ofNat']; omega
      rw [List.cons_append, numL, hb, if_neg (by omega), if_neg (by omega)]
      rw [numL_back d (m / 128) (by rw [Nat.div_lt_iff_lt_mul (by decide)]; rw [Nat.pow_succ] at hm; exact hm) (i + 1) _ r (by omega)
        (fun e => by have := h9 (by omega); rw [Nat.div_lt_iff_lt_mul (by decide)]; rw [Nat.pow_succ] at this; omega) (fun _ => by omega)]
      have e1 : (m % 128 + 128) % 128 = m % 128 := by omega
      rw [e1, pow7_succ]
      refine Prod.ext ?_ (Prod.ext ?_ rfl)
      · show v + m % 128 * 2 ^ (7 * i) + m / 128 * (128 * 2 ^ (7 * i)) = v + m * 2 ^ (7 * i)
        have : m * 2 ^ (7 * i) = (m % 128 + 128 * (m / 128)) * 2 ^ (7 * i) := by congr 1; omega
        rw [this, Nat.add_mul, Nat.mul_comm 128 (m / 128), Nat.mul_assoc]; omega
      · show i + 1 + (encL (m / 128)).length = i + (_ :: encL (m / 128)).length
        simp only [List.length_cons]; omega

theorem u64_d (m : Nat) (h : m < 18446744073709551616) : m < 128 ^ (9 + 1) ∧ m < 2 * 128 ^ 9 := by
  have h1 : (128 : Nat) ^ (9 + 1) = 1180591620717411303424 := by decide
  have h2 : (128 : Nat) ^ 9 = 9223372036854775808 := by decide
  omega
theorem num0_cut (m c : Nat) (r : List UInt8) (h : m < 18446744073709551616) (hc : c < (encL m).length) (s : ByteArray) (hs : s.data.toList = (encL m ++ r).take c) : num0 s = (0, 0, 2) := by
  unfold num0
  rw [hs, List.take_append_of_le_length (by omega)]
  exact numL_cut 9 m (u64_d m h).1 0 0 c (by omega) (fun _ => (u64_d m h).2) hc
theorem num0_back (m : Nat) (r : List UInt8) (h : m < 18446744073709551616) (s : ByteArray) (hs : s.data.toList = encL m ++ r) : num0 s = (m, (encL m).length, 0) := by
  unfold num0
  rw [hs, numL_back 9 m (u64_d m h).1 0 0 r (by omega) (fun _ => (u64_d m h).2) (by omega)]
  simp

theorem size_of_list (s : ByteArray) (l : List UInt8) (h : s.data.toList = l) : s.size = l.length := by rw [Lib.size_eq, h]
theorem ba_ext {a b : ByteArray} (h : a.data.toList = b.data.toList) : a = b := by
  apply ByteArray.ext; exact Array.toList_inj.1 h
theorem extract_tail (s : ByteArray) (k : Nat) : (s.extract k s.size).data.toList = s.data.toList.drop k := by
  rw [Lib.extract_data, List.take_of_length_le (by rw [List.length_drop, ← Lib.size_eq]; exact Nat.le_refl _)]

/-- A text's bytes are read as it, whatever follows. -/
theorem text_back (t s : ByteArray) (r : List UInt8) (most : Int) (h : s.data.toList = encT t ++ r) (ht : t.size < 18446744073709551616) (hm : (t.size : Int) ≤ most) :
    ∃ s', textR s 0 most = (t, s', 0) ∧ s'.data.toList = r := by
  have hn := num0_back t.size (t.data.toList ++ r) ht s (by rw [h, encT, List.append_assoc])
  have hsz : s.size = (encL t.size).length + t.size + r.length := by
    rw [size_of_list s _ h, encT, List.length_append, List.length_append, ← Lib.size_eq]
  refine ⟨s.extract ((encL t.size).length + t.size) s.size, ?_, ?_⟩
  · have h1 : text0 s most = (s.extract (encL t.size).length ((encL t.size).length + t.size), (encL t.size).length + t.size, 0) := by
      unfold text0
      rw [hn]
      dsimp only
      rw [if_neg (by decide), if_neg (by omega), if_neg (by omega)]
    unfold textR
    rw [h1, takeR_ok]
    congr 1
    apply ba_ext
    rw [Lib.extract_data, h, encT, List.append_assoc, List.drop_append_of_le_length (Nat.le_refl _), List.drop_of_length_le (Nat.le_refl _), List.nil_append,
      show (encL t.size).length + t.size - (encL t.size).length = t.size by omega, List.take_append_of_le_length (by rw [← Lib.size_eq]; exact Nat.le_refl _), List.take_of_length_le (by rw [← Lib.size_eq]; exact Nat.le_refl _)]
  · rw [extract_tail, h, List.drop_append_of_le_length (by rw [encT, List.length_append, ← Lib.size_eq]; exact Nat.le_refl _), List.drop_of_length_le (by rw [encT, List.length_append, ← Lib.size_eq]; exact Nat.le_refl _), List.nil_append]

theorem text_cut (t s : ByteArray) (r : List UInt8) (c : Nat) (most : Int) (h : s.data.toList = (encT t ++ r).take c) (ht : t.size < 18446744073709551616) (hm : (t.size : Int) ≤ most) (hc : c < (encT t).length) :
    textR s 0 most = (⟨#[]⟩, s, 2) := by
  have hel : (encT t).length = (encL t.size).length + t.size := by rw [encT, List.length_append, ← Lib.size_eq]
  by_cases h1 : c < (encL t.size).length
  · have hn := num0_cut t.size c (t.data.toList ++ r) ht h1 s (by rw [h, encT, List.append_assoc])
    have h2 : text0 s most = (⟨#[]⟩, 0, 2) := by
      unfold text0
      rw [hn]
      dsimp only
      rw [if_pos (by decide)]
    unfold textR
    rw [h2]
    rfl
  · have hn := num0_back t.size ((t.data.toList ++ r).take (c - (encL t.size).length)) ht s (by
      rw [h, encT, List.append_assoc, List.take_append, List.take_of_length_le (by omega)])
    have hsz : s.size = c := by rw [size_of_list s _ h, List.length_take, List.length_append]; omega
    have h2 : text0 s most = (⟨#[]⟩, 0, 2) := by
      unfold text0
      rw [hn]
      dsimp only
      rw [if_neg (by decide), if_neg (by omega), if_pos (by omega)]
    unfold textR
    rw [h2]
    rfl

theorem texts_back (most : Int) : ∀ (l acc : List ByteArray) (s : ByteArray) (r : List UInt8), s.data.toList = encTs l ++ r → (∀ t ∈ l, t.size < 18446744073709551616 ∧ (t.size : Int) ≤ most) →
    ∃ s', textsF most l.length acc s 0 = (acc ++ l, s', 0) ∧ s'.data.toList = r
  | [], acc, s, r, h, _ => ⟨s, by simp [textsF], by simpa [encTs] using h⟩
  | t :: l, acc, s, r, h, hl => by
    have h1 : s.data.toList = encT t ++ (encTs l ++ r) := by rw [h]; simp [encTs]
    have ht := hl t (by simp)
    obtain ⟨s1, e1, e2⟩ := text_back t s _ most h1 ht.1 ht.2
    obtain ⟨s2, e3, e4⟩ := texts_back most l (acc ++ [t]) s1 r e2 (fun x hx => hl x (by simp [hx]))
    refine ⟨s2, ?_, e4⟩
    rw [List.length_cons, textsF, if_pos rfl, e1]
    dsimp only
    rw [e3, List.append_assoc]
    rfl
theorem texts_cut (most : Int) : ∀ (l acc : List ByteArray) (s : ByteArray) (r : List UInt8) (c : Nat), s.data.toList = (encTs l ++ r).take c → c < (encTs l).length → (∀ t ∈ l, t.size < 18446744073709551616 ∧ (t.size : Int) ≤ most) →
    (textsF most l.length acc s 0).2.2 = 2
  | [], _, _, _, c, _, hc, _ => by simp [encTs] at hc
  | t :: l, acc, s, r, c, h, hc, hl => by
    have h1 : s.data.toList = (encT t ++ (encTs l ++ r)).take c := by rw [h]; simp [encTs]
    have hlen : (encTs (t :: l)).length = (encT t).length + (encTs l).length := by simp [encTs]
    have ht := hl t (by simp)
    rw [List.length_cons, textsF, if_pos rfl]
    by_cases hlt : c < (encT t).length
    · rw [text_cut t s _ c most h1 ht.1 ht.2 hlt]
      dsimp only
      rw [textsF_no _ _ _ _ _ (by decide)]
    · have h2 : s.data.toList = encT t ++ (encTs l ++ r).take (c - (encT t).length) := by
        rw [h1, List.take_append, List.take_of_length_le (by omega)]
      obtain ⟨s1, e1, e2⟩ := text_back t s _ most h2 ht.1 ht.2
      rw [e1]
      dsimp only
      exact texts_cut most l _ s1 r _ e2 (by omega) (fun x hx => hl x (by simp [hx]))

theorem list_back (l : List ByteArray) (s : ByteArray) (r : List UInt8) (most : Int) (h : s.data.toList = encLs l ++ r) (hn : l.length < 18446744073709551616) (hl : ∀ t ∈ l, t.size < 18446744073709551616 ∧ (t.size : Int) ≤ most) :
    ∃ s', listR s 0 l.length most = (l, s', 0) ∧ s'.data.toList = r := by
  have hnum := num0_back l.length (encTs l ++ r) hn s (by rw [h, encLs, List.append_assoc])
  have h1 : takeR (0 : Int) s 0 (list0 s l.length) = ((l.length : Int), s.extract (encL l.length).length s.size, 0) := by
    unfold list0
    rw [hnum]
    dsimp only
    rw [if_neg (by omega), takeR_ok]
  obtain ⟨s2, e1, e2⟩ := texts_back most l [] (s.extract (encL l.length).length s.size) r (by
    rw [extract_tail, h, encLs, List.append_assoc, List.drop_append_of_le_length (Nat.le_refl _), List.drop_of_length_le (Nat.le_refl _), List.nil_append]) hl
  refine ⟨s2, ?_, e2⟩
  unfold listR
  rw [h1]
  dsimp only
  rw [Int.toNat_natCast, e1]
  simp
theorem list_cut (l : List ByteArray) (s : ByteArray) (c : Nat) (most : Int) (h : s.data.toList = (encLs l).take c) (hc : c < (encLs l).length) (hn : l.length < 18446744073709551616) (hl : ∀ t ∈ l, t.size < 18446744073709551616 ∧ (t.size : Int) ≤ most) :
    listR s 0 l.length most = ([], s, 2) := by
  by_cases h1 : c < (encL l.length).length
  · have hnum := num0_cut l.length c (encTs l) hn h1 s (by rw [h, encLs])
    have h2 : takeR (0 : Int) s 0 (list0 s l.length) = (0, s, 2) := by
      unfold list0
      rw [hnum]
      dsimp only
      rw [if_neg (by omega), takeR_er _ _ _ _ _ (by decide)]
      rfl
    unfold listR
    rw [h2]
    rfl
  · have hnum := num0_back l.length ((encTs l).take (c - (encL l.length).length)) hn s (by rw [h, encLs, List.take_append, List.take_of_length_le (by omega)])
    have h2 : takeR (0 : Int) s 0 (list0 s l.length) = ((l.length : Int), s.extract (encL l.length).length s.size, 0) := by
      unfold list0
      rw [hnum]
      dsimp only
      rw [if_neg (by omega), takeR_ok]
    have h3 := texts_cut most l [] (s.extract (encL l.length).length s.size) [] (c - (encL l.length).length) (by
      rw [extract_tail, h, encLs, List.take_append, List.take_of_length_le (by omega), List.drop_append_of_le_length (Nat.le_refl _), List.drop_of_length_le (Nat.le_refl _), List.nil_append, List.append_nil])
      (by rw [encLs, List.length_append] at hc; omega) hl
    unfold listR
    rw [h2]
    dsimp only
    rw [Int.toNat_natCast, h3, if_neg (by decide)]

theorem encL_le10 (v : Nat) (h : v < 18446744073709551616) : (encL v).length ≤ 10 := by rw [← encB_size]; exact (encB_le v h).1
theorem encTs_le : ∀ (l : List ByteArray), (∀ t ∈ l, t.size < 18446744073709551616) → (encTs l).length ≤ 11 * (l.map fun s => s.size + 1).sum
  | [], _ => by simp [encTs]
  | t :: l, h => by
    have h1 := encTs_le l (fun x hx => h x (by simp [hx]))
    have h2 := encL_le10 t.size (h t (by simp))
    have h3 : (encTs (t :: l)).length = (encL t.size).length + t.size + (encTs l).length := by
      simp only [encTs, List.flatMap_cons, List.length_append, encT]
      rw [Lib.size_eq t]
    rw [h3]
    simp only [List.map_cons, List.sum_cons]
    omega
theorem len_le_sum : ∀ (l : List ByteArray), l.length ≤ (l.map fun s => s.size + 1).sum
  | [] => by simp
  | t :: l => by have := len_le_sum l; simp only [List.map_cons, List.sum_cons, List.length_cons]; omega
theorem size_le_sum : ∀ (l : List ByteArray), ∀ t ∈ l, t.size + 1 ≤ (l.map fun s => s.size + 1).sum
  | [], _, h => by simp at h
  | a :: l, t, h => by
    simp only [List.map_cons, List.sum_cons]
    rcases List.mem_cons.1 h with rfl | h
    · omega
    · have := size_le_sum l t h; omega
theorem encLs_le (l : List ByteArray) (B : Nat) (hB : (l.map fun s => s.size + 1).sum ≤ B) (hB2 : B < 1000000000) : (encLs l).length ≤ 10 + 11 * B := by
  have h1 := encTs_le l (fun t ht => by have := size_le_sum l t ht; omega)
  have h2 := encL_le10 l.length (by have := len_le_sum l; omega)
  rw [encLs, List.length_append]; omega
theorem size_lt_encLs (l : List ByteArray) (t : ByteArray) (h : t ∈ l) : t.size < (encLs l).length := by
  obtain ⟨a, b, rfl⟩ := List.append_of_mem h
  have h1 := encL_pos t.size
  have h2 := encL_pos (a ++ t :: b).length
  have h3 : (encT t).length = (encL t.size).length + t.size := by rw [encT, List.length_append, ← Lib.size_eq]
  have h4 : (encTs (a ++ t :: b)).length = (encTs a).length + ((encT t).length + (encTs b).length) := by simp [encTs]
  rw [encLs, List.length_append, h4]; omega
end Go.Proofs.Ytfemjlhfgmbcmaa
