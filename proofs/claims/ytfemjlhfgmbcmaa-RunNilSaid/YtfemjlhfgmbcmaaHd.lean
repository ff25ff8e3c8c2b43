/- The contracts of the reader's calls that take a number, a byte, a text. -/
import Derived.Test.YtfemjlhfgmbcmaaHc
import Derived.Lib.Strings
namespace Go.Proofs.Ytfemjlhfgmbcmaa
open Go.RowKit

/-- A number with a sign, out of one without. -/
def sgn (v : Nat) : Int := if v % 2 = 0 then ((v / 2 : Nat) : Int) else -((v / 2 : Nat) : Int) - 1
theorem xor_i64_0 (x : Int) (h0 : 0 ≤ x) (h1 : x < 9223372036854775808) : bits .xor .i64 x 0 = x := by
  obtain ⟨a, rfl⟩ := Int.eq_ofNat_of_zero_le h0
  show IntKind.i64.wrap ((BitVec.ofInt 64 (a : Int) ^^^ BitVec.ofInt 64 (0 : Int)).toNat : Int) = _
  have h2 : (BitVec.ofInt 64 (a : Int)).toNat = a := by
    rw [BitVec.ofInt_natCast, BitVec.toNat_ofNat]; exact Nat.mod_eq_of_lt (by omega)
  rw [show BitVec.ofInt 64 (0 : Int) = 0#64 by decide, BitVec.xor_zero, h2, IntKind.wrap_i64]
  omega
theorem xor_i64_m1 (x : Int) (h0 : 0 ≤ x) (h1 : x < 9223372036854775808) : bits .xor .i64 x (-1) = -x - 1 := by
  obtain ⟨a, rfl⟩ := Int.eq_ofNat_of_zero_le h0
  show IntKind.i64.wrap ((BitVec.ofInt 64 (a : Int) ^^^ BitVec.ofInt 64 (-1 : Int)).toNat : Int) = _
  have h2 : (BitVec.ofInt 64 (a : Int)).toNat = a := by
    rw [BitVec.ofInt_natCast, BitVec.toNat_ofNat]; exact Nat.mod_eq_of_lt (by omega)
  rw [show BitVec.ofInt 64 (-1 : Int) = BitVec.allOnes 64 by decide, BitVec.xor_allOnes, BitVec.toNat_not, h2, IntKind.wrap_i64]
  omega
theorem sgn_bits (v : Nat) (h : v < 18446744073709551616) :
    bits .xor .i64 ((v : Int) / 2) (wrap64 (-wrap64 (bits .and .u64 (v : Int) 1))) = sgn v := by
  have ha : bits .and .u64 (v : Int) 1 = (v : Int) % 2 := by
    have := bits_mask .u64 64 (by decide) wraps_u64 1 (by decide) (v : Int) (by omega) (by omega)
    simpa using this
  rw [ha]
  unfold sgn
  by_cases h2 : v % 2 = 0
  · rw [if_pos h2, show (v : Int) % 2 = 0 by omega, show wrap64 (-wrap64 0) = 0 by simp [wrap64], xor_i64_0 _ (by omega) (by omega)]
    omega
  · rw [if_neg h2, show (v : Int) % 2 = 1 by omega, show wrap64 (-wrap64 1) = -1 by simp [wrap64], xor_i64_m1 _ (by omega) (by omega)]
    omega

theorem str_none {s : ByteArray} (h : s.size = 0) : s.toList = [] := by
  rw [Lib.toList_data]
  exact List.eq_nil_of_length_eq_zero (by rw [← Lib.size_eq]; exact h)
theorem str_some {s : ByteArray} (h : 0 < s.size) : s.toList.isEmpty = false := by
  rw [Lib.toList_data]
  have : 0 < s.data.toList.length := by rw [← Lib.size_eq]; exact h
  cases hd : s.data.toList with
  | nil => rw [hd] at this; simp at this
  | cons a l => rfl

theorem num0_lt (s : ByteArray) : (num0 s).1 < 18446744073709551616 := by
  by_cases h : (num0 s).2.2 = 0
  · exact (num0_ok s h).2.2.2
  · rw [(num0_no s h).1]; decide

theorem ret3_i64 {a a' b c : Int} (h : a = a') : Ending.returned (.tuple #[.int .i64 a, .int .i64 b, .int .i64 c]) = .returned (.tuple #[.int .i64 a', .int .i64 b, .int .i64 c]) := by rw [h]

set_option maxRecDepth 100000 in
theorem signed_calls (g : Nat) (s : ByteArray) (w : World) (hs : s.size ≤ maxLen) (h0 : w.cell? ⟨g, 0, none⟩ = some (.string s)) :
    Calls Try.prog 95 #[.pointer (some ⟨g, 0, none⟩)] w fun e w' => e = .returned (.tuple #[.int .i64 (sgn (num0 s).1), .int .i64 (num0 s).2.1, .int .i64 (num0 s).2.2]) ∧ w = w' := by
  have HN := Lib.hid (number_calls g s w hs h0)
  have hv := num0_lt s
  obtain ⟨T, hT⟩ : ∃ T, T = num0 s := ⟨_, rfl⟩
  rw [← hT] at HN hv ⊢
  clear hT
  obtain ⟨v, n, er⟩ := T
  dsimp only at HN hv ⊢
  have HV := Lib.hid (sgn_bits v hv)
  go_enter Try.func95, Try.ntmps95
  go_wp2_with (go_at_call 72; refine HN.out.mono ?_; rintro e w' ⟨rfl, rfl⟩)
  go_ret3
  exact ⟨ret3_i64 HV.out, rfl⟩

/-- The byte at the head of a text: it, how many bytes, why not. -/
def byte0 (s : ByteArray) : Int × Nat × Nat := if h : 0 < s.size then ((s[0].toNat : Int), 1, 0) else (0, 0, 2)

set_option maxRecDepth 100000 in
theorem byte_calls (g : Nat) (s : ByteArray) (w : World) (h0 : w.cell? ⟨g, 0, none⟩ = some (.string s)) :
    Calls Try.prog 97 #[.pointer (some ⟨g, 0, none⟩)] w fun e w' => e = .returned (.tuple #[.int .u8 (byte0 s).1, .int .i64 (byte0 s).2.1, .int .i64 (byte0 s).2.2]) ∧ w = w' := by
  by_cases h : 0 < s.size
  · have hb : byte0 s = ((s[0].toNat : Int), 1, 0) := by simp [byte0, h]
    have he := str_some h
    rw [hb]
    clear hb
    go_enter Try.func97, Try.ntmps97
    go_wp2
    go_ret3
    exact ⟨rfl, rfl⟩
  · have hb : byte0 s = (0, 0, 2) := by simp [byte0, h]
    rw [hb]
    have he : s.toList = [] := str_none (by omega)
    clear hb
    go_enter Try.func97, Try.ntmps97
    go_wp2
    go_ret3
    exact ⟨rfl, rfl⟩

/-- The text at the head of bytes: it, how many bytes, why not. -/
def text0 (s : ByteArray) (most : Int) : ByteArray × Nat × Nat :=
  if (num0 s).2.2 ≠ 0 then (⟨#[]⟩, 0, (num0 s).2.2)
  else if most < 0 ∨ most < (num0 s).1 then (⟨#[]⟩, 0, 13)
  else if s.size - (num0 s).2.1 < (num0 s).1 then (⟨#[]⟩, 0, 2)
  else (s.extract (num0 s).2.1 ((num0 s).2.1 + (num0 s).1), (num0 s).2.1 + (num0 s).1, 0)

set_option maxRecDepth 100000 in
theorem text1_calls (g p q : Nat) (s : ByteArray) (most : Int) (w : World) (hs : s.size ≤ maxLen) (hm : -9223372036854775808 ≤ most) (hm2 : most ≤ 9223372036854775807) (h0 : w.cell? ⟨g, 0, none⟩ = some (.string s))
    (hp : w.cell? ⟨p, 0, none⟩ = some (.pointer (some ⟨g, 0, none⟩))) (hq : w.cell? ⟨q, 0, none⟩ = some (.int .i64 most)) :
    Calls Try.prog 74 #[.pointer (some ⟨p, 0, none⟩), .pointer (some ⟨q, 0, none⟩)] w fun e w' => e = .returned (.tuple #[.string (text0 s most).1, .int .i64 (text0 s most).2.1, .int .i64 (text0 s most).2.2]) ∧ w = w' := by
  have HN := Lib.hid (number_calls g s w hs h0)
  have hv := num0_lt s
  have hok := num0_ok s
  have ht : text0 s most = if (num0 s).2.2 ≠ 0 then (⟨#[]⟩, 0, (num0 s).2.2)
    else if most < 0 ∨ most < (num0 s).1 then (⟨#[]⟩, 0, 13)
    else if s.size - (num0 s).2.1 < (num0 s).1 then (⟨#[]⟩, 0, 2)
    else (s.extract (num0 s).2.1 ((num0 s).2.1 + (num0 s).1), (num0 s).2.1 + (num0 s).1, 0) := rfl
  rw [ht]
  clear ht
  obtain ⟨T, hT⟩ : ∃ T, T = num0 s := ⟨_, rfl⟩
  rw [← hT] at HN hv hok ⊢
  clear hT
  obtain ⟨v, n, er⟩ := T
  dsimp only at HN hv hok ⊢
  unfold maxLen at hs
  by_cases her : er = 0
  · subst her
    obtain ⟨n0, n1, _, _⟩ := hok rfl
    clear hok
    rw [if_neg (by simp)]
    by_cases h1 : most < 0
    · rw [if_pos (.inl h1)]
      go_enter Try.func74, Try.ntmps74
      go_wp2_with (go_at_call 72; refine HN.out.mono ?_; rintro e w' ⟨rfl, rfl⟩)
      go_ret3
      exact ⟨rfl, rfl⟩
    · obtain ⟨m, rfl⟩ := Int.eq_ofNat_of_zero_le (show 0 ≤ most by omega)
      by_cases h2 : (m : Int) < v
      · rw [if_pos (.inr h2)]
        go_enter Try.func74, Try.ntmps74
        go_wp2_with (go_at_call 72; refine HN.out.mono ?_; rintro e w' ⟨rfl, rfl⟩)
        go_ret3
        exact ⟨rfl, rfl⟩
      · rw [if_neg (by omega)]
        by_cases h3 : s.size - n < v
        · have h3i : (s.size : Int) - n < v := by omega
          rw [if_pos h3]
          go_enter Try.func74, Try.ntmps74
          go_wp2_with (go_at_call 72; refine HN.out.mono ?_; rintro e w' ⟨rfl, rfl⟩)
          go_ret3
          exact ⟨rfl, rfl⟩
        · have h3i : ¬ (s.size : Int) - n < v := by omega
          rw [if_neg h3]
          go_enter Try.func74, Try.ntmps74
          go_wp2_with (go_at_call 72; refine HN.out.mono ?_; rintro e w' ⟨rfl, rfl⟩)
          go_ret3
          exact ⟨rfl, rfl⟩
  · have hb : ((er : Int) != 0) = true := by simpa using her
    rw [if_pos her]
    clear hok
    go_enter Try.func74, Try.ntmps74
    go_wp2_with (go_at_call 72; refine HN.out.mono ?_; rintro e w' ⟨rfl, rfl⟩)
    go_ret3
    exact ⟨rfl, rfl⟩

def uintR (s : ByteArray) (e : Int) : Int × ByteArray × Int := takeR (0 : Int) s e (((num0 s).1 : Int), (num0 s).2.1, (num0 s).2.2)
def intR (s : ByteArray) (e : Int) : Int × ByteArray × Int := takeR (0 : Int) s e (sgn (num0 s).1, (num0 s).2.1, (num0 s).2.2)
def byteR (s : ByteArray) (e : Int) : Int × ByteArray × Int := takeR (0 : Int) s e ((byte0 s).1, (byte0 s).2.1, (byte0 s).2.2)
def textR (s : ByteArray) (e : Int) (most : Int) : ByteArray × ByteArray × Int := takeR (⟨#[]⟩ : ByteArray) s e ((text0 s most).1, (text0 s most).2.1, (text0 s most).2.2)

theorem text0_ok (s : ByteArray) (most : Int) (h : (text0 s most).2.2 = 0) : (text0 s most).2.1 ≤ s.size := by
  have hok := num0_ok s
  unfold text0 at h ⊢
  by_cases c : (num0 s).2.2 ≠ 0
  · rw [if_pos c] at h; exact absurd h c
  · rw [if_neg c] at h ⊢
    have := hok (by omega)
    split at h
    · simp at h
    · split at h
      · simp at h
      · rename_i h1 h2
        rw [if_neg h1, if_neg h2]
        show (num0 s).2.1 + (num0 s).1 ≤ s.size
        omega
theorem byte0_ok (s : ByteArray) (h : (byte0 s).2.2 = 0) : (byte0 s).2.1 ≤ s.size := by
  unfold byte0 at h ⊢
  split at h
  · rename_i h1; simp only [h1, dif_pos]; omega
  · simp at h

theorem Uint_calls (g : Nat) (s : ByteArray) (e0 : Int) (w : World) (hs : s.size ≤ maxLen) (h : RdIs w g s e0) :
    Calls Try.prog 30 #[.pointer (some ⟨g, 0, none⟩)] w fun e w' => e = .returned (.int .u64 (uintR s e0).1) ∧ RdIs w' g (uintR s e0).2.1 (uintR s e0).2.2 ∧ Only g w w' := by
  have HT := Lib.hid (take71_72 g s e0 w h (num0 s).1 (num0 s).2.1 (num0 s).2.2 (fun _ => number_calls g s w hs h.c0) (fun e => (num0_ok s e).2.1))
  go_enter Try.func30, Try.ntmps30
  go_wp2_with (go_at_call 71; refine HT.out.mono ?_; rintro e w' ⟨rfl, h1, h2⟩)
  go_ret
  exact ⟨rfl, h1, h2⟩
theorem Int_calls (g : Nat) (s : ByteArray) (e0 : Int) (w : World) (hs : s.size ≤ maxLen) (h : RdIs w g s e0) :
    Calls Try.prog 52 #[.pointer (some ⟨g, 0, none⟩)] w fun e w' => e = .returned (.int .i64 (intR s e0).1) ∧ RdIs w' g (intR s e0).2.1 (intR s e0).2.2 ∧ Only g w w' := by
  have HT := Lib.hid (take94_95 g s e0 w h (sgn (num0 s).1) (num0 s).2.1 (num0 s).2.2 (fun _ => signed_calls g s w hs h.c0) (fun e => (num0_ok s e).2.1))
  go_enter Try.func52, Try.ntmps52
  go_wp2_with (go_at_call 94; refine HT.out.mono ?_; rintro e w' ⟨rfl, h1, h2⟩)
  go_ret
  exact ⟨rfl, h1, h2⟩
theorem Byte_calls (g : Nat) (s : ByteArray) (e0 : Int) (w : World) (h : RdIs w g s e0) :
    Calls Try.prog 54 #[.pointer (some ⟨g, 0, none⟩)] w fun e w' => e = .returned (.int .u8 (byteR s e0).1) ∧ RdIs w' g (byteR s e0).2.1 (byteR s e0).2.2 ∧ Only g w w' := by
  have HT := Lib.hid (take96_97 g s e0 w h (byte0 s).1 (byte0 s).2.1 (byte0 s).2.2 (fun _ => byte_calls g s w h.c0) (byte0_ok s))
  go_enter Try.func54, Try.ntmps54
  go_wp2_with (go_at_call 96; refine HT.out.mono ?_; rintro e w' ⟨rfl, h1, h2⟩)
  go_ret
  exact ⟨rfl, h1, h2⟩
theorem Text_calls (g : Nat) (s : ByteArray) (e0 : Int) (most : Int) (w : World) (hs : s.size ≤ maxLen) (hm : -9223372036854775808 ≤ most) (hm2 : most ≤ 9223372036854775807) (h : RdIs w g s e0) :
    Calls Try.prog 33 #[.pointer (some ⟨g, 0, none⟩), .int .i64 most] w fun e w' => e = .returned (.string (textR s e0 most).1) ∧ RdIs w' g (textR s e0 most).2.1 (textR s e0 most).2.2 ∧ Only g w w' := by
  have HT := fun (w1 : World) (h1 : RdIs w1 g s e0) (p q : Nat) (hp : w1.cell? ⟨p, 0, none⟩ = some (.pointer (some ⟨g, 0, none⟩))) (hq : w1.cell? ⟨q, 0, none⟩ = some (.int .i64 most)) =>
    take73_74 g s e0 w1 p q h1 (text0 s most).1 (text0 s most).2.1 (text0 s most).2.2 (fun _ => text1_calls g p q s most w1 hs hm hm2 h1.c0 hp hq) (text0_ok s most)
  have HT2 := Lib.hid HT
  clear HT
  go_enter Try.func33, Try.ntmps33
  go_wp2_with (go_at_call 73; refine (HT2.out _ ((h.alloc _).alloc _) _ _ ?hp ?hq).mono ?_; (case hp => go_simp); (case hq => go_simp); rintro e w' ⟨rfl, h1, h2⟩)
  go_ret
  exact ⟨rfl, h1, (((Only.refl g w).alloc _).alloc _).trans h2⟩

theorem Err_calls (g : Nat) (s : ByteArray) (e0 : Int) (w : World) (h : RdIs w g s e0) :
    Calls Try.prog 31 #[.pointer (some ⟨g, 0, none⟩)] w fun e w' => e = .returned (.int .i64 e0) ∧ w = w' := by
  have h1 := h.c1
  go_enter Try.func31, Try.ntmps31
  go_wp2
  go_ret
  exact ⟨rfl, rfl⟩
theorem Left_calls (g : Nat) (s : ByteArray) (e0 : Int) (w : World) (h : RdIs w g s e0) :
    Calls Try.prog 32 #[.pointer (some ⟨g, 0, none⟩)] w fun e w' => e = .returned (.int .i64 s.size) ∧ w = w' := by
  have h0 := h.c0
  go_enter Try.func32, Try.ntmps32
  go_wp2
  go_ret
  exact ⟨rfl, rfl⟩
def endR (s : ByteArray) (e : Int) : Int := if e = 0 ∧ 0 < s.size then 3 else e
theorem End_calls (g : Nat) (s : ByteArray) (e0 : Int) (w : World) (h : RdIs w g s e0) :
    Calls Try.prog 58 #[.pointer (some ⟨g, 0, none⟩)] w fun e w' => e = .returned (.int .i64 (endR s e0)) ∧ w = w' := by
  have h0 := h.c0
  by_cases he : e0 = 0
  · subst he
    by_cases hz : 0 < s.size
    · have hs := str_some hz
      rw [show endR s 0 = 3 by simp [endR, hz]]
      go_enter Try.func58, Try.ntmps58
      go_wp2_with (go_at_call 31; refine (Err_calls g s 0 _ h).mono ?_; rintro e w' ⟨rfl, rfl⟩)
      go_ret
      exact ⟨rfl, rfl⟩
    · have hs : s.toList = [] := str_none (by omega)
      rw [show endR s 0 = 0 by unfold endR; rw [if_neg (by simp [hz])]]
      go_enter Try.func58, Try.ntmps58
      go_wp2_with (go_at_call 31; refine (Err_calls g s 0 _ h).mono ?_; rintro e w' ⟨rfl, rfl⟩)
      go_ret
      exact ⟨rfl, rfl⟩
  · have hb : (e0 == 0) = false := by simpa using he
    rw [show endR s e0 = e0 by simp [endR, he]]
    go_enter Try.func58, Try.ntmps58
    go_wp2_with (go_at_call 31; refine (Err_calls g s e0 _ h).mono ?_; rintro e w' ⟨rfl, rfl⟩)
    go_ret
    exact ⟨rfl, rfl⟩
theorem Read_calls (s : ByteArray) (w : World) :
    Calls Try.prog 29 #[.string s] w fun e w' => e = .returned (.pointer (some ⟨w.heap.size, 0, none⟩)) ∧ RdIs w' w.heap.size s 0 ∧ Below w.heap.size w w' ∧ w'.heap.size = w.heap.size + 1 := by
  go_enter Try.func29, Try.ntmps29
  go_wp2
  go_ret
  exact ⟨rfl, heap_alloc_new _ _, (Below.refl _ _).alloc (Nat.le_refl _) _, by simp⟩
end Go.Proofs.Ytfemjlhfgmbcmaa
