/- Proved: WireSizes: a number has as many bytes as it has sevens of bits, one at least; one with a sign as its distance from 0, doubled; a text one behind the other with its length. For every input. -/
import Derived.Test.YtfemjlhfgmbcmaaPWireSizesx2
import Derived.Test.YtfemjlhfgmbcmaaIa
import Derived.DataShut
namespace Go.Proofs.Ytfemjlhfgmbcmaa.Pure
open Go.RowKit Go.Proofs.Ytfemjlhfgmbcmaa Go.Proofs.Ytfemjlhfgmbcmaa.PWireSizes Go.Proofs.YtfemjlhfgmbcmaaW.PrintWords Go.Proofs.YtfemjlhfgmbcmaaW.PrintLast

set_option maxRecDepth 100000 in
theorem sizes_j2 (k : Nat) (v : Nat) (n : Int) (s : ByteArray) (W d : Int) (_hv : v < 18446744073709551616) (hn : -9223372036854775808 ≤ n) (hn2 : n ≤ 9223372036854775807) (hs : s.size ≤ 140737488351232)
    (hW : ((encL v).length : Int) = W) (hd : d = (zig n : Int)) : wherrylaw01_WireSizes.j2 (k + 1) s true W (encB v) (encB (zig n)) (encB s.size ++ s) d = some true := by
  have hz := zig_lt n hn hn2
  have he := encB_le s.size (by omega)
  have ha : (encB s.size ++ s).size = (encB s.size).size + s.size := by rw [ByteArray.size_append]
  subst hd hW
  have hw : wrap64 (((encB s.size ++ s).size : Int) - (s.size : Int)) = ((encB s.size).size : Int) := by rw [ha]; unfold wrap64; omega
  rw [wherrylaw01_WireSizes.j2]
  simp only [hw]
  unfold wire_Uint.f
  rw [if_pos trivial, if_pos (by rw [encB_size]), if_pos (by omega), Option.bind_some, Int.toNat_natCast, Int.toNat_natCast]
  rw [if_pos rfl, if_pos (by omega), if_pos (by omega), if_pos (by rw [ha]; omega)]
  have hx : ((encB s.size ++ s).extract (encB s.size).size (encB s.size ++ s).size).toList = s.toList := by
    rw [Lib.toList_data, Lib.toList_data, Lib.extract_data, ByteArray.data_append, Array.toList_append, ha]
    rw [List.drop_append_of_le_length (by rw [← Lib.size_eq]; omega), List.drop_of_length_le (by rw [← Lib.size_eq]; omega), List.nil_append, List.take_of_length_le (by rw [← Lib.size_eq]; omega)]
  rw [if_pos hx]
  rw [show IntKind.u64.wrap (s.size : Int) = (s.size : Int) from wraps_u64 _ (by omega) (by omega)]
  rw [if_pos (by omega), Option.bind_some, Int.toNat_natCast]
  congr 1
  rw [Lib.toList_data, Lib.toList_data, Lib.extract_data, ByteArray.data_append, Array.toList_append, List.drop_zero, Nat.sub_zero, List.take_append_of_le_length (by rw [← Lib.size_eq]; omega), List.take_of_length_le (by rw [← Lib.size_eq]; omega)]
  simp

theorem sizes_j1 (k : Nat) (v : Nat) (n : Int) (s : ByteArray) (W : Int) (hv : v < 18446744073709551616) (hn : -9223372036854775808 ≤ n) (hn2 : n ≤ 9223372036854775807) (hs : s.size ≤ 140737488351232)
    (hW : ((encL v).length : Int) = W) : wherrylaw01_WireSizes.j1 (k + 2) v n s true W = some true := by
  simp only [wherrylaw01_WireSizes.j1, wire_Uint.f, wire_Int.f, wire_Text.f]
  rw [if_pos (by omega), if_pos (by omega), if_pos (by omega)]
  simp only [Option.bind_some, Int.toNat_natCast]
  by_cases h0 : n < 0
  · rw [if_pos h0]
    refine sizes_j2 k v n s W _ hv hn hn2 hs hW ?_
    simp only [IntKind.wrap_u64]
    unfold zig wrap64
    rw [if_neg (by omega)]
    omega
  · rw [if_neg h0]
    refine sizes_j2 k v n s W _ hv hn hn2 hs hW ?_
    simp only [IntKind.wrap_u64]
    unfold zig
    rw [if_pos (by omega)]
    omega

theorem sizes_l0 (v : Nat) (n : Int) (s : ByteArray) (hv : v < 18446744073709551616) (hn : -9223372036854775808 ≤ n) (hn2 : n ≤ 9223372036854775807) (hs : s.size ≤ 140737488351232) :
    ∀ (d y b : Nat), y < 2 ^ d → d ≤ 64 → b + blen y = blen v → wherrylaw01_WireSizes.l0 (d + 3) v n s true b y = some true
  | d, y, b, hy, hd, hb => by
    have hbl := blen_le 64 v (by omega)
    by_cases h0 : 0 < y
    · obtain ⟨d, rfl⟩ : ∃ m, d = m + 1 := ⟨d - 1, by
        have : d ≠ 0 := by rintro rfl; simp at hy; omega
        omega⟩
      have hs2 := blen_s h0
      rw [wherrylaw01_WireSizes.l0]
      rw [if_pos (by omega), show wrap64 ((b : Int) + 1) = ((b + 1 : Nat) : Int) by unfold wrap64; omega,
        show IntKind.u64.wrap (Int.tdiv (y : Int) 2) = ((y / 2 : Nat) : Int) by
          rw [show Int.tdiv (y : Int) 2 = ((y / 2 : Nat) : Int) from rfl]
          have : y < 2 ^ 64 := Nat.lt_of_lt_of_le hy (Nat.pow_le_pow_right (by decide) hd)
          exact wraps_u64 _ (by omega) (by omega)]
      exact sizes_l0 v n s hv hn hn2 hs d (y / 2) (b + 1) (by rw [Nat.pow_succ] at hy; omega) (by omega) (by omega)
    · have hy0 : y = 0 := by omega
      subst hy0
      rw [blen_0, Nat.add_zero] at hb
      subst hb
      have hL := encL_bits 64 v (by omega)
      rw [wherrylaw01_WireSizes.l0]
      rw [if_neg (by omega), show wrap64 ((blen v : Int) + 6) = ((blen v + 6 : Nat) : Int) by unfold wrap64; omega,
        show wrap64 (Int.tdiv ((blen v + 6 : Nat) : Int) 7) = (((blen v + 6) / 7 : Nat) : Int) by
          rw [show Int.tdiv ((blen v + 6 : Nat) : Int) 7 = (((blen v + 6) / 7 : Nat) : Int) from rfl]; unfold wrap64; omega]
      by_cases hz : blen v = 0
      · rw [if_pos (by omega)]
        rw [if_pos hz] at hL
        exact sizes_j1 d v n s 1 hv hn hn2 hs (by omega)
      · rw [if_neg (by omega)]
        rw [if_neg hz] at hL
        exact sizes_j1 d v n s _ hv hn hn2 hs (by omega)

theorem WireSizes : wherrylaw01_WireSizes.Pure := by
  intro v n s hv hn hs
  rw [Lit.wf_int_iff] at hv hn
  have h1 : (0 : Int) ≤ v := hv.1
  have h2 : v ≤ 18446744073709551615 := hv.2
  have h3 : (-9223372036854775808 : Int) ≤ n := hn.1
  have h4 : n ≤ 9223372036854775807 := hn.2
  obtain ⟨v, rfl⟩ := Int.eq_ofNat_of_zero_le h1
  refine ⟨64 + 3, ?_⟩
  simp only [wherrylaw01_WireSizes.f, wherrylaw01_shown.f, Option.bind_some]
  exact sizes_l0 v n s (by omega) h3 h4 hs 64 v 0 (by omega) (by omega) (by omega)
end Go.Proofs.Ytfemjlhfgmbcmaa.Pure
