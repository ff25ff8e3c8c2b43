/- The reference's reader: its number. -/
import Derived.Test.YtfemjlhfgmbcmaaOa
namespace Go.Proofs.Ytfemjlhfgmbcmaa
open Go.RowKit

theorem ref_step (x b k : Nat) (S : Int) (hS : S = ((2 ^ (7 * k) : Nat) : Int)) (hk : k ≤ 9) (hx : x < 2 ^ (7 * k)) (hb : b < 256) (h9 : k = 9 → b ≤ 1) :
    IntKind.u64.wrap ((x : Int) + IntKind.u64.wrap (Int.tmod (b : Int) 128 * S)) = ((x + b % 128 * 2 ^ (7 * k) : Nat) : Int) := by
  subst hS
  have hp := pow7_le k hk
  have hm : b % 128 * 2 ^ (7 * k) < 2 ^ 63 + 1 := by
    by_cases h : k = 9
    · have := h9 h; subst h
      have : b % 128 ≤ 1 := by omega
      have := Nat.mul_le_mul_right (2 ^ (7 * 9)) this
      omega
    · have h8 := Nat.pow_le_pow_right (n := 2) (by decide) (show 7 * k ≤ 56 by omega)
      have : b % 128 ≤ 127 := by omega
      have := Nat.mul_le_mul this h8
      omega
  have hx2 : x + b % 128 * 2 ^ (7 * k) < 2 ^ 64 := by
    by_cases h : b % 128 = 0
    · rw [h]; omega
    · omega
  have e1 : Int.tmod (b : Int) 128 = ((b % 128 : Nat) : Int) := by
    rw [Int.tmod_eq_emod_of_nonneg (by omega)]; omega
  have e : (((b % 128 : Nat) : Int) * ((2 ^ (7 * k) : Nat) : Int)) = ((b % 128 * 2 ^ (7 * k) : Nat) : Int) := by rw [Int.natCast_mul]
  have hm1 : b % 128 * 2 ^ (7 * k) < 2 ^ 64 := by omega
  generalize b % 128 * 2 ^ (7 * k) = m at *
  rw [e1, e, wraps_u64 (m : Int) (by omega) (by omega), ← Int.natCast_add, wraps_u64 _ (by omega) (by omega)]

theorem ref_scale (k : Nat) (S : Int) (hS : S = ((2 ^ (7 * k) : Nat) : Int)) (hk : k ≤ 8) : IntKind.u64.wrap (S * 128) = ((2 ^ (7 * (k + 1)) : Nat) : Int) := by
  have hp := pow7_le (k + 1) (by omega)
  have e : S * 128 = ((2 ^ (7 * (k + 1)) : Nat) : Int) := by
    rw [hS, pow7_succ, Int.natCast_mul]; exact Int.mul_comm _ _
  generalize 2 ^ (7 * (k + 1)) = m at *
  rw [e, wraps_u64 _ (by omega) (by omega)]

set_option maxRecDepth 100000 in
theorem refNumber_calls (s : ByteArray) (w : World) (hs : s.size ≤ maxLen) :
    Calls Try.prog 93 #[.string s] w fun e w' => e = .returned (.tuple #[.int .u64 (num0 s).1, .int .i64 (num0 s).2.1, .int .i64 (num0 s).2.2]) ∧ w = w' := by
  unfold maxLen at hs
  obtain ⟨R, hR⟩ : ∃ R, R = num0 s := ⟨_, rfl⟩
  rw [← hR]
  have HR := Lib.hid hR
  clear hR
  go_enter Try.func93, Try.ntmps93
  go_wp2
  go_loop [5, 6, 7] (fun v sc i => ∃ (k x : Nat) (S : Int), k ≤ s.size ∧ k ≤ 9 ∧ i = .int .i64 k ∧ v = .int .u64 x ∧ sc = .int .u64 S ∧ Hid (S = ((2 ^ (7 * k) : Nat) : Int)) ∧ Hid (x < 2 ^ (7 * k)) ∧ Hid (numL k x (s.data.toList.drop k) = R)) (fun _ _ i => s.size - (intOf i).toNat)
  case atStart => exact ⟨0, 0, 1, by omega, by omega, rfl, rfl, rfl, Lib.hid rfl, Lib.hid (by decide), by rw [HR.out]; rfl⟩
  case round =>
    obtain ⟨k, x, S, hk, hk9, rfl, rfl, rfl, hS, hx, HN⟩ := hrel
    clear HR
    by_cases hlt : k < s.size
    · have hb := s[k].toNat_lt
      have hN : numL k x (s[k] :: s.data.toList.drop (k + 1)) = R := by rw [← drop_at s k hlt]; exact HN.out
      have herr : Hid ((k = 9 ∧ 1 < s[k].toNat) ∨ (0 < k ∧ s[k].toNat = 0) → R = (0, 0, 3)) := fun h => by rw [← hN, numL, if_pos h]
      have hend : Hid (¬ ((k = 9 ∧ 1 < s[k].toNat) ∨ (0 < k ∧ s[k].toNat = 0)) → s[k].toNat < 128 → R = (x + s[k].toNat % 128 * 2 ^ (7 * k), k + 1, 0)) := fun h h2 => by rw [← hN, numL, if_neg h, if_pos h2]
      have hgo : Hid (¬ ((k = 9 ∧ 1 < s[k].toNat) ∨ (0 < k ∧ s[k].toNat = 0)) → ¬ s[k].toNat < 128 → numL (k + 1) (x + s[k].toNat % 128 * 2 ^ (7 * k)) (s.data.toList.drop (k + 1)) = R) := fun h h2 => by rw [← hN, numL, if_neg h, if_neg h2]
      have hst : Hid ((k = 9 → s[k].toNat ≤ 1) → IntKind.u64.wrap ((x : Int) + IntKind.u64.wrap (Int.tmod ((s[k].toNat : Nat) : Int) 128 * S)) = ((x + s[k].toNat % 128 * 2 ^ (7 * k) : Nat) : Int)) := fun h => ref_step x s[k].toNat k S hS.out hk9 hx.out hb h
      have hsc : Hid (k ≤ 8 → IntKind.u64.wrap (S * 128) = ((2 ^ (7 * (k + 1)) : Nat) : Int)) := fun h => ref_scale k S hS.out h
      have hlt2 := Lib.hid (num_lt x s[k].toNat k hx.out)
      have hwb : IntKind.u64.wrap ((s[k].toNat : Nat) : Int) = ((s[k].toNat : Nat) : Int) := wraps_u64 _ (by omega) (by omega)
      clear hN HN hS
      by_cases hz : s[k].toNat = 0
      all_goals
        first
        | (have hz0 : s[k].toNat ≤ 0 := by omega
           have hzb : (((s[k].toNat : Nat) : Int) == 0) = true := by simp [hz]
           clear hz)
        | (have hz0 : 0 < s[k].toNat := by omega
           have hzb : (((s[k].toNat : Nat) : Int) == 0) = false := by simp [hz]
           clear hz)
        go_wp2
        all_goals first
          | (go_round
             case rel => exact ⟨k + 1, _, _, by omega, by omega, by go_num, congrArg _ (hst.out (by omega)), rfl, hsc.out (by omega), hlt2.out, hgo.out (by omega) (by omega)⟩
             case measure => simp [intOf]; omega)
          | (go_ret3
             first
             | exact ⟨ret3_of (herr.out (by omega)) rfl rfl rfl, rfl⟩
             | exact ⟨ret3_of (hend.out (by omega) (by omega)) (hst.out (by omega)) (by go_num) rfl, rfl⟩
             | (have h9 : k = 9 := by omega
                have hv := hst.out (by omega)
                have hw := hend.out (by omega) (by omega)
                exact ⟨ret3_of hw hv (show (10 : Int) = ((k + 1 : Nat) : Int) by omega) rfl, rfl⟩))
    · have hN : numL k x [] = R := by rw [← HN.out, List.drop_of_length_le (by simp; omega)]
      have HN2 := Lib.hid hN
      clear hN HN
      go_wp2
      go_ret3
      exact ⟨ret3_of (HN2.out.symm.trans rfl) rfl rfl rfl, rfl⟩
end Go.Proofs.Ytfemjlhfgmbcmaa
