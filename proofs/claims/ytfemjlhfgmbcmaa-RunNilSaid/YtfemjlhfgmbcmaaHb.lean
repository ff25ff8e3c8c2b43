/- The contracts of the reader's inner functions. -/
import Derived.Test.YtfemjlhfgmbcmaaProg
import Derived.Test.YtfemjlhfgmbcmaaHa
import Derived.KernelRfl
import Derived.RowKit3
import Derived.Deep.LoopGhost
import Derived.Deep.QuietTactic
import Derived.BigQuiet
import Derived.Outline
import Derived.Lib.Hide
import Derived.WalkSpells
namespace Go.Proofs.Ytfemjlhfgmbcmaa
open Go.RowKit

theorem drop_at (s : ByteArray) (k : Nat) (h : k < s.size) : s.data.toList.drop k = s[k] :: s.data.toList.drop (k + 1) := by
  rw [List.drop_eq_getElem_cons (by simpa using h)]; rfl

theorem ret3_of {R T : Nat × Nat × Nat} {a b c : Int} (h : R = T) (ha : a = T.1) (hb : b = T.2.1) (hc : c = T.2.2) :
    Ending.returned (.tuple #[.int .u64 a, .int .i64 b, .int .i64 c]) = .returned (.tuple #[.int .u64 R.1, .int .i64 R.2.1, .int .i64 R.2.2]) := by
  rw [h, ha, hb, hc]

set_option maxRecDepth 100000 in
theorem number_calls (g : Nat) (s : ByteArray) (w : World) (hs : s.size ≤ maxLen) (h0 : w.cell? ⟨g, 0, none⟩ = some (.string s)) :
    Calls Try.prog 72 #[.pointer (some ⟨g, 0, none⟩)] w fun e w' => e = .returned (.tuple #[.int .u64 (num0 s).1, .int .i64 (num0 s).2.1, .int .i64 (num0 s).2.2]) ∧ w = w' := by
  unfold maxLen at hs
  obtain ⟨R, hR⟩ : ∃ R, R = num0 s := ⟨_, rfl⟩
  rw [← hR]
  have HR := Lib.hid hR
  clear hR
  go_enter Try.func72, Try.ntmps72
  go_wp2
  go_loop [5, 13] (fun v i => ∃ k x : Nat, k ≤ s.size ∧ k ≤ 9 ∧ i = .int .i64 k ∧ v = .int .u64 x ∧ x < 2 ^ (7 * k) ∧ Hid (numL k x (s.data.toList.drop k) = R)) (fun _ i => s.size - (intOf i).toNat)
  case atStart => exact ⟨0, 0, by omega, by omega, rfl, rfl, by decide, by rw [HR.out]; rfl⟩
  case round =>
    obtain ⟨k, x, hk, hk9, rfl, rfl, hx, HN⟩ := hrel
    clear HR
    by_cases hlt : k < s.size
    · have hb := s[k].toNat_lt
      have hN : numL k x (s[k] :: s.data.toList.drop (k + 1)) = R := by rw [← drop_at s k hlt]; exact HN.out
      have herr : Hid ((k = 9 ∧ 1 < s[k].toNat) ∨ (0 < k ∧ s[k].toNat = 0) → R = (0, 0, 3)) := fun h => by rw [← hN, numL, if_pos h]
      have hend : Hid (¬ ((k = 9 ∧ 1 < s[k].toNat) ∨ (0 < k ∧ s[k].toNat = 0)) → s[k].toNat < 128 → R = (x + s[k].toNat % 128 * 2 ^ (7 * k), k + 1, 0)) := fun h h2 => by rw [← hN, numL, if_neg h, if_pos h2]
      have hgo : Hid (¬ ((k = 9 ∧ 1 < s[k].toNat) ∨ (0 < k ∧ s[k].toNat = 0)) → ¬ s[k].toNat < 128 → numL (k + 1) (x + s[k].toNat % 128 * 2 ^ (7 * k)) (s.data.toList.drop (k + 1)) = R) := fun h h2 => by rw [← hN, numL, if_neg h, if_neg h2]
      have hst : Hid ((k = 9 → s[k].toNat ≤ 1) → bits .or .u64 (x : Int) (IntKind.u64.wrap (IntKind.u64.wrap (bits .and .u8 ((s[k].toNat : Nat) : Int) 127) * 2 ^ (7 * k))) = ((x + s[k].toNat % 128 * 2 ^ (7 * k) : Nat) : Int)) := fun h => num_step x s[k].toNat k hk9 hx hb h
      have hlt2 := Lib.hid (num_lt x s[k].toNat k hx)
      clear hN HN
      by_cases hz : s[k].toNat = 0
      all_goals
        first
        | (have hz0 : s[k].toNat ≤ 0 := by omega
           have hzb : (((s[k].toNat : Nat) : Int) == 0) = true := by simp [hz]
           clear hz)
        | (have hz0 : 0 < s[k].toNat := by omega
           have hzb : (((s[k].toNat : Nat) : Int) == 0) = false := by simp [hz]
           clear hz)
        go_wp2
        all_goals first
          | (go_round
             case rel => exact ⟨k + 1, _, by omega, by omega, by go_num, congrArg _ (hst.out (by omega)), hlt2.out, hgo.out (by omega) (by omega)⟩
             case measure => simp [intOf]; omega)
          | (go_ret3
             first
             | exact ⟨ret3_of (herr.out (by omega)) rfl rfl rfl, rfl⟩
             | exact ⟨ret3_of (hend.out (by omega) (by omega)) (hst.out (by omega)) (by go_num) rfl, rfl⟩
             | (have h9 : k = 9 := by omega
                have hv := hst.out (by omega)
                have hw := hend.out (by omega) (by omega)
                rw [show (2 : Int) ^ (7 * k) = 9223372036854775808 from by rw [h9]; decide] at hv
                exact ⟨ret3_of hw hv (show (10 : Int) = ((k + 1 : Nat) : Int) by omega) rfl, rfl⟩))
    · have hN : numL k x [] = R := by rw [← HN.out, List.drop_of_length_le (by simp; omega)]
      have HN2 := Lib.hid hN
      clear hN HN
      go_wp2
      go_ret3
      exact ⟨ret3_of (HN2.out.symm.trans rfl) rfl rfl rfl, rfl⟩
end Go.Proofs.Ytfemjlhfgmbcmaa
