/- The reference's Same, where both lists are the same. -/
import Derived.Test.YtfemjlhfgmbcmaaMa
namespace Go.Proofs.Ytfemjlhfgmbcmaa
open Go.RowKit Go.Proofs.YtfemjlhfgmbcmaaW.PrintWords Go.Proofs.YtfemjlhfgmbcmaaW.PrintLast Go.Proofs.YtfemjlhfgmbcmaaW.PrintMore

set_option maxRecDepth 100000 in
theorem Same_calls (A B : Option Addr) (c d : Nat) (l : List ByteArray) (w : World) (hA : Kd.C Kd.string w A l.length l) (hB : Kd.C Kd.string w B l.length l) (hn : l.length ≤ 9223372036854775807) :
    Calls Try.prog 50 #[.slice A l.length c, .slice B l.length d] w fun e w' => e = .returned (.bool true) ∧ Drawn0 w w' := by
  have HA := Lib.hid hA
  have HB := Lib.hid hB
  clear hA hB
  have H0 := Lib.hid (Drawn0.refl w)
  go_enter Try.func50, Try.ntmps50
  go_wp2_with fail
  go_loopw [5] (fun i W => ∃ k : Nat, i = .int .i64 k ∧ k ≤ l.length ∧ Drawn0 w W) (fun i _ => l.length - (intOf i).toNat)
  case atStart => exact ⟨0, rfl, Nat.zero_le _, H0.out⟩
  case round =>
    obtain ⟨k, rfl, hk, hw⟩ := hrel
    have HW := Lib.hid hw
    clear hw
    by_cases hlt : k < l.length
    · have hlt2 : (k : Int) < (l.length : Int) := by omega
      obtain ⟨a1, e1, x1⟩ := Kd.at_string (Kd.C_below HA.out HW.out.below) (k : Int) (by omega) hlt2
      obtain ⟨a2, e2, x2⟩ := Kd.at_string (Kd.C_below HB.out HW.out.below) (k : Int) (by omega) hlt2
      subst e1 e2
      rw [Int.toNat_natCast] at x1 x2
      generalize rdOf ByteArray.empty l (k : Int) = s at x1 x2
      go_wp2_with fail
      go_quiet (fail)
      go_wp2_with fail
      go_roundw
      case rel => exact ⟨k + 1, by go_num, by omega, by repeat (first | exact HW.out | apply Drawn0.step)⟩
      case measure => simp [intOf]; omega
    · go_wp2_with fail
      go_ret
      exact ⟨rfl, HW.out⟩
end Go.Proofs.Ytfemjlhfgmbcmaa
