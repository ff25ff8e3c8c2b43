/- The walk of FrameBack. Laid by gen_fj.py (this session's own program). -/
import Derived.Test.YtfemjlhfgmbcmaaFi
namespace Go.Proofs.Ytfemjlhfgmbcmaa
open Go.RowKit Go.Proofs.YtfemjlhfgmbcmaaW.PrintWords Go.Proofs.YtfemjlhfgmbcmaaW.PrintLast Go.Proofs.YtfemjlhfgmbcmaaW.PrintMore

theorem framesF_cut (k : Nat) (t : ByteArray) (c : Nat) (ht : t.size ≤ 65536) (s : ByteArray) (hs : s.data.toList = (putB k t).data.toList.take c) (hc : c < (putB k t).size) : goodL (framesF s) = 0 := by
  rw [framesF_nil s (.inr (by rw [takeF_cut k t c ht s hs hc]; decide))]; rfl

set_option maxHeartbeats 2000000 in
set_option maxRecDepth 100000 in
theorem back5_fin (kd cu : Int) (t m : ByteArray) (w : World) (ht : t.size ≤ maxLen) (hm : m.size ≤ 140737488351232) :
    Calls Try.prog 19 #[.agg #[.int .i64 kd, .string t, .string m, .int .i64 cu]] w fun e w' => e = .returned (.bool true) ∧ Below w.heap.size w w' := by
  unfold maxLen at ht
  have hu102 := Try.underlying102
  have H0 := Lib.hid (below_alloc (Below.refl w.heap.size w) (.cells #[.int .i64 kd, .string t, .string m, .int .i64 cu] 102))
  obtain ⟨k, hk⟩ := Int.eq_ofNat_of_zero_le (show 0 ≤ kd % 256 by omega)
  have hk2 : k < 256 := by omega
  have hw8 : IntKind.u8.wrap kd = (k : Int) := by rw [IntKind.wrap_u8]; exact hk
  have C1 := Lib.hid (fun W => Put_calls k t W (by unfold maxLen; omega))
  clear hk
  by_cases c1 : 65536 < t.size
  · have hpr : putR k t = (⟨#[]⟩, 13) := by unfold putR; rw [if_pos c1]
    rw [hpr] at C1
    have d1 : (65536 : Int) < t.size := by omega
    clear hpr
    go_enter Try.func19, Try.ntmps19
    go_wp2_with fail
    refine (shown5_calls _).mono ?_
    rintro e w1 ⟨rfl, hb⟩
    have H1 := Lib.hid (bstep H0.out hb)
    clear hb H0
    go_wp2_with fail
    refine (C1.out _).mono ?_
    rintro e w2 ⟨rfl, hb⟩
    have H2 := Lib.hid (bstep H1.out hb)
    clear hb H1
    go_wp2_with fail
    go_ret
    exact ⟨rfl, H2.out⟩
  have hpr : putR k t = (putB k t, 0) := by unfold putR; rw [if_neg c1]
  rw [hpr] at C1
  have hps := putB_size k t
  have hl10 := encL_le10 t.size (by omega)
  have htk := takeF_put k t m (by omega) hk2
  have hsm : (putB k t ++ m).size ≤ 9223372036854775807 := by rw [ByteArray.size_append]; omega
  have C2 := Lib.hid (fun W => Take_calls (putB k t ++ m) W (by unfold maxLen; exact hsm))
  rw [htk] at C2
  have hcut := Lib.hid (fun (c : Nat) (h : c < (putB k t).size) => takeF_cut k t c (by omega) ((putB k t).extract 0 c) (by rw [Lib.extract_data]; simp) h)
  have hgood := Lib.hid (fun (c : Nat) (h : c < (putB k t).size) => framesF_cut k t c (by omega) ((putB k t).extract 0 c) (by rw [Lib.extract_data]; simp) h)
  have hPs : (putB k t).size ≤ 65551 := by omega
  have hPm : (putB k t).size + m.size ≤ 9223372036854775807 := by omega
  have d1 : decide ((65536 : Int) < t.size) = false := by simp; omega
  generalize putB k t = P at *
  clear hpr hps hl10 htk hsm c1
  by_cases c2 : cu < 0
  · clear hcut hgood
    go_enter Try.func19, Try.ntmps19
    go_wp2_with fail
    refine (shown5_calls _).mono ?_
    rintro e w1 ⟨rfl, hb⟩
    have H1 := Lib.hid (bstep H0.out hb)
    clear hb H0
    go_wp2_with fail
    refine (C1.out _).mono ?_
    rintro e w2 ⟨rfl, hb⟩
    have H2 := Lib.hid (bstep H1.out hb)
    clear hb H1
    go_wp2_with fail
    refine (C2.out _).mono ?_
    rintro e w3 ⟨rfl, hb⟩
    have H3 := Lib.hid (bstep H2.out hb)
    clear hb H2
    go_wp2_with fail
    go_ret
    exact ⟨rfl, H3.out⟩
  obtain ⟨c, rfl⟩ := Int.eq_ofNat_of_zero_le (show 0 ≤ cu by omega)
  have d2 : decide ((c : Int) < 0) = false := by simp
  by_cases c3 : P.size ≤ c
  · have d3 : (P.size : Int) ≤ (c : Int) := by omega
    clear hcut hgood
    go_enter Try.func19, Try.ntmps19
    go_wp2_with fail
    refine (shown5_calls _).mono ?_
    rintro e w1 ⟨rfl, hb⟩
    have H1 := Lib.hid (bstep H0.out hb)
    clear hb H0
    go_wp2_with fail
    refine (C1.out _).mono ?_
    rintro e w2 ⟨rfl, hb⟩
    have H2 := Lib.hid (bstep H1.out hb)
    clear hb H1
    go_wp2_with fail
    refine (C2.out _).mono ?_
    rintro e w3 ⟨rfl, hb⟩
    have H3 := Lib.hid (bstep H2.out hb)
    clear hb H2
    go_wp2_with fail
    go_ret
    exact ⟨rfl, H3.out⟩
  have d3 : decide (P.size ≤ c) = false := by simp; omega
  have d4 : (c : Int) ≤ (P.size : Int) := by omega
  have hxs : (P.extract 0 c).size ≤ 65551 := by rw [extract_size_le _ _ _ (by omega)]; omega
  have C3 := Lib.hid (fun W => Take_calls (P.extract 0 c) W (by unfold maxLen; omega))
  rw [hcut.out c (by omega)] at C3
  have C4 := Lib.hid (fun W => Good_calls (P.extract 0 c) W (by unfold maxLen; omega))
  rw [hgood.out c (by omega)] at C4
  clear hcut hgood hxs c3
  go_enter Try.func19, Try.ntmps19
  go_wp2_with fail
  refine (shown5_calls _).mono ?_
  rintro e w1 ⟨rfl, hb⟩
  have H1 := Lib.hid (bstep H0.out hb)
  clear hb H0
  go_wp2_with fail
  refine (C1.out _).mono ?_
  rintro e w2 ⟨rfl, hb⟩
  have H2 := Lib.hid (bstep H1.out hb)
  clear hb H1
  go_wp2_with fail
  refine (C2.out _).mono ?_
  rintro e w3 ⟨rfl, hb⟩
  have H3 := Lib.hid (bstep H2.out hb)
  clear hb H2
  go_wp2_with fail
  refine (C3.out _).mono ?_
  rintro e w4 ⟨rfl, hb⟩
  have H4 := Lib.hid (bstep H3.out hb)
  clear hb H3
  go_wp2_with fail
  refine (C4.out _).mono ?_
  rintro e w5 ⟨rfl, hb⟩
  have H5 := Lib.hid (bstep H4.out hb)
  clear hb H4
  go_wp2_with fail
  go_ret
  exact ⟨rfl, H5.out⟩
end Go.Proofs.Ytfemjlhfgmbcmaa
