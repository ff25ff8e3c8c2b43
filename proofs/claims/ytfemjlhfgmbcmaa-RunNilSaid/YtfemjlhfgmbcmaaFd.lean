/- The walks of a frame's taking. -/
import Derived.Test.YtfemjlhfgmbcmaaFc
import Derived.Test.YtfemjlhfgmbcmaaQb
namespace Go.Proofs.Ytfemjlhfgmbcmaa
open Go.RowKit Go.Proofs.YtfemjlhfgmbcmaaW.PrintWords Go.Proofs.YtfemjlhfgmbcmaaW.PrintLast Go.Proofs.YtfemjlhfgmbcmaaW.PrintMore

def kindOf (s : ByteArray) : Int := if h : 4 < s.size then (s[4].toNat : Int) else 0
def takeF (s : ByteArray) : Int × ByteArray × Nat × Nat :=
  if s.size < 6 then (0, ⟨#[]⟩, 0, 2)
  else if (num0 (s.extract 5 s.size)).2.2 ≠ 0 then (0, ⟨#[]⟩, 0, (num0 (s.extract 5 s.size)).2.2)
  else if 65536 < (num0 (s.extract 5 s.size)).1 then (0, ⟨#[]⟩, 0, 13)
  else if s.size < 5 + (num0 (s.extract 5 s.size)).2.1 + (num0 (s.extract 5 s.size)).1 then (0, ⟨#[]⟩, 0, 2)
  else if fourB (sumN (s.extract 4 (5 + (num0 (s.extract 5 s.size)).2.1 + (num0 (s.extract 5 s.size)).1))) = s.extract 0 4 then
    (kindOf s, s.extract (5 + (num0 (s.extract 5 s.size)).2.1) (5 + (num0 (s.extract 5 s.size)).2.1 + (num0 (s.extract 5 s.size)).1), 5 + (num0 (s.extract 5 s.size)).2.1 + (num0 (s.extract 5 s.size)).1, 0)
  else (0, ⟨#[]⟩, 0, 3)

theorem ret4 {a a' n n' e e' : Int} {t t' : ByteArray} (h1 : a = a') (h2 : t = t') (h3 : n = n') (h4 : e = e') : Ending.returned (.tuple #[.int .u8 a, .string t, .int .i64 n, .int .i64 e]) = .returned (.tuple #[.int .u8 a', .string t', .int .i64 n', .int .i64 e']) := by rw [h1, h2, h3, h4]
theorem ex_ex (s : ByteArray) (a b : Nat) : (s.extract a s.size).extract b (s.extract a s.size).size = s.extract (a + b) s.size := by
  apply ba_ext; rw [extract_tail, extract_tail, extract_tail, List.drop_drop]
theorem ex_ex2 (s : ByteArray) (a b c : Nat) : (s.extract a s.size).extract b c = s.extract (a + b) (a + c) := by
  apply ba_ext; rw [Lib.extract_data, extract_tail, Lib.extract_data, List.drop_drop]; congr 1; omega
theorem ba_list {a b : ByteArray} (h : a ≠ b) : (a.toList == b.toList) = false := by
  rw [Lib.toList_data, Lib.toList_data]
  exact beq_eq_false_iff_ne.mpr (fun e => h (ba_ext e))

set_option maxHeartbeats 1000000 in
set_option maxRecDepth 100000 in
theorem refTake_calls (s : ByteArray) (w : World) (hs : s.size ≤ maxLen) :
    Calls Try.prog 66 #[.string s] w fun e w' => e = .returned (.tuple #[.int .u8 (takeF s).1, .string (takeF s).2.1, .int .i64 (takeF s).2.2.1, .int .i64 (takeF s).2.2.2]) ∧ Below w.heap.size w w' := by
  unfold maxLen at hs
  have H0 := Lib.hid (Below.refl w.heap.size w)
  unfold takeF
  by_cases h6 : s.size < 6
  · have h7 : (s.size : Int) < 6 := by omega
    rw [if_pos h6]
    go_enter Try.func66, Try.ntmps66
    go_wp2_with fail
    try simp only [Exit.inBlock, Exit.then]
    refine bodyPost_ret (results_list (rs := [.tmp 2, .tmp 3, .tmp 4, .tmp 5]) rfl (by simp) (.tmp (.tmp (.tmp (.tmp .nil))))) rfl ?_
    exact ⟨rfl, H0.out⟩
  · have h7 : ¬ (s.size : Int) < 6 := by omega
    have h8 : (5 : Int) ≤ (s.size : Int) := by omega
    rw [if_neg h6]
    have hu : (s.extract 5 s.size).size = s.size - 5 := extract_size_le _ _ _ (Nat.le_refl _)
    have HN := Lib.hid (fun W => refNumber_calls (s.extract 5 s.size) W (by unfold maxLen; omega))
    have hok := num0_ok (s.extract 5 s.size)
    have hlt := num0_lt (s.extract 5 s.size)
    generalize num0 (s.extract 5 s.size) = T at HN hok hlt ⊢
    obtain ⟨v, k, er⟩ := T
    dsimp only at HN hok hlt ⊢
    by_cases he : er = 0
    · subst he
      obtain ⟨k0, k1, k2, _⟩ := hok rfl
      rw [if_neg (by simp)]
      clear hok
      by_cases c1 : 65536 < v
      · rw [if_pos c1]
        go_enter Try.func66, Try.ntmps66
        go_wp2_with fail
        refine (HN.out _).mono ?_
        rintro e w1 ⟨rfl, rfl⟩
        go_wp2_with fail
        try simp only [Exit.inBlock, Exit.then]
        refine bodyPost_ret (results_list (rs := [.tmp 2, .tmp 3, .tmp 4, .tmp 5]) rfl (by simp) (.tmp (.tmp (.tmp (.tmp .nil))))) rfl ?_
        exact ⟨rfl, H0.out⟩
      · rw [if_neg c1]
        by_cases c2 : s.size < 5 + k + v
        · have c3 : (s.size : Int) < 5 + (k : Int) + (v : Int) := by omega
          rw [if_pos c2]
          go_enter Try.func66, Try.ntmps66
          go_wp2_with fail
          refine (HN.out _).mono ?_
          rintro e w1 ⟨rfl, rfl⟩
          go_wp2_with fail
          try simp only [Exit.inBlock, Exit.then]
          refine bodyPost_ret (results_list (rs := [.tmp 2, .tmp 3, .tmp 4, .tmp 5]) rfl (by simp) (.tmp (.tmp (.tmp (.tmp .nil))))) rfl ?_
          exact ⟨rfl, H0.out⟩
        · have c3 : ¬ (s.size : Int) < 5 + (k : Int) + (v : Int) := by omega
          rw [if_neg c2]
          have hz1 : (0 : Int) ≤ 5 + (k : Int) + (v : Int) := by omega
          have hz2 : 5 + (k : Int) + (v : Int) ≤ (s.size : Int) := by omega
          have hz3 : (4 : Int) ≤ 5 + (k : Int) + (v : Int) := by omega
          have hz4 : (5 + (k : Int) + (v : Int)).toNat = 5 + k + v := by omega
          have hz5 : (4 : Int) ≤ (s.size : Int) := by omega
          have hz6 : (5 + (k : Int)).toNat = 5 + k := by omega
          have hz7 : (5 + (k : Int)) ≤ 5 + (k : Int) + (v : Int) := by omega
          have hz8 : (4 : Int) < (s.size : Int) := by omega
          have hki : kindOf s = (s[4].toNat : Int) := by unfold kindOf; rw [dif_pos (by omega)]
          have C1 := Lib.hid (fun W => refSum_b (s.extract 4 (5 + k + v)) W (by unfold maxLen; rw [extract_size_le _ _ _ (by omega)]; omega))
          have C2 := Lib.hid (fun W => refFour_calls (sumN (s.extract 4 (5 + k + v))) W (sumN_lt _))
          by_cases c4 : fourB (sumN (s.extract 4 (5 + k + v))) = s.extract 0 4
          · rw [if_pos c4, hki]
            rw [c4] at C2
            clear hki c4
            go_enter Try.func66, Try.ntmps66
            go_wp2_with fail
            refine (HN.out _).mono ?_
            rintro e w1 ⟨rfl, rfl⟩
            go_wp2_with fail
            go_region_held3 (fun w' => True) (trivial) (first | (go_at_call 64; refine (C1.out _).mono ?_; rintro e w' ⟨rfl, hb⟩; (first | (have HZ := Lib.hid (bstep H0.out hb)) | (have HZ := Lib.hid (bstep (below_drew1 H0.out) hb)))) | (go_at_call 99; refine (C2.out _).mono ?_; rintro e w' ⟨rfl, hb2⟩; have HY := Lib.hid (bstep HZ.out hb2)))
            all_goals
              go_wp2_with fail
              go_quiet (fail)
              go_wp2_with fail
              try simp only [Exit.inBlock, Exit.then]
              refine bodyPost_ret (results_list (rs := [.tmp 2, .tmp 3, .tmp 4, .tmp 5]) rfl (by simp) (.tmp (.tmp (.tmp (.tmp .nil))))) rfl ?_
              exact ⟨(show Ending.returned (.tuple #[.int .u8 (s[4].toNat : Int), .string (s.extract (5 + k) (5 + k + v)), .int .i64 (5 + (k : Int) + (v : Int)), .int .i64 0]) = _ from ret4 rfl rfl (by omega) rfl), by first | exact HY.out | exact pw_below_drewN HY.out _⟩
          · rw [if_neg c4]
            have c5 := ba_list c4
            generalize fourB (sumN (s.extract 4 (5 + k + v))) = F at c5 C2
            clear c4 hki
            go_enter Try.func66, Try.ntmps66
            go_wp2_with fail
            refine (HN.out _).mono ?_
            rintro e w1 ⟨rfl, rfl⟩
            go_wp2_with fail
            go_region_held3 (fun w' => True) (trivial) (first | (go_at_call 64; refine (C1.out _).mono ?_; rintro e w' ⟨rfl, hb⟩; (first | (have HZ := Lib.hid (bstep H0.out hb)) | (have HZ := Lib.hid (bstep (below_drew1 H0.out) hb)))) | (go_at_call 99; refine (C2.out _).mono ?_; rintro e w' ⟨rfl, hb2⟩; have HY := Lib.hid (bstep HZ.out hb2)))
            all_goals
              go_wp2_with fail
              try simp only [Exit.inBlock, Exit.then]
              refine bodyPost_ret (results_list (rs := [.tmp 2, .tmp 3, .tmp 4, .tmp 5]) rfl (by simp) (.tmp (.tmp (.tmp (.tmp .nil))))) rfl ?_
              exact ⟨rfl, by first | exact HY.out | exact pw_below_drewN HY.out _⟩
    · have hb : ((er : Int) != 0) = true := by simpa using he
      rw [if_pos he]
      clear hok
      go_enter Try.func66, Try.ntmps66
      go_wp2_with fail
      refine (HN.out _).mono ?_
      rintro e w1 ⟨rfl, rfl⟩
      go_wp2_with fail
      try simp only [Exit.inBlock, Exit.then]
      refine bodyPost_ret (results_list (rs := [.tmp 2, .tmp 3, .tmp 4, .tmp 5]) rfl (by simp) (.tmp (.tmp (.tmp (.tmp .nil))))) rfl ?_
      exact ⟨rfl, H0.out⟩
end Go.Proofs.Ytfemjlhfgmbcmaa
