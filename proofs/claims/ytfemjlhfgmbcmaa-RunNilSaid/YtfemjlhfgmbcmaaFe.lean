/- The walk of frame's Take. -/
import Derived.Test.YtfemjlhfgmbcmaaFd
namespace Go.Proofs.Ytfemjlhfgmbcmaa
open Go.RowKit Go.Proofs.YtfemjlhfgmbcmaaW.PrintWords Go.Proofs.YtfemjlhfgmbcmaaW.PrintLast Go.Proofs.YtfemjlhfgmbcmaaW.PrintMore

theorem kind_ex (s : ByteArray) (h : 6 ≤ s.size) (h0 : 0 < (s.extract 4 s.size).size) : (((s.extract 4 s.size)[0]).toNat : Int) = kindOf s := by
  have h1 := drop_at (s.extract 4 s.size) 0 h0
  rw [List.drop_zero, extract_tail, drop_at s 4 (by omega)] at h1
  injection h1 with h1 _
  unfold kindOf
  rw [dif_pos (by omega), ← h1]
theorem byteR_4 (s : ByteArray) (h : 6 ≤ s.size) : byteR (s.extract 4 s.size) 0 = (kindOf s, s.extract 5 s.size, 0) := by
  have hs : (s.extract 4 s.size).size = s.size - 4 := extract_size_le _ _ _ (Nat.le_refl _)
  unfold byteR byte0
  rw [dif_pos (by omega)]
  dsimp only
  rw [takeR_ok, ex_ex, kind_ex s h (by omega)]
theorem textR_eq (s : ByteArray) (e most : Int) : textR s e most = takeR (⟨#[]⟩ : ByteArray) s e (text0 s most) := rfl
theorem text0_eq (s : ByteArray) (most : Int) : text0 s most = if (num0 s).2.2 ≠ 0 then (⟨#[]⟩, 0, (num0 s).2.2)
    else if most < 0 ∨ most < (num0 s).1 then (⟨#[]⟩, 0, 13)
    else if s.size - (num0 s).2.1 < (num0 s).1 then (⟨#[]⟩, 0, 2)
    else (s.extract (num0 s).2.1 ((num0 s).2.1 + (num0 s).1), (num0 s).2.1 + (num0 s).1, 0) := rfl
theorem takeF_of (s : ByteArray) (h : 6 ≤ s.size) : ∃ (tt rest : ByteArray) (e : Nat), textR (s.extract 5 s.size) 0 65536 = (tt, rest, (e : Int)) ∧ (e ≠ 0 → takeF s = (0, ⟨#[]⟩, 0, e)) ∧
    (e = 0 → ∃ n, 5 ≤ n ∧ n ≤ s.size ∧ rest.size = s.size - n ∧ takeF s = if fourB (sumN (s.extract 4 n)) = s.extract 0 4 then (kindOf s, tt, n, 0) else (0, ⟨#[]⟩, 0, 3)) := by
  have hu : (s.extract 5 s.size).size = s.size - 5 := extract_size_le _ _ _ (Nat.le_refl _)
  have hok := num0_ok (s.extract 5 s.size)
  have hF : takeF s = if (num0 (s.extract 5 s.size)).2.2 ≠ 0 then (0, ⟨#[]⟩, 0, (num0 (s.extract 5 s.size)).2.2)
      else if 65536 < (num0 (s.extract 5 s.size)).1 then (0, ⟨#[]⟩, 0, 13)
      else if s.size < 5 + (num0 (s.extract 5 s.size)).2.1 + (num0 (s.extract 5 s.size)).1 then (0, ⟨#[]⟩, 0, 2)
      else if fourB (sumN (s.extract 4 (5 + (num0 (s.extract 5 s.size)).2.1 + (num0 (s.extract 5 s.size)).1))) = s.extract 0 4 then
        (kindOf s, s.extract (5 + (num0 (s.extract 5 s.size)).2.1) (5 + (num0 (s.extract 5 s.size)).2.1 + (num0 (s.extract 5 s.size)).1), 5 + (num0 (s.extract 5 s.size)).2.1 + (num0 (s.extract 5 s.size)).1, 0)
      else (0, ⟨#[]⟩, 0, 3) := by
    unfold takeF; rw [if_neg (show ¬ s.size < 6 by omega)]
  have hT := textR_eq (s.extract 5 s.size) 0 65536
  have hT0 := text0_eq (s.extract 5 s.size) 65536
  rw [hT, hF]
  clear hT hF
  generalize num0 (s.extract 5 s.size) = T at hok hT0 ⊢
  obtain ⟨v, k, er⟩ := T
  dsimp only at hok hT0 ⊢
  by_cases he : er = 0
  · subst he
    obtain ⟨k0, k1, k2, _⟩ := hok rfl
    rw [if_neg (by simp)] at hT0 ⊢
    by_cases c1 : 65536 < v
    · rw [if_pos c1]
      rw [if_pos (Or.inr (by omega))] at hT0
      rw [hT0, takeR_er _ _ _ _ _ (by decide)]
      exact ⟨_, _, 13, rfl, fun _ => rfl, fun h => absurd h (by decide)⟩
    · rw [if_neg c1]
      rw [if_neg (show ¬ ((65536 : Int) < 0 ∨ (65536 : Int) < v) by omega)] at hT0
      by_cases c2 : s.size < 5 + k + v
      · rw [if_pos c2]
        rw [if_pos (show (s.extract 5 s.size).size - k < v by omega)] at hT0
        rw [hT0, takeR_er _ _ _ _ _ (by decide)]
        exact ⟨_, _, 2, rfl, fun _ => rfl, fun h => absurd h (by decide)⟩
      · rw [if_neg c2]
        rw [if_neg (show ¬ (s.extract 5 s.size).size - k < v by omega), ex_ex2] at hT0
        rw [hT0, takeR_ok, ex_ex]
        refine ⟨_, _, 0, rfl, fun h => absurd rfl h, fun _ => ⟨5 + k + v, by omega, by omega, ?_, ?_⟩⟩
        · rw [extract_size_le _ _ _ (Nat.le_refl _)]; omega
        · rw [Nat.add_assoc 5 k v]
  · rw [if_pos he] at hT0 ⊢
    rw [hT0, takeR_er _ _ _ _ _ he]
    exact ⟨_, _, er, rfl, fun _ => rfl, fun h => absurd h he⟩

set_option maxHeartbeats 1000000 in
set_option maxRecDepth 100000 in
theorem Take_calls (s : ByteArray) (w : World) (hs : s.size ≤ maxLen) :
    Calls Try.prog 65 #[.string s] w fun e w' => e = .returned (.tuple #[.int .u8 (takeF s).1, .string (takeF s).2.1, .int .i64 (takeF s).2.2.1, .int .i64 (takeF s).2.2.2]) ∧ Below w.heap.size w w' := by
  unfold maxLen at hs
  have H0 := Lib.hid (Below.refl w.heap.size w)
  by_cases h6 : s.size < 6
  · have h7 : (s.size : Int) < 6 := by omega
    unfold takeF
    rw [if_pos h6]
    go_enter Try.func65, Try.ntmps65
    go_wp2_with fail
    try simp only [Exit.inBlock, Exit.then]
    refine bodyPost_ret (results_list (rs := [.tmp 2, .tmp 3, .tmp 4, .tmp 5]) rfl (by simp) (.tmp (.tmp (.tmp (.tmp .nil))))) rfl ?_
    exact ⟨rfl, H0.out⟩
  · have h7 : ¬ (s.size : Int) < 6 := by omega
    have h8 : (4 : Int) ≤ (s.size : Int) := by omega
    obtain ⟨tt, rest, er, ht, t1, t2⟩ := takeF_of s (by omega)
    have hb4 := byteR_4 s (by omega)
    have hu4 : (s.extract 4 s.size).size = s.size - 4 := extract_size_le _ _ _ (Nat.le_refl _)
    have hu5 : (s.extract 5 s.size).size = s.size - 5 := extract_size_le _ _ _ (Nat.le_refl _)
    have C1 := Lib.hid (fun (g : Nat) (W : World) (h : RdIs W g (s.extract 4 s.size) 0) => Byte_calls g (s.extract 4 s.size) 0 W h)
    have C2 := Lib.hid (fun (g : Nat) (W : World) (h : RdIs W g (s.extract 5 s.size) 0) => Text_calls g (s.extract 5 s.size) 0 65536 W (by unfold maxLen; omega) (by decide) (by decide) h)
    rw [hb4] at C1
    rw [ht] at C2
    clear hb4 ht hu4 hu5
    by_cases he : er = 0
    · subst he
      obtain ⟨n, hn1, hn2, hrs, hT⟩ := t2 rfl
      rw [hT]
      clear hT t1 t2
      have hz1 : (s.size : Int) - (rest.size : Int) = (n : Int) := by omega
      have hz0 : (rest.size : Int) ≤ (s.size : Int) := by omega
      have hz2 : (4 : Int) ≤ (n : Int) := by omega
      have hz3 : (n : Int) ≤ (s.size : Int) := by omega
      have D1 := Lib.hid (fun W => Sum_calls (s.extract 4 n) W (by unfold maxLen; rw [extract_size_le _ _ _ hn2]; omega))
      have D2 := Lib.hid (fun W => four_calls (sumN (s.extract 4 n)) W (sumN_lt _))
      generalize kindOf s = kd at C1 ⊢
      by_cases c4 : fourB (sumN (s.extract 4 n)) = s.extract 0 4
      · rw [if_pos c4]
        rw [c4] at D2
        clear c4 hn1 hn2 hrs
        go_enter Try.func65, Try.ntmps65
        go_wp2_with fail
        refine (Read_calls2 _ _).mono ?_
        rintro e w1 ⟨g, rfl, h1, hb, hg⟩
        have H1 := Lib.hid (bstep H0.out hb)
        have R1 := Lib.hid h1
        have HG := Lib.hid hg
        clear hb h1 hg
        go_wp2_with fail
        refine (C1.out _ _ R1.out).mono ?_
        rintro e w2 ⟨rfl, h1, ho⟩
        have H2 := Lib.hid (ho.toBelow H1.out HG.out H1.out.size)
        have R2 := Lib.hid h1
        clear h1 ho R1 H1
        go_wp2_with fail
        refine (C2.out _ _ R2.out).mono ?_
        rintro e w3 ⟨rfl, h1, ho⟩
        have H3 := Lib.hid (ho.toBelow H2.out HG.out H2.out.size)
        have R3 := Lib.hid h1
        clear h1 ho R2 H2
        go_wp2_with fail
        refine (Err_calls _ _ _ _ R3.out).mono ?_
        rintro e w4 ⟨rfl, rfl⟩
        go_wp2_with fail
        refine (Left_calls _ _ _ _ R3.out).mono ?_
        rintro e w4 ⟨rfl, rfl⟩
        go_wp2_with fail
        
        go_region_held3 (fun w' => True) (trivial) (first | (go_at_call 63; refine (D1.out _).mono ?_; rintro e w' ⟨rfl, hb⟩; (first | (have HZ := Lib.hid (bstep H3.out hb)) | (have HZ := Lib.hid (bstep (below_drew1 H3.out) hb)))) | (go_at_call 98; refine (D2.out _).mono ?_; rintro e w' ⟨rfl, hb2⟩; have HY := Lib.hid (bstep HZ.out hb2)))
        all_goals
          go_wp2_with fail
          try simp only [Exit.inBlock, Exit.then]
          refine bodyPost_ret (results_list (rs := [.tmp 2, .tmp 3, .tmp 4, .tmp 5]) rfl (by simp) (.tmp (.tmp (.tmp (.tmp .nil))))) rfl ?_
          exact ⟨rfl, by first | exact HY.out | exact pw_below_drewN HY.out _⟩
      · rw [if_neg c4]
        have c5 := ba_list c4
        generalize fourB (sumN (s.extract 4 n)) = F at c5 D2
        clear c4 hn1 hn2 hrs
        go_enter Try.func65, Try.ntmps65
        go_wp2_with fail
        refine (Read_calls2 _ _).mono ?_
        rintro e w1 ⟨g, rfl, h1, hb, hg⟩
        have H1 := Lib.hid (bstep H0.out hb)
        have R1 := Lib.hid h1
        have HG := Lib.hid hg
        clear hb h1 hg
        go_wp2_with fail
        refine (C1.out _ _ R1.out).mono ?_
        rintro e w2 ⟨rfl, h1, ho⟩
        have H2 := Lib.hid (ho.toBelow H1.out HG.out H1.out.size)
        have R2 := Lib.hid h1
        clear h1 ho R1 H1
        go_wp2_with fail
        refine (C2.out _ _ R2.out).mono ?_
        rintro e w3 ⟨rfl, h1, ho⟩
        have H3 := Lib.hid (ho.toBelow H2.out HG.out H2.out.size)
        have R3 := Lib.hid h1
        clear h1 ho R2 H2
        go_wp2_with fail
        refine (Err_calls _ _ _ _ R3.out).mono ?_
        rintro e w4 ⟨rfl, rfl⟩
        go_wp2_with fail
        refine (Left_calls _ _ _ _ R3.out).mono ?_
        rintro e w4 ⟨rfl, rfl⟩
        go_wp2_with fail
        
        go_region_held3 (fun w' => True) (trivial) (first | (go_at_call 63; refine (D1.out _).mono ?_; rintro e w' ⟨rfl, hb⟩; (first | (have HZ := Lib.hid (bstep H3.out hb)) | (have HZ := Lib.hid (bstep (below_drew1 H3.out) hb)))) | (go_at_call 98; refine (D2.out _).mono ?_; rintro e w' ⟨rfl, hb2⟩; have HY := Lib.hid (bstep HZ.out hb2)))
        all_goals
          go_wp2_with fail
          try simp only [Exit.inBlock, Exit.then]
          refine bodyPost_ret (results_list (rs := [.tmp 2, .tmp 3, .tmp 4, .tmp 5]) rfl (by simp) (.tmp (.tmp (.tmp (.tmp .nil))))) rfl ?_
          exact ⟨rfl, by first | exact HY.out | exact pw_below_drewN HY.out _⟩
    · have hb : ((er : Int) != 0) = true := by simpa using he
      rw [t1 he]
      clear t1 t2 he
      go_enter Try.func65, Try.ntmps65
      go_wp2_with fail
      refine (Read_calls2 _ _).mono ?_
      rintro e w1 ⟨g, rfl, h1, hb, hg⟩
      have H1 := Lib.hid (bstep H0.out hb)
      have R1 := Lib.hid h1
      have HG := Lib.hid hg
      clear hb h1 hg
      go_wp2_with fail
      refine (C1.out _ _ R1.out).mono ?_
      rintro e w2 ⟨rfl, h1, ho⟩
      have H2 := Lib.hid (ho.toBelow H1.out HG.out H1.out.size)
      have R2 := Lib.hid h1
      clear h1 ho R1 H1
      go_wp2_with fail
      refine (C2.out _ _ R2.out).mono ?_
      rintro e w3 ⟨rfl, h1, ho⟩
      have H3 := Lib.hid (ho.toBelow H2.out HG.out H2.out.size)
      have R3 := Lib.hid h1
      clear h1 ho R2 H2
      go_wp2_with fail
      refine (Err_calls _ _ _ _ R3.out).mono ?_
      rintro e w4 ⟨rfl, rfl⟩
      go_wp2_with fail
      try simp only [Exit.inBlock, Exit.then]
      refine bodyPost_ret (results_list (rs := [.tmp 2, .tmp 3, .tmp 4, .tmp 5]) rfl (by simp) (.tmp (.tmp (.tmp (.tmp .nil))))) rfl ?_
      exact ⟨rfl, H3.out⟩
end Go.Proofs.Ytfemjlhfgmbcmaa
