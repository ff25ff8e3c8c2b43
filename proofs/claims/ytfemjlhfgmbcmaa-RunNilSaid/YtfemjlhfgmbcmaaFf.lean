/- Plain: what was put is taken, whatever follows; no true beginning of it is a frame; the examples at the head of frame's statements. -/
import Derived.Test.YtfemjlhfgmbcmaaFe
namespace Go.Proofs.Ytfemjlhfgmbcmaa
open Go.RowKit Go.Proofs.YtfemjlhfgmbcmaaW.PrintWords Go.Proofs.YtfemjlhfgmbcmaaW.PrintLast Go.Proofs.YtfemjlhfgmbcmaaW.PrintMore

theorem mid_list {α : Type} (A B C : List α) (a b : Nat) (ha : a = A.length) (hb : b = a + B.length) : ((A ++ (B ++ C)).drop a).take (b - a) = B := by
  subst ha hb
  rw [List.drop_left, Nat.add_sub_cancel_left, List.take_left]
theorem mid_ba (s : ByteArray) (A B C : List UInt8) (a b : Nat) (hs : s.data.toList = A ++ (B ++ C)) (ha : a = A.length) (hb : b = a + B.length) : (s.extract a b).data.toList = B := by
  rw [Lib.extract_data, hs]; exact mid_list A B C a b ha hb
theorem tail_ba (s : ByteArray) (A C : List UInt8) (a : Nat) (hs : s.data.toList = A ++ C) (ha : a = A.length) : (s.extract a s.size).data.toList = C := by
  rw [extract_tail, hs, ha, List.drop_left]
theorem bodyB_list (k : Nat) (t : ByteArray) : (bodyB k t).data.toList = UInt8.ofNat k :: (encL t.size ++ t.data.toList) := by
  unfold bodyB; simp [encB]
theorem bodyB_size (k : Nat) (t : ByteArray) : (bodyB k t).size = 1 + (encL t.size).length + t.size := by
  rw [size_of_list _ _ (bodyB_list k t), List.length_cons, List.length_append, ← Lib.size_eq]; omega
theorem four_list (v : Nat) : ∃ a b c d, (fourB v).data.toList = [a, b, c, d] := ⟨_, _, _, _, rfl⟩
theorem putB_list (k : Nat) (t : ByteArray) : (putB k t).data.toList = (fourB (sumN (bodyB k t))).data.toList ++ (bodyB k t).data.toList := by
  unfold putB; simp
theorem putB_size (k : Nat) (t : ByteArray) : (putB k t).size = 5 + (encL t.size).length + t.size := by
  unfold putB; rw [ByteArray.size_append, fourB_size, bodyB_size]; omega
theorem kind_list (s : ByteArray) (a b c d k : UInt8) (r : List UInt8) (hs : s.data.toList = a :: b :: c :: d :: k :: r) : kindOf s = (k.toNat : Int) := by
  have h4 : 4 < s.size := by rw [Lib.size_eq, hs]; simp
  have h := drop_at s 4 h4
  rw [hs] at h
  unfold kindOf
  rw [dif_pos h4]
  injection h with h _
  rw [← h]

/-- A frame that stands at the head is taken; also where its bytes are not its own sum's. -/
theorem takeF_at (s : ByteArray) (F : List UInt8) (k : Nat) (t : ByteArray) (m : List UInt8) (hF : F.length = 4) (hs : s.data.toList = F ++ ((bodyB k t).data.toList ++ m)) (ht : t.size ≤ 65536) (hk : k < 256) :
    takeF s = if (fourB (sumN (bodyB k t))).data.toList = F then ((k : Int), t, 5 + (encL t.size).length + t.size, 0) else (0, ⟨#[]⟩, 0, 3) := by
  have hb := bodyB_list k t
  have hp := encL_pos t.size
  have hsz : s.size = 5 + (encL t.size).length + t.size + m.length := by
    rw [size_of_list _ _ hs, List.length_append, List.length_append, hF, ← Lib.size_eq, bodyB_size]; omega
  have h5 : (s.extract 5 s.size).data.toList = encL t.size ++ (t.data.toList ++ m) := by
    refine tail_ba s (F ++ [UInt8.ofNat k]) _ 5 ?_ (by simp [hF])
    rw [hs, hb]; simp
  have hn := num0_back t.size _ (by omega) _ h5
  have hbody : s.extract 4 (5 + (encL t.size).length + t.size) = bodyB k t := by
    apply ba_ext
    exact mid_ba s F _ m 4 _ hs hF.symm (by rw [← Lib.size_eq, bodyB_size]; omega)
  have htxt : s.extract (5 + (encL t.size).length) (5 + (encL t.size).length + t.size) = t := by
    apply ba_ext
    refine mid_ba s (F ++ (UInt8.ofNat k :: encL t.size)) _ m _ _ ?_ (by simp [hF]; omega) (by rw [← Lib.size_eq])
    rw [hs, hb]; simp
  have hfour : (s.extract 0 4).data.toList = F := mid_ba s [] F ((bodyB k t).data.toList ++ m) 0 4 (by simpa using hs) rfl (by omega)
  have hkind : kindOf s = (k : Int) := by
    match F, hF with
    | [a, b, c, d], _ =>
      rw [hb] at hs
      rw [kind_list s a b c d (UInt8.ofNat k) _ (by rw [hs]; rfl), UInt8.toNat_ofNat']
      omega
  unfold takeF
  rw [if_neg (by omega), hn]
  dsimp only
  rw [if_neg (by simp), if_neg (by omega), if_neg (by omega), hbody, htxt, hkind]
  by_cases he : (fourB (sumN (bodyB k t))).data.toList = F
  · rw [if_pos he, if_pos (ba_ext (by rw [hfour]; exact he))]
  · rw [if_neg he, if_neg (fun e => he (by rw [e]; exact hfour))]
theorem takeF_put (k : Nat) (t m : ByteArray) (ht : t.size ≤ 65536) (hk : k < 256) : takeF (putB k t ++ m) = ((k : Int), t, (putB k t).size, 0) := by
  rw [takeF_at _ (fourB (sumN (bodyB k t))).data.toList k t m.data.toList rfl (by simp [putB_list]) ht hk, if_pos rfl, putB_size]
theorem takeF_cut (k : Nat) (t : ByteArray) (c : Nat) (ht : t.size ≤ 65536) (s : ByteArray) (hs : s.data.toList = (putB k t).data.toList.take c) (hc : c < (putB k t).size) : takeF s = (0, ⟨#[]⟩, 0, 2) := by
  have hps := putB_size k t
  have hp := encL_pos t.size
  have hsz : s.size = c := by rw [size_of_list _ _ hs, List.length_take, ← Lib.size_eq]; omega
  obtain ⟨a, b, c', d, h4⟩ := four_list (sumN (bodyB k t))
  have hl : (putB k t).data.toList = [a, b, c', d, UInt8.ofNat k] ++ (encL t.size ++ t.data.toList) := by rw [putB_list, h4, bodyB_list]; rfl
  unfold takeF
  by_cases h6 : s.size < 6
  · rw [if_pos h6]
  · rw [if_neg h6]
    have h5 : (s.extract 5 s.size).data.toList = (encL t.size ++ t.data.toList).take (c - 5) := by
      rw [extract_tail, hs, hl, List.take_append, List.take_of_length_le (by simp; omega)]; rfl
    by_cases h7 : c - 5 < (encL t.size).length
    · rw [num0_cut t.size (c - 5) _ (by omega) h7 _ h5]
      rw [if_pos (by decide)]
    · rw [num0_back t.size (t.data.toList.take (c - 5 - (encL t.size).length)) (by omega) _ (by rw [h5, List.take_append, List.take_of_length_le (by omega)])]
      dsimp only
      rw [if_neg (by simp), if_neg (by omega), if_pos (by omega)]
theorem takeF_none : takeF ⟨#[]⟩ = (0, ⟨#[]⟩, 0, 2) := by kernel_rfl
theorem sum_shown : sumN ⟨#[49, 50, 51, 52, 53, 54, 55, 56, 57]⟩ = 3421780262 := by decide +kernel

set_option maxHeartbeats 1000000 in
set_option maxRecDepth 100000 in
theorem shown5_calls (w : World) : Calls Try.prog 60 #[] w fun e w' => e = .returned (.bool true) ∧ Below w.heap.size w w' := by
  have C1 := Lib.hid (fun W => Sum_calls ⟨#[49, 50, 51, 52, 53, 54, 55, 56, 57]⟩ W (by decide))
  rw [sum_shown] at C1
  have C2 := Lib.hid (fun W => Put_calls 1 ⟨#[]⟩ W (by decide))
  have hp : putR 1 ⟨#[]⟩ = (putB 1 ⟨#[]⟩, 0) := rfl
  rw [hp] at C2
  have hps : (putB 1 ⟨#[]⟩).size = 6 := by rw [putB_size, show (⟨#[]⟩ : ByteArray).size = 0 from rfl, encL_small (by decide)]; rfl
  have ht : takeF (putB 1 ⟨#[]⟩) = (1, ⟨#[]⟩, 6, 0) := by
    have := takeF_put 1 ⟨#[]⟩ ⟨#[]⟩ (by decide) (by decide)
    rw [hps, show putB 1 ⟨#[]⟩ ++ (⟨#[]⟩ : ByteArray) = putB 1 ⟨#[]⟩ from ba_ext (by simp)] at this
    exact this
  have C3 := Lib.hid (fun W => Take_calls (putB 1 ⟨#[]⟩) W (by rw [hps]; decide))
  rw [ht] at C3
  have C4 := Lib.hid (fun W => Take_calls ⟨#[]⟩ W (by decide))
  rw [takeF_none] at C4
  have H0 := Lib.hid (Below.refl w.heap.size w)
  generalize putB 1 ⟨#[]⟩ = P at hps C2 C3
  clear hp ht
  go_enter Try.func60, Try.ntmps60
  go_wp2_with fail
  refine (C1.out _).mono ?_
  rintro e w1 ⟨rfl, hb⟩
  have H1 := Lib.hid (bstep H0.out hb)
  clear hb H0
  go_wp2_with fail
  refine (C2.out _).mono ?_
  rintro e w2 ⟨rfl, hb⟩
  have H2 := Lib.hid (bstep H1.out hb)
  clear hb H1
  go_wp2_with fail
  refine (C3.out _).mono ?_
  rintro e w3 ⟨rfl, hb⟩
  have H3 := Lib.hid (bstep H2.out hb)
  clear hb H2
  go_wp2_with fail
  refine (C4.out _).mono ?_
  rintro e w4 ⟨rfl, hb⟩
  have H4 := Lib.hid (bstep H3.out hb)
  clear hb H3
  go_wp2_with fail
  go_ret
  exact ⟨rfl, H4.out⟩
end Go.Proofs.Ytfemjlhfgmbcmaa
