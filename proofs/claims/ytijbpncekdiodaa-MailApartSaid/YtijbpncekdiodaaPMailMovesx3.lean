-- PRINTED BY print.sh 35421559b90ae4d0a3588c463048766b98c2df88dd9212a6774a882060cdf62d: not written by this session
import Derived.Test.YtijbpncekdiodaaPMailMovesx0
import Derived.Test.YtijbpncekdiodaaPMailMovesx2
namespace Go.Proofs.Ytijbpncekdiodaa.PMailMoves
open Go.RowKit Go.Proofs.YtijbpncekdiodaaW.PrintWords Go.Proofs.YtijbpncekdiodaaW.PrintLast Go.Proofs.YtijbpncekdiodaaW.PrintMore
attribute [local go_sem] max2_int min2_int max_two min_two max_three min_three max_four min_four   -- for this text's walks alone
set_option linter.unusedVariables false
set_option linter.unusedSimpArgs false

/-! ### wherryref17_Same: function 13 -/
def wherryref17_Same.l0 : Nat → List (S32) → List (S32) → Int → Option (Bool)
  | 0, _, _, _ => none
  | k + 1, x0, x1, x5 => if x5 < (x0.length : Int) then (if 0 ≤ x5 then (if x5 < (x1.length : Int) then ((wherryref12_Same.f k ((rd_T32 x0 x5).f1.f0) ((rd_T32 x0 x5).f1.f1) ((rd_T32 x0 x5).f1.f2) ((rd_T32 x0 x5).f1.f3) ((rd_T32 x0 x5).f1.f4) ((rd_T32 x0 x5).f1.f5) ((rd_T32 x0 x5).f1.f6) ((rd_T32 x0 x5).f1.f7) ((rd_T32 x0 x5).f1.f8) ((rd_T32 x0 x5).f1.f9) ((rd_T32 x0 x5).f1.f10) ((rd_T32 x0 x5).f1.f11) ((rd_T32 x0 x5).f1.f12) ((rd_T32 x1 x5).f1.f0) ((rd_T32 x1 x5).f1.f1) ((rd_T32 x1 x5).f1.f2) ((rd_T32 x1 x5).f1.f3) ((rd_T32 x1 x5).f1.f4) ((rd_T32 x1 x5).f1.f5) ((rd_T32 x1 x5).f1.f6) ((rd_T32 x1 x5).f1.f7) ((rd_T32 x1 x5).f1.f8) ((rd_T32 x1 x5).f1.f9) ((rd_T32 x1 x5).f1.f10) ((rd_T32 x1 x5).f1.f11) ((rd_T32 x1 x5).f1.f12)).bind fun t113 => (if t113 = true then (if ((rd_T32 x0 x5).f0) = ((rd_T32 x1 x5).f0) then (wherryref17_Same.l0 k x0 x1 (wrap64 (x5 + 1))) else (some false)) else (some false))) else (none)) else (none)) else (some true)
def wherryref17_Same.f (k : Nat) (l0 : List (S32)) (l1 : List (S32)) : Option (Bool) := if (l0.length : Int) = (l1.length : Int) then (wherryref17_Same.l0 k l0 l1 0) else (some false)
theorem wherryref17_Same.mono_l : ∀ k, (∀ y0 y1 y2, LeO (wherryref17_Same.l0 k y0 y1 y2) (wherryref17_Same.l0 (k + 1) y0 y1 y2))
  | 0 => fun _ _ _ r h => by simp [wherryref17_Same.l0] at h
  | k + 1 => by
    have ih0 := wherryref17_Same.mono_l k
    · intro y0 y1 y2
      unfold wherryref17_Same.l0
      repeat' first
      | (with_reducible exact ih0 _ _ _)
      | (with_reducible exact wherryref12_Same.mono _ _ _ _ _ _ _ _ _ _ _ _ _ _ _ _ _ _ _ _ _ _ _ _ _ _ _)
      | (with_reducible exact LeO.refl _)
      | (with_reducible exact LeO.none _)
      | (with_reducible refine LeO.ite ?_ ?_)
      | (with_reducible refine LeO.bind ?_ (fun _ => ?_))
      | exact ih0 _ _ _
      | exact wherryref12_Same.mono _ _ _ _ _ _ _ _ _ _ _ _ _ _ _ _ _ _ _ _ _ _ _ _ _ _ _
      | exact LeO.none _
      | refine LeO.ite ?_ ?_
      | refine LeO.bind ?_ (fun _ => ?_)
theorem wherryref17_Same.mono : ∀ a0 a1 k, LeO (wherryref17_Same.f k a0 a1) (wherryref17_Same.f (k + 1) a0 a1) := by
  intro a0 a1 k
  have ih0 := wherryref17_Same.mono_l k
  unfold wherryref17_Same.f
  repeat' first
      | (with_reducible exact ih0 _ _ _)
      | (with_reducible exact wherryref12_Same.mono _ _ _ _ _ _ _ _ _ _ _ _ _ _ _ _ _ _ _ _ _ _ _ _ _ _ _)
      | (with_reducible exact LeO.refl _)
      | (with_reducible exact LeO.none _)
      | (with_reducible refine LeO.ite ?_ ?_)
      | (with_reducible refine LeO.bind ?_ (fun _ => ?_))
      | exact ih0 _ _ _
      | exact wherryref12_Same.mono _ _ _ _ _ _ _ _ _ _ _ _ _ _ _ _ _ _ _ _ _ _ _ _ _ _ _
      | exact LeO.none _
      | refine LeO.ite ?_ ?_
      | refine LeO.bind ?_ (fun _ => ?_)
def wherryref17_Same.T6 : Bool × List (List Nat × List Nat) := (true, [([], []), ([], []), ([0, 1], [0, 1]), ([2], [2]), ([3], [3]), ([], []), ([], []), ([5, 6], [5, 6]), ([7], [7]), ([8], [8]), ([4, 9], [4, 9]), ([10, 10, 0, 1, 2, 3, 4, 5, 6, 7, 8, 9, 10], [10])])
def wherryref17_Same.B6 : List Nat := [0, 0, 3, 7, 15, 0, 0, 96, 224, 480, 1023, 2047]
theorem wherryref17_Same.tab6 : rtab .any (opsOf Try.f13 6) = wherryref17_Same.T6 := by kernel_rfl
theorem wherryref17_Same.bits6 : waitsOk wherryref17_Same.T6.2 wherryref17_Same.B6 = true := by kernel_rfl
def wherryref17_Same.T7 : Bool × List (List Nat × List Nat) := (true, [([], []), ([0], [0]), ([1], [1]), ([2], [2]), ([2], [2]), ([3, 4, 2], [2, 3, 4]), ([5, 2], [2, 5]), ([6, 2], [2, 6]), ([2], [2]), ([2], [2]), ([8, 9, 2], [2, 8, 9]), ([10, 2], [2, 10]), ([11, 2], [2, 11]), ([7, 12, 2], [2, 7, 12]), ([2, 13], [2, 13])])
def wherryref17_Same.B7 : List Nat := [0, 1, 3, 7, 7, 31, 63, 127, 7, 7, 775, 1799, 3847, 8191, 16383]
theorem wherryref17_Same.tab7 : rtab .any (opsOf Try.f13 7) = wherryref17_Same.T7 := by kernel_rfl
theorem wherryref17_Same.bits7 : waitsOk wherryref17_Same.T7.2 wherryref17_Same.B7 = true := by kernel_rfl
set_option maxHeartbeats 8000000 in
set_option maxRecDepth 100000 in
theorem wherryref17_Same.calls (k : Nat) (A0 : Option Addr) (c0 : Nat) (l0 : List (S32)) (A1 : Option Addr) (c1 : Nat) (l1 : List (S32)) (r : Bool) (w : World) (hr0 : Kd.C k32 w A0 l0.length l0) (hc0 : l0.length ≤ c0) (hr1 : Kd.C k32 w A1 l1.length l1) (hc1 : l1.length ≤ c1) (h : wherryref17_Same.f k l0 l1 = some r) :
    Calls Try.prog 13 #[.slice A0 l0.length c0, .slice A1 l1.length c1] w fun e w' => e = .returned (.bool r) ∧ Below w.heap.size w w' := by
  have hu30 := Try.underlying30
  have HR0 := Aside0.mk hr0
  have HC0 := Aside0.mk hc0
  clear hr0 hc0
  have HR1 := Aside0.mk hr1
  have HC1 := Aside0.mk hc1
  clear hr1 hc1
  have HB := Aside0.mk (Below.refl w.heap.size w)
  have H : (if (l0.length : Int) = (l1.length : Int) then (wherryref17_Same.l0 k l0 l1 0) else (some false)) = some r := h
  clear h
  by_cases c3 : (l0.length : Int) = (l1.length : Int)
  · rw [if_pos c3] at H
    have c3b0 : ((l0.length : Int) == (l1.length : Int)) = true := beq_iff_eq.mpr c3
    have c3b1 : ((l0.length : Int) != (l1.length : Int)) = false := bne_eq_false_iff_eq.mpr c3
    have c3b2 : (l0.length == l1.length) = true := by first | simpa using c3 | (simp at c3 ⊢; omega)
    clear c3
    have H' := Aside0.mk H
    clear H
    go_enter Try.func13, Try.ntmps13
    go_wp2
    go_loopg [5] k (fun kq v5 w' => ∃ (x5_1 : Int), v5 = .int .i64 x5_1 ∧ Aside0 (wherryref17_Same.l0 kq l0 l1 x5_1 = some r) ∧ Aside0 (kq ≤ k) ∧ Aside0 (Below w.heap.size w w'))
    case atStart => exact ⟨(0), (by first | rfl | (simp; done) | (simp [*]; done)), H', ⟨Nat.le_refl _⟩, ⟨by repeat (first | (with_reducible first | exact HB.out | apply below_alloc | apply pw_below_drewN | apply below_drew1) | exact HB.out)⟩⟩
    case round =>
      clear H'
      try clear c1
      try clear p2
      try clear c3
      try clear c3b0
      try clear c3b1
      try clear c3b2
      obtain ⟨x5_1, rfl, HA, HK1, HB⟩ := hrel
      cases gk with
      | zero => exact absurd HA.out (by simp [wherryref17_Same.l0])
      | succ k1 =>
        have H := HA.out
        clear HA
        simp only [wherryref17_Same.l0] at H
        by_cases c4 : x5_1 < (l0.length : Int)
        · rw [if_pos c4] at H
          have c4b0 : decide (x5_1 < (l0.length : Int)) = true := decide_eq_true c4
          clear c4
          by_cases c5 : 0 ≤ x5_1
          · rw [if_pos c5] at H
            have c5b0 : decide (0 ≤ x5_1) = true := decide_eq_true c5
            clear c5
            by_cases c6 : x5_1 < (l1.length : Int)
            · rw [if_pos c6] at H
              have c6b0 : decide (x5_1 < (l1.length : Int)) = true := decide_eq_true c6
              clear c6
              replace H := Option.bind_eq_some_iff.mp H
              obtain ⟨t113, A70, H⟩ := H
              replace H : (if t113 = true then (if ((rd_T32 l0 x5_1).f0) = ((rd_T32 l1 x5_1).f0) then (wherryref17_Same.l0 k1 l0 l1 (wrap64 (x5_1 + 1))) else (some false)) else (some false)) = some r := H
              have A7 := Aside0.mk A70
              clear A70
              by_cases c8 : t113 = true
              · subst c8
                have H1 : (if ((rd_T32 l0 x5_1).f0) = ((rd_T32 l1 x5_1).f0) then (wherryref17_Same.l0 k1 l0 l1 (wrap64 (x5_1 + 1))) else (some false)) = some r := by rw [if_pos rfl] at H; exact H
                clear H
                have H := H1
                clear H1
                by_cases c9 : ((rd_T32 l0 x5_1).f0) = ((rd_T32 l1 x5_1).f0)
                · rw [if_pos c9] at H
                  have c9b0 : (((rd_T32 l0 x5_1).f0) == ((rd_T32 l1 x5_1).f0)) = true := beq_iff_eq.mpr c9
                  have c9b1 : (((rd_T32 l0 x5_1).f0) != ((rd_T32 l1 x5_1).f0)) = false := bne_eq_false_iff_eq.mpr c9
                  clear c9
                  have H' := Aside0.mk H
                  clear H
                  try go_wp2
                  have n0_ := Aside0.mk (below_drew1 HB.out)
                  clear HB
                  have HB := n0_
                  clear n0_
                  have p111 : 0 ≤ (x5_1 : Int) := of_decide_eq_true (by first | (with_reducible assumption) | assumption)
                  have q111 : x5_1 < (l0.length : Int) := of_decide_eq_true (by first | (with_reducible assumption) | assumption)
                  obtain ⟨ad111, A111_13, c111_13, e111, hx111_0, hx111_1, hx111_2, hx111_3, hx111_4, hx111_5, hx111_6, hx111_7, hx111_8, hx111_9, hx111_10, hx111_11, hx111_12, hx111_13, hl111_13, hi111_13⟩ := at_T32 HR0.out x5_1 p111 q111
                  have hw111_13 := hx111_13
                  have hw111_12 := hx111_12
                  have hw111_11 := hx111_11
                  have hw111_10 := hx111_10
                  have hw111_9 := hx111_9
                  have hw111_8 := hx111_8
                  have hw111_7 := hx111_7
                  have hw111_6 := hx111_6
                  have hw111_5 := hx111_5
                  have hw111_4 := hx111_4
                  have hw111_3 := hx111_3
                  have hw111_2 := hx111_2
                  have hw111_1 := hx111_1
                  have hw111_0 := hx111_0
                  cases e111
                  replace hx111_0 := (HB.out.cell (World.block_lt_of_cell? w _ hx111_0)).trans hx111_0
                  replace hx111_1 := (HB.out.cell (World.block_lt_of_cell? w _ hx111_1)).trans hx111_1
                  replace hx111_2 := (HB.out.cell (World.block_lt_of_cell? w _ hx111_2)).trans hx111_2
                  replace hx111_3 := (HB.out.cell (World.block_lt_of_cell? w _ hx111_3)).trans hx111_3
                  replace hx111_4 := (HB.out.cell (World.block_lt_of_cell? w _ hx111_4)).trans hx111_4
                  replace hx111_5 := (HB.out.cell (World.block_lt_of_cell? w _ hx111_5)).trans hx111_5
                  replace hx111_6 := (HB.out.cell (World.block_lt_of_cell? w _ hx111_6)).trans hx111_6
                  replace hx111_7 := (HB.out.cell (World.block_lt_of_cell? w _ hx111_7)).trans hx111_7
                  replace hx111_8 := (HB.out.cell (World.block_lt_of_cell? w _ hx111_8)).trans hx111_8
                  replace hx111_9 := (HB.out.cell (World.block_lt_of_cell? w _ hx111_9)).trans hx111_9
                  replace hx111_10 := (HB.out.cell (World.block_lt_of_cell? w _ hx111_10)).trans hx111_10
                  replace hx111_11 := (HB.out.cell (World.block_lt_of_cell? w _ hx111_11)).trans hx111_11
                  replace hx111_12 := (HB.out.cell (World.block_lt_of_cell? w _ hx111_12)).trans hx111_12
                  replace hx111_13 := (HB.out.cell (World.block_lt_of_cell? w _ hx111_13)).trans hx111_13
                  have HR111_13 := Aside0.mk hi111_13
                  have HC111_13 := Aside0.mk hl111_13
                  clear hi111_13 hl111_13
                  replace p111 := eq_true p111
                  replace q111 := eq_true q111
                  have p112 : 0 ≤ (x5_1 : Int) := of_decide_eq_true (by first | (with_reducible assumption) | assumption)
                  have q112 : x5_1 < (l1.length : Int) := of_decide_eq_true (by first | (with_reducible assumption) | assumption)
                  obtain ⟨ad112, A112_13, c112_13, e112, hx112_0, hx112_1, hx112_2, hx112_3, hx112_4, hx112_5, hx112_6, hx112_7, hx112_8, hx112_9, hx112_10, hx112_11, hx112_12, hx112_13, hl112_13, hi112_13⟩ := at_T32 HR1.out x5_1 p112 q112
                  have hw112_13 := hx112_13
                  have hw112_12 := hx112_12
                  have hw112_11 := hx112_11
                  have hw112_10 := hx112_10
                  have hw112_9 := hx112_9
                  have hw112_8 := hx112_8
                  have hw112_7 := hx112_7
                  have hw112_6 := hx112_6
                  have hw112_5 := hx112_5
                  have hw112_4 := hx112_4
                  have hw112_3 := hx112_3
                  have hw112_2 := hx112_2
                  have hw112_1 := hx112_1
                  have hw112_0 := hx112_0
                  cases e112
                  replace hx112_0 := (HB.out.cell (World.block_lt_of_cell? w _ hx112_0)).trans hx112_0
                  replace hx112_1 := (HB.out.cell (World.block_lt_of_cell? w _ hx112_1)).trans hx112_1
                  replace hx112_2 := (HB.out.cell (World.block_lt_of_cell? w _ hx112_2)).trans hx112_2
                  replace hx112_3 := (HB.out.cell (World.block_lt_of_cell? w _ hx112_3)).trans hx112_3
                  replace hx112_4 := (HB.out.cell (World.block_lt_of_cell? w _ hx112_4)).trans hx112_4
                  replace hx112_5 := (HB.out.cell (World.block_lt_of_cell? w _ hx112_5)).trans hx112_5
                  replace hx112_6 := (HB.out.cell (World.block_lt_of_cell? w _ hx112_6)).trans hx112_6
                  replace hx112_7 := (HB.out.cell (World.block_lt_of_cell? w _ hx112_7)).trans hx112_7
                  replace hx112_8 := (HB.out.cell (World.block_lt_of_cell? w _ hx112_8)).trans hx112_8
                  replace hx112_9 := (HB.out.cell (World.block_lt_of_cell? w _ hx112_9)).trans hx112_9
                  replace hx112_10 := (HB.out.cell (World.block_lt_of_cell? w _ hx112_10)).trans hx112_10
                  replace hx112_11 := (HB.out.cell (World.block_lt_of_cell? w _ hx112_11)).trans hx112_11
                  replace hx112_12 := (HB.out.cell (World.block_lt_of_cell? w _ hx112_12)).trans hx112_12
                  replace hx112_13 := (HB.out.cell (World.block_lt_of_cell? w _ hx112_13)).trans hx112_13
                  have HR112_13 := Aside0.mk hi112_13
                  have HC112_13 := Aside0.mk hl112_13
                  clear hi112_13 hl112_13
                  replace p112 := eq_true p112
                  replace q112 := eq_true q112
                  refine start_ (n := 12) (S := fun w' => w'.cell? (ad111.add ((x5_1).toNat * 14)) = some (.int .i64 ((rd_T32 l0 x5_1).f0)) ∧ w'.cell? ⟨(ad111.add ((x5_1).toNat * 14)).block, (ad111.add ((x5_1).toNat * 14)).off + 1, none⟩ = some (.int .i64 ((rd_T32 l0 x5_1).f1.f0)) ∧ w'.cell? ⟨(ad111.add ((x5_1).toNat * 14)).block, (ad111.add ((x5_1).toNat * 14)).off + 2, none⟩ = some (.int .i64 ((rd_T32 l0 x5_1).f1.f1)) ∧ w'.cell? ⟨(ad111.add ((x5_1).toNat * 14)).block, (ad111.add ((x5_1).toNat * 14)).off + 3, none⟩ = some (.int .u64 ((rd_T32 l0 x5_1).f1.f2)) ∧ w'.cell? ⟨(ad111.add ((x5_1).toNat * 14)).block, (ad111.add ((x5_1).toNat * 14)).off + 4, none⟩ = some (.int .i64 ((rd_T32 l0 x5_1).f1.f3)) ∧ w'.cell? ⟨(ad111.add ((x5_1).toNat * 14)).block, (ad111.add ((x5_1).toNat * 14)).off + 5, none⟩ = some (.int .u64 ((rd_T32 l0 x5_1).f1.f4)) ∧ w'.cell? ⟨(ad111.add ((x5_1).toNat * 14)).block, (ad111.add ((x5_1).toNat * 14)).off + 6, none⟩ = some (.int .u64 ((rd_T32 l0 x5_1).f1.f5)) ∧ w'.cell? ⟨(ad111.add ((x5_1).toNat * 14)).block, (ad111.add ((x5_1).toNat * 14)).off + 7, none⟩ = some (.int .u64 ((rd_T32 l0 x5_1).f1.f6)) ∧ w'.cell? ⟨(ad111.add ((x5_1).toNat * 14)).block, (ad111.add ((x5_1).toNat * 14)).off + 8, none⟩ = some (.int .i64 ((rd_T32 l0 x5_1).f1.f7)) ∧ w'.cell? ⟨(ad111.add ((x5_1).toNat * 14)).block, (ad111.add ((x5_1).toNat * 14)).off + 9, none⟩ = some (.int .i64 ((rd_T32 l0 x5_1).f1.f8)) ∧ w'.cell? ⟨(ad111.add ((x5_1).toNat * 14)).block, (ad111.add ((x5_1).toNat * 14)).off + 10, none⟩ = some (.string ((rd_T32 l0 x5_1).f1.f9)) ∧ w'.cell? ⟨(ad111.add ((x5_1).toNat * 14)).block, (ad111.add ((x5_1).toNat * 14)).off + 11, none⟩ = some (.string ((rd_T32 l0 x5_1).f1.f10)) ∧ w'.cell? ⟨(ad111.add ((x5_1).toNat * 14)).block, (ad111.add ((x5_1).toNat * 14)).off + 12, none⟩ = some (.string ((rd_T32 l0 x5_1).f1.f11)) ∧ w'.cell? ⟨(ad111.add ((x5_1).toNat * 14)).block, (ad111.add ((x5_1).toNat * 14)).off + 13, none⟩ = some (.slice A111_13 ((rd_T32 l0 x5_1).f1.f12).length c111_13) ∧ w'.cell? (ad112.add ((x5_1).toNat * 14)) = some (.int .i64 ((rd_T32 l1 x5_1).f0)) ∧ w'.cell? ⟨(ad112.add ((x5_1).toNat * 14)).block, (ad112.add ((x5_1).toNat * 14)).off + 1, none⟩ = some (.int .i64 ((rd_T32 l1 x5_1).f1.f0)) ∧ w'.cell? ⟨(ad112.add ((x5_1).toNat * 14)).block, (ad112.add ((x5_1).toNat * 14)).off + 2, none⟩ = some (.int .i64 ((rd_T32 l1 x5_1).f1.f1)) ∧ w'.cell? ⟨(ad112.add ((x5_1).toNat * 14)).block, (ad112.add ((x5_1).toNat * 14)).off + 3, none⟩ = some (.int .u64 ((rd_T32 l1 x5_1).f1.f2)) ∧ w'.cell? ⟨(ad112.add ((x5_1).toNat * 14)).block, (ad112.add ((x5_1).toNat * 14)).off + 4, none⟩ = some (.int .i64 ((rd_T32 l1 x5_1).f1.f3)) ∧ w'.cell? ⟨(ad112.add ((x5_1).toNat * 14)).block, (ad112.add ((x5_1).toNat * 14)).off + 5, none⟩ = some (.int .u64 ((rd_T32 l1 x5_1).f1.f4)) ∧ w'.cell? ⟨(ad112.add ((x5_1).toNat * 14)).block, (ad112.add ((x5_1).toNat * 14)).off + 6, none⟩ = some (.int .u64 ((rd_T32 l1 x5_1).f1.f5)) ∧ w'.cell? ⟨(ad112.add ((x5_1).toNat * 14)).block, (ad112.add ((x5_1).toNat * 14)).off + 7, none⟩ = some (.int .u64 ((rd_T32 l1 x5_1).f1.f6)) ∧ w'.cell? ⟨(ad112.add ((x5_1).toNat * 14)).block, (ad112.add ((x5_1).toNat * 14)).off + 8, none⟩ = some (.int .i64 ((rd_T32 l1 x5_1).f1.f7)) ∧ w'.cell? ⟨(ad112.add ((x5_1).toNat * 14)).block, (ad112.add ((x5_1).toNat * 14)).off + 9, none⟩ = some (.int .i64 ((rd_T32 l1 x5_1).f1.f8)) ∧ w'.cell? ⟨(ad112.add ((x5_1).toNat * 14)).block, (ad112.add ((x5_1).toNat * 14)).off + 10, none⟩ = some (.string ((rd_T32 l1 x5_1).f1.f9)) ∧ w'.cell? ⟨(ad112.add ((x5_1).toNat * 14)).block, (ad112.add ((x5_1).toNat * 14)).off + 11, none⟩ = some (.string ((rd_T32 l1 x5_1).f1.f10)) ∧ w'.cell? ⟨(ad112.add ((x5_1).toNat * 14)).block, (ad112.add ((x5_1).toNat * 14)).off + 12, none⟩ = some (.string ((rd_T32 l1 x5_1).f1.f11)) ∧ w'.cell? ⟨(ad112.add ((x5_1).toNat * 14)).block, (ad112.add ((x5_1).toNat * 14)).off + 13, none⟩ = some (.slice A112_13 ((rd_T32 l1 x5_1).f1.f12).length c112_13)) (ds := []) #[false, false, false, false, false, false, false, false, false, false, false, false] (by kernel_rfl) rfl rfl ⟨((HB.out.cell (World.block_lt_of_cell? w _ hw111_0)).trans hw111_0), ((HB.out.cell (World.block_lt_of_cell? w _ hw111_1)).trans hw111_1), ((HB.out.cell (World.block_lt_of_cell? w _ hw111_2)).trans hw111_2), ((HB.out.cell (World.block_lt_of_cell? w _ hw111_3)).trans hw111_3), ((HB.out.cell (World.block_lt_of_cell? w _ hw111_4)).trans hw111_4), ((HB.out.cell (World.block_lt_of_cell? w _ hw111_5)).trans hw111_5), ((HB.out.cell (World.block_lt_of_cell? w _ hw111_6)).trans hw111_6), ((HB.out.cell (World.block_lt_of_cell? w _ hw111_7)).trans hw111_7), ((HB.out.cell (World.block_lt_of_cell? w _ hw111_8)).trans hw111_8), ((HB.out.cell (World.block_lt_of_cell? w _ hw111_9)).trans hw111_9), ((HB.out.cell (World.block_lt_of_cell? w _ hw111_10)).trans hw111_10), ((HB.out.cell (World.block_lt_of_cell? w _ hw111_11)).trans hw111_11), ((HB.out.cell (World.block_lt_of_cell? w _ hw111_12)).trans hw111_12), ((HB.out.cell (World.block_lt_of_cell? w _ hw111_13)).trans hw111_13), ((HB.out.cell (World.block_lt_of_cell? w _ hw112_0)).trans hw112_0), ((HB.out.cell (World.block_lt_of_cell? w _ hw112_1)).trans hw112_1), ((HB.out.cell (World.block_lt_of_cell? w _ hw112_2)).trans hw112_2), ((HB.out.cell (World.block_lt_of_cell? w _ hw112_3)).trans hw112_3), ((HB.out.cell (World.block_lt_of_cell? w _ hw112_4)).trans hw112_4), ((HB.out.cell (World.block_lt_of_cell? w _ hw112_5)).trans hw112_5), ((HB.out.cell (World.block_lt_of_cell? w _ hw112_6)).trans hw112_6), ((HB.out.cell (World.block_lt_of_cell? w _ hw112_7)).trans hw112_7), ((HB.out.cell (World.block_lt_of_cell? w _ hw112_8)).trans hw112_8), ((HB.out.cell (World.block_lt_of_cell? w _ hw112_9)).trans hw112_9), ((HB.out.cell (World.block_lt_of_cell? w _ hw112_10)).trans hw112_10), ((HB.out.cell (World.block_lt_of_cell? w _ hw112_11)).trans hw112_11), ((HB.out.cell (World.block_lt_of_cell? w _ hw112_12)).trans hw112_12), ((HB.out.cell (World.block_lt_of_cell? w _ hw112_13)).trans hw112_13)⟩ (fun hHeld => ?_); refine with_tabW wherryref17_Same.tab6 wherryref17_Same.bits6 (fun HT_ HW_ => ?_)
                  generalize wr.drew = w10 at HB HR111_13 HR112_13 hx111_0 hx111_1 hx111_10 hx111_11 hx111_12 hx111_13 hx111_2 hx111_3 hx111_4 hx111_5 hx111_6 hx111_7 hx111_8 hx111_9 hx112_0 hx112_1 hx112_10 hx112_11 hx112_12 hx112_13 hx112_2 hx112_3 hx112_4 hx112_5 hx112_6 hx112_7 hx112_8 hx112_9 hHeld ⊢
                  refine pure_ (i := 0) (N := some 18) (v := ?_) (a' := ?_) #[true, false, false, false, false, false, false, false, false, false, false, false] rfl rfl (any_of HT_.out (by kernel_rfl)) (fun _ _ _ h => h) (Or.inl ⟨by rfl, ?_⟩) ?_ ?_
                  rotate_left
                  · intro w'
                    go_simp
                    with_reducible rfl
                  rotate_left
                  · simp only [Act.put, List.setIfInBounds_toArray, List.set_cons_zero, List.set_cons_succ, i64_w, i32_w]
                    rfl
                  refine pure_ (i := 1) (N := some 19) (v := ?_) (a' := ?_) #[true, true, false, false, false, false, false, false, false, false, false, false] rfl rfl (any_of HT_.out (by kernel_rfl)) (fun _ _ _ h => h) (Or.inl ⟨by rfl, ?_⟩) ?_ ?_
                  rotate_left
                  · intro w'
                    go_simp
                    with_reducible rfl
                  rotate_left
                  · simp only [Act.put, List.setIfInBounds_toArray, List.set_cons_zero, List.set_cons_succ, i64_w, i32_w]
                    rfl
                  refine pure_ (i := 2) (N := some 20) (v := ?_) (a' := ?_) #[true, true, true, false, false, false, false, false, false, false, false, false] rfl rfl (any_of HT_.out (by kernel_rfl)) (fun _ _ _ h => h) (Or.inl ⟨by rfl, ?_⟩) ?_ ?_
                  rotate_left
                  · intro w'
                    go_simp
                    with_reducible rfl
                  rotate_left
                  · simp only [Act.put, List.setIfInBounds_toArray, List.set_cons_zero, List.set_cons_succ, i64_w, i32_w]
                    rfl
                  refine pure_ (i := 3) (N := some 21) (v := ?_) (a' := ?_) #[true, true, true, true, false, false, false, false, false, false, false, false] rfl rfl (any_of HT_.out (by kernel_rfl)) (fun _ _ _ h => h) (Or.inl ⟨by rfl, ?_⟩) ?_ ?_
                  rotate_left
                  · intro w'
                    go_simp
                    with_reducible rfl
                  rotate_left
                  · simp only [Act.put, List.setIfInBounds_toArray, List.set_cons_zero, List.set_cons_succ, i64_w, i32_w]
                    rfl
                  refine pure_ (i := 5) (N := some 23) (v := ?_) (a' := ?_) #[true, true, true, true, false, true, false, false, false, false, false, false] rfl rfl (any_of HT_.out (by kernel_rfl)) (fun _ _ _ h => h) (Or.inl ⟨by rfl, ?_⟩) ?_ ?_
                  rotate_left
                  · intro w'
                    go_simp
                    with_reducible rfl
                  rotate_left
                  · simp only [Act.put, List.setIfInBounds_toArray, List.set_cons_zero, List.set_cons_succ, i64_w, i32_w]
                    rfl
                  refine pure_ (i := 6) (N := some 24) (v := ?_) (a' := ?_) #[true, true, true, true, false, true, true, false, false, false, false, false] rfl rfl (any_of HT_.out (by kernel_rfl)) (fun _ _ _ h => h) (Or.inl ⟨by rfl, ?_⟩) ?_ ?_
                  rotate_left
                  · intro w'
                    go_simp
                    with_reducible rfl
                  rotate_left
                  · simp only [Act.put, List.setIfInBounds_toArray, List.set_cons_zero, List.set_cons_succ, i64_w, i32_w]
                    rfl
                  refine pure_ (i := 7) (N := some 25) (v := ?_) (a' := ?_) #[true, true, true, true, false, true, true, true, false, false, false, false] rfl rfl (any_of HT_.out (by kernel_rfl)) (fun _ _ _ h => h) (Or.inl ⟨by rfl, ?_⟩) ?_ ?_
                  rotate_left
                  · intro w'
                    go_simp
                    with_reducible rfl
                  rotate_left
                  · simp only [Act.put, List.setIfInBounds_toArray, List.set_cons_zero, List.set_cons_succ, i64_w, i32_w]
                    rfl
                  refine pure_ (i := 8) (N := some 26) (v := ?_) (a' := ?_) #[true, true, true, true, false, true, true, true, true, false, false, false] rfl rfl (any_of HT_.out (by kernel_rfl)) (fun _ _ _ h => h) (Or.inl ⟨by rfl, ?_⟩) ?_ ?_
                  rotate_left
                  · intro w'
                    go_simp
                    with_reducible rfl
                  rotate_left
                  · simp only [Act.put, List.setIfInBounds_toArray, List.set_cons_zero, List.set_cons_succ, i64_w, i32_w]
                    rfl
                  refine take_ (i := 4) (N := some 22) (v := ?_) (a' := ?_) #[true, true, true, true, true, true, true, true, true, false, false, false] rfl rfl (take_ofW HT_.out HW_.out (by kernel_rfl)) (fun _ _ _ h => h) (Or.inl ⟨by rfl, ?_⟩) hHeld ?_ ?_
                  rotate_left
                  · rintro w' ⟨s0, s1, s2, s3, s4, s5, s6, s7, s8, s9, s10, s11, s12, s13, s14, s15, s16, s17, s18, s19, s20, s21, s22, s23, s24, s25, s26, s27⟩
                    go_simp
                    with_reducible rfl
                  rotate_left
                  · simp only [Act.put, List.setIfInBounds_toArray, List.set_cons_zero, List.set_cons_succ, i64_w, i32_w]
                    rfl
                  refine take_ (i := 9) (N := some 27) (v := ?_) (a' := ?_) #[true, true, true, true, true, true, true, true, true, true, false, false] rfl rfl (take_ofW HT_.out HW_.out (by kernel_rfl)) (fun _ _ _ h => h) (Or.inl ⟨by rfl, ?_⟩) hHeld ?_ ?_
                  rotate_left
                  · rintro w' ⟨s0, s1, s2, s3, s4, s5, s6, s7, s8, s9, s10, s11, s12, s13, s14, s15, s16, s17, s18, s19, s20, s21, s22, s23, s24, s25, s26, s27⟩
                    go_simp
                    with_reducible rfl
                  rotate_left
                  · simp only [Act.put, List.setIfInBounds_toArray, List.set_cons_zero, List.set_cons_succ, i64_w, i32_w]
                    rfl
                  refine one_ (i := 10) (N := some 28) #[true, true, true, true, true, true, true, true, true, true, true, false] rfl rfl (one_of HT_.out (by kernel_rfl)) (by decide) (fun K hK => ?_)
                  refine goes_ Try.func26 (by kernel_rfl) rfl #[.agg #[.int .i64 ((rd_T32 l0 x5_1).f1.f0), .int .i64 ((rd_T32 l0 x5_1).f1.f1), .int .u64 ((rd_T32 l0 x5_1).f1.f2), .int .i64 ((rd_T32 l0 x5_1).f1.f3), .int .u64 ((rd_T32 l0 x5_1).f1.f4), .int .u64 ((rd_T32 l0 x5_1).f1.f5), .int .u64 ((rd_T32 l0 x5_1).f1.f6), .int .i64 ((rd_T32 l0 x5_1).f1.f7), .int .i64 ((rd_T32 l0 x5_1).f1.f8), .string ((rd_T32 l0 x5_1).f1.f9), .string ((rd_T32 l0 x5_1).f1.f10), .string ((rd_T32 l0 x5_1).f1.f11), .slice A111_13 ((rd_T32 l0 x5_1).f1.f12).length c111_13], .agg #[.int .i64 ((rd_T32 l1 x5_1).f1.f0), .int .i64 ((rd_T32 l1 x5_1).f1.f1), .int .u64 ((rd_T32 l1 x5_1).f1.f2), .int .i64 ((rd_T32 l1 x5_1).f1.f3), .int .u64 ((rd_T32 l1 x5_1).f1.f4), .int .u64 ((rd_T32 l1 x5_1).f1.f5), .int .u64 ((rd_T32 l1 x5_1).f1.f6), .int .i64 ((rd_T32 l1 x5_1).f1.f7), .int .i64 ((rd_T32 l1 x5_1).f1.f8), .string ((rd_T32 l1 x5_1).f1.f9), .string ((rd_T32 l1 x5_1).f1.f10), .string ((rd_T32 l1 x5_1).f1.f11), .slice A112_13 ((rd_T32 l1 x5_1).f1.f12).length c112_13]] (by rfl) rfl rfl (by (try simp only [List.map_toArray, List.map_cons, List.map_nil]); first | done | rfl | (simp only [List.length_drop, List.length_take]; rfl)) ?_
                  with_reducible refine (wherryref12_Same.calls k1 ((rd_T32 l0 x5_1).f1.f0) ((rd_T32 l0 x5_1).f1.f1) ((rd_T32 l0 x5_1).f1.f2) ((rd_T32 l0 x5_1).f1.f3) ((rd_T32 l0 x5_1).f1.f4) ((rd_T32 l0 x5_1).f1.f5) ((rd_T32 l0 x5_1).f1.f6) ((rd_T32 l0 x5_1).f1.f7) ((rd_T32 l0 x5_1).f1.f8) ((rd_T32 l0 x5_1).f1.f9) ((rd_T32 l0 x5_1).f1.f10) ((rd_T32 l0 x5_1).f1.f11) _ _ ((rd_T32 l0 x5_1).f1.f12) ((rd_T32 l1 x5_1).f1.f0) ((rd_T32 l1 x5_1).f1.f1) ((rd_T32 l1 x5_1).f1.f2) ((rd_T32 l1 x5_1).f1.f3) ((rd_T32 l1 x5_1).f1.f4) ((rd_T32 l1 x5_1).f1.f5) ((rd_T32 l1 x5_1).f1.f6) ((rd_T32 l1 x5_1).f1.f7) ((rd_T32 l1 x5_1).f1.f8) ((rd_T32 l1 x5_1).f1.f9) ((rd_T32 l1 x5_1).f1.f10) ((rd_T32 l1 x5_1).f1.f11) _ _ ((rd_T32 l1 x5_1).f1.f12) true _ ?side1 ?side2 ?side3 ?side4 A7.out).mono ?_
                  (case side1 => repeat (first | exact (Kd.C_below HR111_13.out HB.out) | (with_reducible refine Kd.C_alloc ?_ _) | (with_reducible refine Kd.C_drewN ?_ _) | (with_reducible refine Kd.C_drew ?_)))
                  (case side2 => exact HC111_13.out)
                  (case side3 => repeat (first | exact (Kd.C_below HR112_13.out HB.out) | (with_reducible refine Kd.C_alloc ?_ _) | (with_reducible refine Kd.C_drewN ?_ _) | (with_reducible refine Kd.C_drew ?_)))
                  (case side4 => exact HC112_13.out)
                  rintro e w11 ⟨rfl, hb⟩
                  refine ⟨_, rfl, ?_⟩
                  have n0_ := Aside0.mk (below_step (by repeat (first | (with_reducible first | exact HB.out | apply below_alloc | apply pw_below_drewN | apply below_drew1) | exact HB.out)) hb)
                  clear HB
                  have HB := n0_
                  clear n0_
                  (try clear hb)
                  (try clear hb2)
                  (try clear hk)
                  (try clear hi)
                  refine hK.out _ _ ⟨((HB.out.cell (World.block_lt_of_cell? w _ hw111_0)).trans hw111_0), ((HB.out.cell (World.block_lt_of_cell? w _ hw111_1)).trans hw111_1), ((HB.out.cell (World.block_lt_of_cell? w _ hw111_2)).trans hw111_2), ((HB.out.cell (World.block_lt_of_cell? w _ hw111_3)).trans hw111_3), ((HB.out.cell (World.block_lt_of_cell? w _ hw111_4)).trans hw111_4), ((HB.out.cell (World.block_lt_of_cell? w _ hw111_5)).trans hw111_5), ((HB.out.cell (World.block_lt_of_cell? w _ hw111_6)).trans hw111_6), ((HB.out.cell (World.block_lt_of_cell? w _ hw111_7)).trans hw111_7), ((HB.out.cell (World.block_lt_of_cell? w _ hw111_8)).trans hw111_8), ((HB.out.cell (World.block_lt_of_cell? w _ hw111_9)).trans hw111_9), ((HB.out.cell (World.block_lt_of_cell? w _ hw111_10)).trans hw111_10), ((HB.out.cell (World.block_lt_of_cell? w _ hw111_11)).trans hw111_11), ((HB.out.cell (World.block_lt_of_cell? w _ hw111_12)).trans hw111_12), ((HB.out.cell (World.block_lt_of_cell? w _ hw111_13)).trans hw111_13), ((HB.out.cell (World.block_lt_of_cell? w _ hw112_0)).trans hw112_0), ((HB.out.cell (World.block_lt_of_cell? w _ hw112_1)).trans hw112_1), ((HB.out.cell (World.block_lt_of_cell? w _ hw112_2)).trans hw112_2), ((HB.out.cell (World.block_lt_of_cell? w _ hw112_3)).trans hw112_3), ((HB.out.cell (World.block_lt_of_cell? w _ hw112_4)).trans hw112_4), ((HB.out.cell (World.block_lt_of_cell? w _ hw112_5)).trans hw112_5), ((HB.out.cell (World.block_lt_of_cell? w _ hw112_6)).trans hw112_6), ((HB.out.cell (World.block_lt_of_cell? w _ hw112_7)).trans hw112_7), ((HB.out.cell (World.block_lt_of_cell? w _ hw112_8)).trans hw112_8), ((HB.out.cell (World.block_lt_of_cell? w _ hw112_9)).trans hw112_9), ((HB.out.cell (World.block_lt_of_cell? w _ hw112_10)).trans hw112_10), ((HB.out.cell (World.block_lt_of_cell? w _ hw112_11)).trans hw112_11), ((HB.out.cell (World.block_lt_of_cell? w _ hw112_12)).trans hw112_12), ((HB.out.cell (World.block_lt_of_cell? w _ hw112_13)).trans hw112_13)⟩ (fun hHeld => ?_)
                  clear hK K
                  refine norm_ (a' := ?_) ?_ ?_
                  rotate_left
                  · show Act.put _ (some 28) _ = _
                    simp only [Act.put, List.setIfInBounds_toArray, List.set_cons_zero, List.set_cons_succ, i64_w, i32_w]
                    rfl
                  refine pure_ (i := 11) (N := some 6) (v := ?_) (a' := ?_) #[true, true, true, true, true, true, true, true, true, true, true, true] rfl rfl (any_of HT_.out (by kernel_rfl)) (fun _ _ _ h => h) (Or.inl ⟨by rfl, ?_⟩) ?_ ?_
                  rotate_left
                  · intro w'
                    go_simp
                    with_reducible rfl
                  rotate_left
                  · simp only [Act.put, List.setIfInBounds_toArray, List.set_cons_zero, List.set_cons_succ, i64_w, i32_w]
                    rfl
                  refine done_ (done_of HT_.out (by kernel_rfl)) ?_
                  try go_wp2
                  have n0_ := Aside0.mk (below_drew1 HB.out)
                  clear HB
                  have HB := n0_
                  clear n0_
                  have p114 : 0 ≤ (x5_1 : Int) := of_decide_eq_true (by first | (with_reducible assumption) | assumption)
                  have q114 : x5_1 < (l0.length : Int) := of_decide_eq_true (by first | (with_reducible assumption) | assumption)
                  obtain ⟨ad114, A114_13, c114_13, e114, hx114_0, hx114_1, hx114_2, hx114_3, hx114_4, hx114_5, hx114_6, hx114_7, hx114_8, hx114_9, hx114_10, hx114_11, hx114_12, hx114_13, hl114_13, hi114_13⟩ := at_T32 HR0.out x5_1 p114 q114
                  have hw114_13 := hx114_13
                  have hw114_12 := hx114_12
                  have hw114_11 := hx114_11
                  have hw114_10 := hx114_10
                  have hw114_9 := hx114_9
                  have hw114_8 := hx114_8
                  have hw114_7 := hx114_7
                  have hw114_6 := hx114_6
                  have hw114_5 := hx114_5
                  have hw114_4 := hx114_4
                  have hw114_3 := hx114_3
                  have hw114_2 := hx114_2
                  have hw114_1 := hx114_1
                  have hw114_0 := hx114_0
                  obtain rfl : ad111 = ad114 := (by injection e114)
                  replace hx114_0 := (HB.out.cell (World.block_lt_of_cell? w _ hx114_0)).trans hx114_0
                  replace hx114_1 := (HB.out.cell (World.block_lt_of_cell? w _ hx114_1)).trans hx114_1
                  replace hx114_2 := (HB.out.cell (World.block_lt_of_cell? w _ hx114_2)).trans hx114_2
                  replace hx114_3 := (HB.out.cell (World.block_lt_of_cell? w _ hx114_3)).trans hx114_3
                  replace hx114_4 := (HB.out.cell (World.block_lt_of_cell? w _ hx114_4)).trans hx114_4
                  replace hx114_5 := (HB.out.cell (World.block_lt_of_cell? w _ hx114_5)).trans hx114_5
                  replace hx114_6 := (HB.out.cell (World.block_lt_of_cell? w _ hx114_6)).trans hx114_6
                  replace hx114_7 := (HB.out.cell (World.block_lt_of_cell? w _ hx114_7)).trans hx114_7
                  replace hx114_8 := (HB.out.cell (World.block_lt_of_cell? w _ hx114_8)).trans hx114_8
                  replace hx114_9 := (HB.out.cell (World.block_lt_of_cell? w _ hx114_9)).trans hx114_9
                  replace hx114_10 := (HB.out.cell (World.block_lt_of_cell? w _ hx114_10)).trans hx114_10
                  replace hx114_11 := (HB.out.cell (World.block_lt_of_cell? w _ hx114_11)).trans hx114_11
                  replace hx114_12 := (HB.out.cell (World.block_lt_of_cell? w _ hx114_12)).trans hx114_12
                  replace hx114_13 := (HB.out.cell (World.block_lt_of_cell? w _ hx114_13)).trans hx114_13
                  have HR114_13 := Aside0.mk hi114_13
                  have HC114_13 := Aside0.mk hl114_13
                  clear hi114_13 hl114_13
                  replace p114 := eq_true p114
                  replace q114 := eq_true q114
                  have p115 : 0 ≤ (x5_1 : Int) := of_decide_eq_true (by first | (with_reducible assumption) | assumption)
                  have q115 : x5_1 < (l1.length : Int) := of_decide_eq_true (by first | (with_reducible assumption) | assumption)
                  obtain ⟨ad115, A115_13, c115_13, e115, hx115_0, hx115_1, hx115_2, hx115_3, hx115_4, hx115_5, hx115_6, hx115_7, hx115_8, hx115_9, hx115_10, hx115_11, hx115_12, hx115_13, hl115_13, hi115_13⟩ := at_T32 HR1.out x5_1 p115 q115
                  have hw115_13 := hx115_13
                  have hw115_12 := hx115_12
                  have hw115_11 := hx115_11
                  have hw115_10 := hx115_10
                  have hw115_9 := hx115_9
                  have hw115_8 := hx115_8
                  have hw115_7 := hx115_7
                  have hw115_6 := hx115_6
                  have hw115_5 := hx115_5
                  have hw115_4 := hx115_4
                  have hw115_3 := hx115_3
                  have hw115_2 := hx115_2
                  have hw115_1 := hx115_1
                  have hw115_0 := hx115_0
                  obtain rfl : ad112 = ad115 := (by injection e115)
                  replace hx115_0 := (HB.out.cell (World.block_lt_of_cell? w _ hx115_0)).trans hx115_0
                  replace hx115_1 := (HB.out.cell (World.block_lt_of_cell? w _ hx115_1)).trans hx115_1
                  replace hx115_2 := (HB.out.cell (World.block_lt_of_cell? w _ hx115_2)).trans hx115_2
                  replace hx115_3 := (HB.out.cell (World.block_lt_of_cell? w _ hx115_3)).trans hx115_3
                  replace hx115_4 := (HB.out.cell (World.block_lt_of_cell? w _ hx115_4)).trans hx115_4
                  replace hx115_5 := (HB.out.cell (World.block_lt_of_cell? w _ hx115_5)).trans hx115_5
                  replace hx115_6 := (HB.out.cell (World.block_lt_of_cell? w _ hx115_6)).trans hx115_6
                  replace hx115_7 := (HB.out.cell (World.block_lt_of_cell? w _ hx115_7)).trans hx115_7
                  replace hx115_8 := (HB.out.cell (World.block_lt_of_cell? w _ hx115_8)).trans hx115_8
                  replace hx115_9 := (HB.out.cell (World.block_lt_of_cell? w _ hx115_9)).trans hx115_9
                  replace hx115_10 := (HB.out.cell (World.block_lt_of_cell? w _ hx115_10)).trans hx115_10
                  replace hx115_11 := (HB.out.cell (World.block_lt_of_cell? w _ hx115_11)).trans hx115_11
                  replace hx115_12 := (HB.out.cell (World.block_lt_of_cell? w _ hx115_12)).trans hx115_12
                  replace hx115_13 := (HB.out.cell (World.block_lt_of_cell? w _ hx115_13)).trans hx115_13
                  have HR115_13 := Aside0.mk hi115_13
                  have HC115_13 := Aside0.mk hl115_13
                  clear hi115_13 hl115_13
                  replace p115 := eq_true p115
                  replace q115 := eq_true q115
                  refine start_ (n := 15) (S := fun w' => w'.cell? (ad111.add ((x5_1).toNat * 14)) = some (.int .i64 ((rd_T32 l0 x5_1).f0)) ∧ w'.cell? ⟨(ad111.add ((x5_1).toNat * 14)).block, (ad111.add ((x5_1).toNat * 14)).off + 1, none⟩ = some (.int .i64 ((rd_T32 l0 x5_1).f1.f0)) ∧ w'.cell? ⟨(ad111.add ((x5_1).toNat * 14)).block, (ad111.add ((x5_1).toNat * 14)).off + 2, none⟩ = some (.int .i64 ((rd_T32 l0 x5_1).f1.f1)) ∧ w'.cell? ⟨(ad111.add ((x5_1).toNat * 14)).block, (ad111.add ((x5_1).toNat * 14)).off + 3, none⟩ = some (.int .u64 ((rd_T32 l0 x5_1).f1.f2)) ∧ w'.cell? ⟨(ad111.add ((x5_1).toNat * 14)).block, (ad111.add ((x5_1).toNat * 14)).off + 4, none⟩ = some (.int .i64 ((rd_T32 l0 x5_1).f1.f3)) ∧ w'.cell? ⟨(ad111.add ((x5_1).toNat * 14)).block, (ad111.add ((x5_1).toNat * 14)).off + 5, none⟩ = some (.int .u64 ((rd_T32 l0 x5_1).f1.f4)) ∧ w'.cell? ⟨(ad111.add ((x5_1).toNat * 14)).block, (ad111.add ((x5_1).toNat * 14)).off + 6, none⟩ = some (.int .u64 ((rd_T32 l0 x5_1).f1.f5)) ∧ w'.cell? ⟨(ad111.add ((x5_1).toNat * 14)).block, (ad111.add ((x5_1).toNat * 14)).off + 7, none⟩ = some (.int .u64 ((rd_T32 l0 x5_1).f1.f6)) ∧ w'.cell? ⟨(ad111.add ((x5_1).toNat * 14)).block, (ad111.add ((x5_1).toNat * 14)).off + 8, none⟩ = some (.int .i64 ((rd_T32 l0 x5_1).f1.f7)) ∧ w'.cell? ⟨(ad111.add ((x5_1).toNat * 14)).block, (ad111.add ((x5_1).toNat * 14)).off + 9, none⟩ = some (.int .i64 ((rd_T32 l0 x5_1).f1.f8)) ∧ w'.cell? ⟨(ad111.add ((x5_1).toNat * 14)).block, (ad111.add ((x5_1).toNat * 14)).off + 10, none⟩ = some (.string ((rd_T32 l0 x5_1).f1.f9)) ∧ w'.cell? ⟨(ad111.add ((x5_1).toNat * 14)).block, (ad111.add ((x5_1).toNat * 14)).off + 11, none⟩ = some (.string ((rd_T32 l0 x5_1).f1.f10)) ∧ w'.cell? ⟨(ad111.add ((x5_1).toNat * 14)).block, (ad111.add ((x5_1).toNat * 14)).off + 12, none⟩ = some (.string ((rd_T32 l0 x5_1).f1.f11)) ∧ w'.cell? ⟨(ad111.add ((x5_1).toNat * 14)).block, (ad111.add ((x5_1).toNat * 14)).off + 13, none⟩ = some (.slice A114_13 ((rd_T32 l0 x5_1).f1.f12).length c114_13) ∧ w'.cell? (ad112.add ((x5_1).toNat * 14)) = some (.int .i64 ((rd_T32 l1 x5_1).f0)) ∧ w'.cell? ⟨(ad112.add ((x5_1).toNat * 14)).block, (ad112.add ((x5_1).toNat * 14)).off + 1, none⟩ = some (.int .i64 ((rd_T32 l1 x5_1).f1.f0)) ∧ w'.cell? ⟨(ad112.add ((x5_1).toNat * 14)).block, (ad112.add ((x5_1).toNat * 14)).off + 2, none⟩ = some (.int .i64 ((rd_T32 l1 x5_1).f1.f1)) ∧ w'.cell? ⟨(ad112.add ((x5_1).toNat * 14)).block, (ad112.add ((x5_1).toNat * 14)).off + 3, none⟩ = some (.int .u64 ((rd_T32 l1 x5_1).f1.f2)) ∧ w'.cell? ⟨(ad112.add ((x5_1).toNat * 14)).block, (ad112.add ((x5_1).toNat * 14)).off + 4, none⟩ = some (.int .i64 ((rd_T32 l1 x5_1).f1.f3)) ∧ w'.cell? ⟨(ad112.add ((x5_1).toNat * 14)).block, (ad112.add ((x5_1).toNat * 14)).off + 5, none⟩ = some (.int .u64 ((rd_T32 l1 x5_1).f1.f4)) ∧ w'.cell? ⟨(ad112.add ((x5_1).toNat * 14)).block, (ad112.add ((x5_1).toNat * 14)).off + 6, none⟩ = some (.int .u64 ((rd_T32 l1 x5_1).f1.f5)) ∧ w'.cell? ⟨(ad112.add ((x5_1).toNat * 14)).block, (ad112.add ((x5_1).toNat * 14)).off + 7, none⟩ = some (.int .u64 ((rd_T32 l1 x5_1).f1.f6)) ∧ w'.cell? ⟨(ad112.add ((x5_1).toNat * 14)).block, (ad112.add ((x5_1).toNat * 14)).off + 8, none⟩ = some (.int .i64 ((rd_T32 l1 x5_1).f1.f7)) ∧ w'.cell? ⟨(ad112.add ((x5_1).toNat * 14)).block, (ad112.add ((x5_1).toNat * 14)).off + 9, none⟩ = some (.int .i64 ((rd_T32 l1 x5_1).f1.f8)) ∧ w'.cell? ⟨(ad112.add ((x5_1).toNat * 14)).block, (ad112.add ((x5_1).toNat * 14)).off + 10, none⟩ = some (.string ((rd_T32 l1 x5_1).f1.f9)) ∧ w'.cell? ⟨(ad112.add ((x5_1).toNat * 14)).block, (ad112.add ((x5_1).toNat * 14)).off + 11, none⟩ = some (.string ((rd_T32 l1 x5_1).f1.f10)) ∧ w'.cell? ⟨(ad112.add ((x5_1).toNat * 14)).block, (ad112.add ((x5_1).toNat * 14)).off + 12, none⟩ = some (.string ((rd_T32 l1 x5_1).f1.f11)) ∧ w'.cell? ⟨(ad112.add ((x5_1).toNat * 14)).block, (ad112.add ((x5_1).toNat * 14)).off + 13, none⟩ = some (.slice A115_13 ((rd_T32 l1 x5_1).f1.f12).length c115_13)) (ds := []) #[false, false, false, false, false, false, false, false, false, false, false, false, false, false, false] (by kernel_rfl) rfl rfl ⟨((HB.out.cell (World.block_lt_of_cell? w _ hw114_0)).trans hw114_0), ((HB.out.cell (World.block_lt_of_cell? w _ hw114_1)).trans hw114_1), ((HB.out.cell (World.block_lt_of_cell? w _ hw114_2)).trans hw114_2), ((HB.out.cell (World.block_lt_of_cell? w _ hw114_3)).trans hw114_3), ((HB.out.cell (World.block_lt_of_cell? w _ hw114_4)).trans hw114_4), ((HB.out.cell (World.block_lt_of_cell? w _ hw114_5)).trans hw114_5), ((HB.out.cell (World.block_lt_of_cell? w _ hw114_6)).trans hw114_6), ((HB.out.cell (World.block_lt_of_cell? w _ hw114_7)).trans hw114_7), ((HB.out.cell (World.block_lt_of_cell? w _ hw114_8)).trans hw114_8), ((HB.out.cell (World.block_lt_of_cell? w _ hw114_9)).trans hw114_9), ((HB.out.cell (World.block_lt_of_cell? w _ hw114_10)).trans hw114_10), ((HB.out.cell (World.block_lt_of_cell? w _ hw114_11)).trans hw114_11), ((HB.out.cell (World.block_lt_of_cell? w _ hw114_12)).trans hw114_12), ((HB.out.cell (World.block_lt_of_cell? w _ hw114_13)).trans hw114_13), ((HB.out.cell (World.block_lt_of_cell? w _ hw115_0)).trans hw115_0), ((HB.out.cell (World.block_lt_of_cell? w _ hw115_1)).trans hw115_1), ((HB.out.cell (World.block_lt_of_cell? w _ hw115_2)).trans hw115_2), ((HB.out.cell (World.block_lt_of_cell? w _ hw115_3)).trans hw115_3), ((HB.out.cell (World.block_lt_of_cell? w _ hw115_4)).trans hw115_4), ((HB.out.cell (World.block_lt_of_cell? w _ hw115_5)).trans hw115_5), ((HB.out.cell (World.block_lt_of_cell? w _ hw115_6)).trans hw115_6), ((HB.out.cell (World.block_lt_of_cell? w _ hw115_7)).trans hw115_7), ((HB.out.cell (World.block_lt_of_cell? w _ hw115_8)).trans hw115_8), ((HB.out.cell (World.block_lt_of_cell? w _ hw115_9)).trans hw115_9), ((HB.out.cell (World.block_lt_of_cell? w _ hw115_10)).trans hw115_10), ((HB.out.cell (World.block_lt_of_cell? w _ hw115_11)).trans hw115_11), ((HB.out.cell (World.block_lt_of_cell? w _ hw115_12)).trans hw115_12), ((HB.out.cell (World.block_lt_of_cell? w _ hw115_13)).trans hw115_13)⟩ (fun hHeld => ?_); refine with_tabW wherryref17_Same.tab7 wherryref17_Same.bits7 (fun HT_ HW_ => ?_)
                  generalize w11.drew = w12 at HB HR114_13 HR115_13 hx114_0 hx114_1 hx114_10 hx114_11 hx114_12 hx114_13 hx114_2 hx114_3 hx114_4 hx114_5 hx114_6 hx114_7 hx114_8 hx114_9 hx115_0 hx115_1 hx115_10 hx115_11 hx115_12 hx115_13 hx115_2 hx115_3 hx115_4 hx115_5 hx115_6 hx115_7 hx115_8 hx115_9 hHeld ⊢
                  refine pure_ (i := 0) (N := some 29) (v := ?_) (a' := ?_) #[true, false, false, false, false, false, false, false, false, false, false, false, false, false, false] rfl rfl (any_of HT_.out (by kernel_rfl)) (fun _ _ _ h => h) (Or.inl ⟨by rfl, ?_⟩) ?_ ?_
                  rotate_left
                  · intro w'
                    go_simp
                    with_reducible rfl
                  rotate_left
                  · simp only [Act.put, List.setIfInBounds_toArray, List.set_cons_zero, List.set_cons_succ, i64_w, i32_w]
                    rfl
                  refine pure_ (i := 1) (N := some 30) (v := ?_) (a' := ?_) #[true, true, false, false, false, false, false, false, false, false, false, false, false, false, false] rfl rfl (any_of HT_.out (by kernel_rfl)) (fun _ _ _ h => h) (Or.inl ⟨by rfl, ?_⟩) ?_ ?_
                  rotate_left
                  · intro w'
                    go_simp
                    with_reducible rfl
                  rotate_left
                  · simp only [Act.put, List.setIfInBounds_toArray, List.set_cons_zero, List.set_cons_succ, i64_w, i32_w]
                    rfl
                  refine pure_ (i := 2) (N := some 31) (v := ?_) (a' := ?_) #[true, true, true, false, false, false, false, false, false, false, false, false, false, false, false] rfl rfl (any_of HT_.out (by kernel_rfl)) (fun _ _ _ h => h) (Or.inl ⟨by rfl, ?_⟩) ?_ ?_
                  rotate_left
                  · intro w'
                    go_simp
                    with_reducible rfl
                  rotate_left
                  · simp only [Act.put, List.setIfInBounds_toArray, List.set_cons_zero, List.set_cons_succ, i64_w, i32_w]
                    rfl
                  refine pure_ (i := 3) (N := some 32) (v := ?_) (a' := ?_) #[true, true, true, true, false, false, false, false, false, false, false, false, false, false, false] rfl rfl (any_of HT_.out (by kernel_rfl)) (fun _ _ _ h => h) (Or.inl ⟨by rfl, ?_⟩) ?_ ?_
                  rotate_left
                  · intro w'
                    go_simp
                    with_reducible rfl
                  rotate_left
                  · simp only [Act.put, List.setIfInBounds_toArray, List.set_cons_zero, List.set_cons_succ, i64_w, i32_w]
                    rfl
                  refine pure_ (i := 4) (N := some 33) (v := ?_) (a' := ?_) #[true, true, true, true, true, false, false, false, false, false, false, false, false, false, false] rfl rfl (any_of HT_.out (by kernel_rfl)) (fun _ _ _ h => h) (Or.inl ⟨by rfl, ?_⟩) ?_ ?_
                  rotate_left
                  · intro w'
                    go_simp
                    with_reducible rfl
                  rotate_left
                  · simp only [Act.put, List.setIfInBounds_toArray, List.set_cons_zero, List.set_cons_succ, i64_w, i32_w]
                    rfl
                  refine pure_ (i := 5) (N := some 34) (v := ?_) (a' := ?_) #[true, true, true, true, true, true, false, false, false, false, false, false, false, false, false] rfl rfl (any_of HT_.out (by kernel_rfl)) (fun _ _ _ h => h) (Or.inl ⟨by rfl, ?_⟩) ?_ ?_
                  rotate_left
                  · intro w'
                    go_simp
                    with_reducible rfl
                  rotate_left
                  · simp only [Act.put, List.setIfInBounds_toArray, List.set_cons_zero, List.set_cons_succ, i64_w, i32_w]
                    rfl
                  refine pure_ (i := 6) (N := some 35) (v := ?_) (a' := ?_) #[true, true, true, true, true, true, true, false, false, false, false, false, false, false, false] rfl rfl (any_of HT_.out (by kernel_rfl)) (fun _ _ _ h => h) (Or.inl ⟨by rfl, ?_⟩) ?_ ?_
                  rotate_left
                  · intro w'
                    go_simp
                    with_reducible rfl
                  rotate_left
                  · simp only [Act.put, List.setIfInBounds_toArray, List.set_cons_zero, List.set_cons_succ, i64_w, i32_w]
                    rfl
                  refine pure_ (i := 8) (N := some 37) (v := ?_) (a' := ?_) #[true, true, true, true, true, true, true, false, true, false, false, false, false, false, false] rfl rfl (any_of HT_.out (by kernel_rfl)) (fun _ _ _ h => h) (Or.inl ⟨by rfl, ?_⟩) ?_ ?_
                  rotate_left
                  · intro w'
                    go_simp
                    with_reducible rfl
                  rotate_left
                  · simp only [Act.put, List.setIfInBounds_toArray, List.set_cons_zero, List.set_cons_succ, i64_w, i32_w]
                    rfl
                  refine pure_ (i := 9) (N := some 38) (v := ?_) (a' := ?_) #[true, true, true, true, true, true, true, false, true, true, false, false, false, false, false] rfl rfl (any_of HT_.out (by kernel_rfl)) (fun _ _ _ h => h) (Or.inl ⟨by rfl, ?_⟩) ?_ ?_
                  rotate_left
                  · intro w'
                    go_simp
                    with_reducible rfl
                  rotate_left
                  · simp only [Act.put, List.setIfInBounds_toArray, List.set_cons_zero, List.set_cons_succ, i64_w, i32_w]
                    rfl
                  refine pure_ (i := 10) (N := some 39) (v := ?_) (a' := ?_) #[true, true, true, true, true, true, true, false, true, true, true, false, false, false, false] rfl rfl (any_of HT_.out (by kernel_rfl)) (fun _ _ _ h => h) (Or.inl ⟨by rfl, ?_⟩) ?_ ?_
                  rotate_left
                  · intro w'
                    go_simp
                    with_reducible rfl
                  rotate_left
                  · simp only [Act.put, List.setIfInBounds_toArray, List.set_cons_zero, List.set_cons_succ, i64_w, i32_w]
                    rfl
                  refine pure_ (i := 11) (N := some 40) (v := ?_) (a' := ?_) #[true, true, true, true, true, true, true, false, true, true, true, true, false, false, false] rfl rfl (any_of HT_.out (by kernel_rfl)) (fun _ _ _ h => h) (Or.inl ⟨by rfl, ?_⟩) ?_ ?_
                  rotate_left
                  · intro w'
                    go_simp
                    with_reducible rfl
                  rotate_left
                  · simp only [Act.put, List.setIfInBounds_toArray, List.set_cons_zero, List.set_cons_succ, i64_w, i32_w]
                    rfl
                  refine take_ (i := 7) (N := some 36) (v := ?_) (a' := ?_) #[true, true, true, true, true, true, true, true, true, true, true, true, false, false, false] rfl rfl (take_ofW HT_.out HW_.out (by kernel_rfl)) (fun _ _ _ h => h) (Or.inl ⟨by rfl, ?_⟩) hHeld ?_ ?_
                  rotate_left
                  · rintro w' ⟨s0, s1, s2, s3, s4, s5, s6, s7, s8, s9, s10, s11, s12, s13, s14, s15, s16, s17, s18, s19, s20, s21, s22, s23, s24, s25, s26, s27⟩
                    go_simp
                    with_reducible rfl
                  rotate_left
                  · simp only [Act.put, List.setIfInBounds_toArray, List.set_cons_zero, List.set_cons_succ, i64_w, i32_w]
                    rfl
                  refine take_ (i := 12) (N := some 41) (v := ?_) (a' := ?_) #[true, true, true, true, true, true, true, true, true, true, true, true, true, false, false] rfl rfl (take_ofW HT_.out HW_.out (by kernel_rfl)) (fun _ _ _ h => h) (Or.inl ⟨by rfl, ?_⟩) hHeld ?_ ?_
                  rotate_left
                  · rintro w' ⟨s0, s1, s2, s3, s4, s5, s6, s7, s8, s9, s10, s11, s12, s13, s14, s15, s16, s17, s18, s19, s20, s21, s22, s23, s24, s25, s26, s27⟩
                    go_simp
                    with_reducible rfl
                  rotate_left
                  · simp only [Act.put, List.setIfInBounds_toArray, List.set_cons_zero, List.set_cons_succ, i64_w, i32_w]
                    rfl
                  refine pure_ (i := 13) (N := some 42) (v := ?_) (a' := ?_) #[true, true, true, true, true, true, true, true, true, true, true, true, true, true, false] rfl rfl (any_of HT_.out (by kernel_rfl)) (fun _ _ _ h => h) (Or.inl ⟨by rfl, ?_⟩) ?_ ?_
                  rotate_left
                  · intro w'
                    go_simp
                    with_reducible rfl
                  rotate_left
                  · simp only [Act.put, List.setIfInBounds_toArray, List.set_cons_zero, List.set_cons_succ, i64_w, i32_w]
                    rfl
                  refine pure_ (i := 14) (N := some 43) (v := ?_) (a' := ?_) #[true, true, true, true, true, true, true, true, true, true, true, true, true, true, true] rfl rfl (any_of HT_.out (by kernel_rfl)) (fun _ _ _ h => h) (Or.inl ⟨by rfl, ?_⟩) ?_ ?_
                  rotate_left
                  · intro w'
                    go_simp
                    with_reducible rfl
                  rotate_left
                  · simp only [Act.put, List.setIfInBounds_toArray, List.set_cons_zero, List.set_cons_succ, i64_w, i32_w]
                    rfl
                  refine done_ (done_of HT_.out (by kernel_rfl)) ?_
                  try go_wp2
                  go_roundg k1
                  case measure => have := HK1.out; omega
                  case rel => exact ⟨(wrap64 (x5_1 + 1)), (by first | rfl | (simp; done) | (simp [*]; done)), H', ⟨by have := HK1.out; omega⟩, ⟨by repeat (first | (with_reducible first | exact HB.out | apply below_alloc | apply pw_below_drewN | apply below_drew1) | exact HB.out)⟩⟩
                · rw [if_neg c9] at H
                  have c9b0 : (((rd_T32 l0 x5_1).f0) == ((rd_T32 l1 x5_1).f0)) = false := beq_eq_false_iff_ne.mpr c9
                  have c9b1 : (((rd_T32 l0 x5_1).f0) != ((rd_T32 l1 x5_1).f0)) = true := bne_iff_ne.mpr c9
                  obtain rfl := Option.some.inj H
                  try go_wp2
                  have n0_ := Aside0.mk (below_drew1 HB.out)
                  clear HB
                  have HB := n0_
                  clear n0_
                  have p111 : 0 ≤ (x5_1 : Int) := of_decide_eq_true (by first | (with_reducible assumption) | assumption)
                  have q111 : x5_1 < (l0.length : Int) := of_decide_eq_true (by first | (with_reducible assumption) | assumption)
                  obtain ⟨ad111, A111_13, c111_13, e111, hx111_0, hx111_1, hx111_2, hx111_3, hx111_4, hx111_5, hx111_6, hx111_7, hx111_8, hx111_9, hx111_10, hx111_11, hx111_12, hx111_13, hl111_13, hi111_13⟩ := at_T32 HR0.out x5_1 p111 q111
                  have hw111_13 := hx111_13
                  have hw111_12 := hx111_12
                  have hw111_11 := hx111_11
                  have hw111_10 := hx111_10
                  have hw111_9 := hx111_9
                  have hw111_8 := hx111_8
                  have hw111_7 := hx111_7
                  have hw111_6 := hx111_6
                  have hw111_5 := hx111_5
                  have hw111_4 := hx111_4
                  have hw111_3 := hx111_3
                  have hw111_2 := hx111_2
                  have hw111_1 := hx111_1
                  have hw111_0 := hx111_0
                  cases e111
                  replace hx111_0 := (HB.out.cell (World.block_lt_of_cell? w _ hx111_0)).trans hx111_0
                  replace hx111_1 := (HB.out.cell (World.block_lt_of_cell? w _ hx111_1)).trans hx111_1
                  replace hx111_2 := (HB.out.cell (World.block_lt_of_cell? w _ hx111_2)).trans hx111_2
                  replace hx111_3 := (HB.out.cell (World.block_lt_of_cell? w _ hx111_3)).trans hx111_3
                  replace hx111_4 := (HB.out.cell (World.block_lt_of_cell? w _ hx111_4)).trans hx111_4
                  replace hx111_5 := (HB.out.cell (World.block_lt_of_cell? w _ hx111_5)).trans hx111_5
                  replace hx111_6 := (HB.out.cell (World.block_lt_of_cell? w _ hx111_6)).trans hx111_6
                  replace hx111_7 := (HB.out.cell (World.block_lt_of_cell? w _ hx111_7)).trans hx111_7
                  replace hx111_8 := (HB.out.cell (World.block_lt_of_cell? w _ hx111_8)).trans hx111_8
                  replace hx111_9 := (HB.out.cell (World.block_lt_of_cell? w _ hx111_9)).trans hx111_9
                  replace hx111_10 := (HB.out.cell (World.block_lt_of_cell? w _ hx111_10)).trans hx111_10
                  replace hx111_11 := (HB.out.cell (World.block_lt_of_cell? w _ hx111_11)).trans hx111_11
                  replace hx111_12 := (HB.out.cell (World.block_lt_of_cell? w _ hx111_12)).trans hx111_12
                  replace hx111_13 := (HB.out.cell (World.block_lt_of_cell? w _ hx111_13)).trans hx111_13
                  have HR111_13 := Aside0.mk hi111_13
                  have HC111_13 := Aside0.mk hl111_13
                  clear hi111_13 hl111_13
                  replace p111 := eq_true p111
                  replace q111 := eq_true q111
                  have p112 : 0 ≤ (x5_1 : Int) := of_decide_eq_true (by first | (with_reducible assumption) | assumption)
                  have q112 : x5_1 < (l1.length : Int) := of_decide_eq_true (by first | (with_reducible assumption) | assumption)
                  obtain ⟨ad112, A112_13, c112_13, e112, hx112_0, hx112_1, hx112_2, hx112_3, hx112_4, hx112_5, hx112_6, hx112_7, hx112_8, hx112_9, hx112_10, hx112_11, hx112_12, hx112_13, hl112_13, hi112_13⟩ := at_T32 HR1.out x5_1 p112 q112
                  have hw112_13 := hx112_13
                  have hw112_12 := hx112_12
                  have hw112_11 := hx112_11
                  have hw112_10 := hx112_10
                  have hw112_9 := hx112_9
                  have hw112_8 := hx112_8
                  have hw112_7 := hx112_7
                  have hw112_6 := hx112_6
                  have hw112_5 := hx112_5
                  have hw112_4 := hx112_4
                  have hw112_3 := hx112_3
                  have hw112_2 := hx112_2
                  have hw112_1 := hx112_1
                  have hw112_0 := hx112_0
                  cases e112
                  replace hx112_0 := (HB.out.cell (World.block_lt_of_cell? w _ hx112_0)).trans hx112_0
                  replace hx112_1 := (HB.out.cell (World.block_lt_of_cell? w _ hx112_1)).trans hx112_1
                  replace hx112_2 := (HB.out.cell (World.block_lt_of_cell? w _ hx112_2)).trans hx112_2
                  replace hx112_3 := (HB.out.cell (World.block_lt_of_cell? w _ hx112_3)).trans hx112_3
                  replace hx112_4 := (HB.out.cell (World.block_lt_of_cell? w _ hx112_4)).trans hx112_4
                  replace hx112_5 := (HB.out.cell (World.block_lt_of_cell? w _ hx112_5)).trans hx112_5
                  replace hx112_6 := (HB.out.cell (World.block_lt_of_cell? w _ hx112_6)).trans hx112_6
                  replace hx112_7 := (HB.out.cell (World.block_lt_of_cell? w _ hx112_7)).trans hx112_7
                  replace hx112_8 := (HB.out.cell (World.block_lt_of_cell? w _ hx112_8)).trans hx112_8
                  replace hx112_9 := (HB.out.cell (World.block_lt_of_cell? w _ hx112_9)).trans hx112_9
                  replace hx112_10 := (HB.out.cell (World.block_lt_of_cell? w _ hx112_10)).trans hx112_10
                  replace hx112_11 := (HB.out.cell (World.block_lt_of_cell? w _ hx112_11)).trans hx112_11
                  replace hx112_12 := (HB.out.cell (World.block_lt_of_cell? w _ hx112_12)).trans hx112_12
                  replace hx112_13 := (HB.out.cell (World.block_lt_of_cell? w _ hx112_13)).trans hx112_13
                  have HR112_13 := Aside0.mk hi112_13
                  have HC112_13 := Aside0.mk hl112_13
                  clear hi112_13 hl112_13
                  replace p112 := eq_true p112
                  replace q112 := eq_true q112
                  refine start_ (n := 12) (S := fun w' => w'.cell? (ad111.add ((x5_1).toNat * 14)) = some (.int .i64 ((rd_T32 l0 x5_1).f0)) ∧ w'.cell? ⟨(ad111.add ((x5_1).toNat * 14)).block, (ad111.add ((x5_1).toNat * 14)).off + 1, none⟩ = some (.int .i64 ((rd_T32 l0 x5_1).f1.f0)) ∧ w'.cell? ⟨(ad111.add ((x5_1).toNat * 14)).block, (ad111.add ((x5_1).toNat * 14)).off + 2, none⟩ = some (.int .i64 ((rd_T32 l0 x5_1).f1.f1)) ∧ w'.cell? ⟨(ad111.add ((x5_1).toNat * 14)).block, (ad111.add ((x5_1).toNat * 14)).off + 3, none⟩ = some (.int .u64 ((rd_T32 l0 x5_1).f1.f2)) ∧ w'.cell? ⟨(ad111.add ((x5_1).toNat * 14)).block, (ad111.add ((x5_1).toNat * 14)).off + 4, none⟩ = some (.int .i64 ((rd_T32 l0 x5_1).f1.f3)) ∧ w'.cell? ⟨(ad111.add ((x5_1).toNat * 14)).block, (ad111.add ((x5_1).toNat * 14)).off + 5, none⟩ = some (.int .u64 ((rd_T32 l0 x5_1).f1.f4)) ∧ w'.cell? ⟨(ad111.add ((x5_1).toNat * 14)).block, (ad111.add ((x5_1).toNat * 14)).off + 6, none⟩ = some (.int .u64 ((rd_T32 l0 x5_1).f1.f5)) ∧ w'.cell? ⟨(ad111.add ((x5_1).toNat * 14)).block, (ad111.add ((x5_1).toNat * 14)).off + 7, none⟩ = some (.int .u64 ((rd_T32 l0 x5_1).f1.f6)) ∧ w'.cell? ⟨(ad111.add ((x5_1).toNat * 14)).block, (ad111.add ((x5_1).toNat * 14)).off + 8, none⟩ = some (.int .i64 ((rd_T32 l0 x5_1).f1.f7)) ∧ w'.cell? ⟨(ad111.add ((x5_1).toNat * 14)).block, (ad111.add ((x5_1).toNat * 14)).off + 9, none⟩ = some (.int .i64 ((rd_T32 l0 x5_1).f1.f8)) ∧ w'.cell? ⟨(ad111.add ((x5_1).toNat * 14)).block, (ad111.add ((x5_1).toNat * 14)).off + 10, none⟩ = some (.string ((rd_T32 l0 x5_1).f1.f9)) ∧ w'.cell? ⟨(ad111.add ((x5_1).toNat * 14)).block, (ad111.add ((x5_1).toNat * 14)).off + 11, none⟩ = some (.string ((rd_T32 l0 x5_1).f1.f10)) ∧ w'.cell? ⟨(ad111.add ((x5_1).toNat * 14)).block, (ad111.add ((x5_1).toNat * 14)).off + 12, none⟩ = some (.string ((rd_T32 l0 x5_1).f1.f11)) ∧ w'.cell? ⟨(ad111.add ((x5_1).toNat * 14)).block, (ad111.add ((x5_1).toNat * 14)).off + 13, none⟩ = some (.slice A111_13 ((rd_T32 l0 x5_1).f1.f12).length c111_13) ∧ w'.cell? (ad112.add ((x5_1).toNat * 14)) = some (.int .i64 ((rd_T32 l1 x5_1).f0)) ∧ w'.cell? ⟨(ad112.add ((x5_1).toNat * 14)).block, (ad112.add ((x5_1).toNat * 14)).off + 1, none⟩ = some (.int .i64 ((rd_T32 l1 x5_1).f1.f0)) ∧ w'.cell? ⟨(ad112.add ((x5_1).toNat * 14)).block, (ad112.add ((x5_1).toNat * 14)).off + 2, none⟩ = some (.int .i64 ((rd_T32 l1 x5_1).f1.f1)) ∧ w'.cell? ⟨(ad112.add ((x5_1).toNat * 14)).block, (ad112.add ((x5_1).toNat * 14)).off + 3, none⟩ = some (.int .u64 ((rd_T32 l1 x5_1).f1.f2)) ∧ w'.cell? ⟨(ad112.add ((x5_1).toNat * 14)).block, (ad112.add ((x5_1).toNat * 14)).off + 4, none⟩ = some (.int .i64 ((rd_T32 l1 x5_1).f1.f3)) ∧ w'.cell? ⟨(ad112.add ((x5_1).toNat * 14)).block, (ad112.add ((x5_1).toNat * 14)).off + 5, none⟩ = some (.int .u64 ((rd_T32 l1 x5_1).f1.f4)) ∧ w'.cell? ⟨(ad112.add ((x5_1).toNat * 14)).block, (ad112.add ((x5_1).toNat * 14)).off + 6, none⟩ = some (.int .u64 ((rd_T32 l1 x5_1).f1.f5)) ∧ w'.cell? ⟨(ad112.add ((x5_1).toNat * 14)).block, (ad112.add ((x5_1).toNat * 14)).off + 7, none⟩ = some (.int .u64 ((rd_T32 l1 x5_1).f1.f6)) ∧ w'.cell? ⟨(ad112.add ((x5_1).toNat * 14)).block, (ad112.add ((x5_1).toNat * 14)).off + 8, none⟩ = some (.int .i64 ((rd_T32 l1 x5_1).f1.f7)) ∧ w'.cell? ⟨(ad112.add ((x5_1).toNat * 14)).block, (ad112.add ((x5_1).toNat * 14)).off + 9, none⟩ = some (.int .i64 ((rd_T32 l1 x5_1).f1.f8)) ∧ w'.cell? ⟨(ad112.add ((x5_1).toNat * 14)).block, (ad112.add ((x5_1).toNat * 14)).off + 10, none⟩ = some (.string ((rd_T32 l1 x5_1).f1.f9)) ∧ w'.cell? ⟨(ad112.add ((x5_1).toNat * 14)).block, (ad112.add ((x5_1).toNat * 14)).off + 11, none⟩ = some (.string ((rd_T32 l1 x5_1).f1.f10)) ∧ w'.cell? ⟨(ad112.add ((x5_1).toNat * 14)).block, (ad112.add ((x5_1).toNat * 14)).off + 12, none⟩ = some (.string ((rd_T32 l1 x5_1).f1.f11)) ∧ w'.cell? ⟨(ad112.add ((x5_1).toNat * 14)).block, (ad112.add ((x5_1).toNat * 14)).off + 13, none⟩ = some (.slice A112_13 ((rd_T32 l1 x5_1).f1.f12).length c112_13)) (ds := []) #[false, false, false, false, false, false, false, false, false, false, false, false] (by kernel_rfl) rfl rfl ⟨((HB.out.cell (World.block_lt_of_cell? w _ hw111_0)).trans hw111_0), ((HB.out.cell (World.block_lt_of_cell? w _ hw111_1)).trans hw111_1), ((HB.out.cell (World.block_lt_of_cell? w _ hw111_2)).trans hw111_2), ((HB.out.cell (World.block_lt_of_cell? w _ hw111_3)).trans hw111_3), ((HB.out.cell (World.block_lt_of_cell? w _ hw111_4)).trans hw111_4), ((HB.out.cell (World.block_lt_of_cell? w _ hw111_5)).trans hw111_5), ((HB.out.cell (World.block_lt_of_cell? w _ hw111_6)).trans hw111_6), ((HB.out.cell (World.block_lt_of_cell? w _ hw111_7)).trans hw111_7), ((HB.out.cell (World.block_lt_of_cell? w _ hw111_8)).trans hw111_8), ((HB.out.cell (World.block_lt_of_cell? w _ hw111_9)).trans hw111_9), ((HB.out.cell (World.block_lt_of_cell? w _ hw111_10)).trans hw111_10), ((HB.out.cell (World.block_lt_of_cell? w _ hw111_11)).trans hw111_11), ((HB.out.cell (World.block_lt_of_cell? w _ hw111_12)).trans hw111_12), ((HB.out.cell (World.block_lt_of_cell? w _ hw111_13)).trans hw111_13), ((HB.out.cell (World.block_lt_of_cell? w _ hw112_0)).trans hw112_0), ((HB.out.cell (World.block_lt_of_cell? w _ hw112_1)).trans hw112_1), ((HB.out.cell (World.block_lt_of_cell? w _ hw112_2)).trans hw112_2), ((HB.out.cell (World.block_lt_of_cell? w _ hw112_3)).trans hw112_3), ((HB.out.cell (World.block_lt_of_cell? w _ hw112_4)).trans hw112_4), ((HB.out.cell (World.block_lt_of_cell? w _ hw112_5)).trans hw112_5), ((HB.out.cell (World.block_lt_of_cell? w _ hw112_6)).trans hw112_6), ((HB.out.cell (World.block_lt_of_cell? w _ hw112_7)).trans hw112_7), ((HB.out.cell (World.block_lt_of_cell? w _ hw112_8)).trans hw112_8), ((HB.out.cell (World.block_lt_of_cell? w _ hw112_9)).trans hw112_9), ((HB.out.cell (World.block_lt_of_cell? w _ hw112_10)).trans hw112_10), ((HB.out.cell (World.block_lt_of_cell? w _ hw112_11)).trans hw112_11), ((HB.out.cell (World.block_lt_of_cell? w _ hw112_12)).trans hw112_12), ((HB.out.cell (World.block_lt_of_cell? w _ hw112_13)).trans hw112_13)⟩ (fun hHeld => ?_); refine with_tabW wherryref17_Same.tab6 wherryref17_Same.bits6 (fun HT_ HW_ => ?_)
                  generalize wr.drew = w13 at HB HR111_13 HR112_13 hx111_0 hx111_1 hx111_10 hx111_11 hx111_12 hx111_13 hx111_2 hx111_3 hx111_4 hx111_5 hx111_6 hx111_7 hx111_8 hx111_9 hx112_0 hx112_1 hx112_10 hx112_11 hx112_12 hx112_13 hx112_2 hx112_3 hx112_4 hx112_5 hx112_6 hx112_7 hx112_8 hx112_9 hHeld ⊢
                  refine pure_ (i := 0) (N := some 18) (v := ?_) (a' := ?_) #[true, false, false, false, false, false, false, false, false, false, false, false] rfl rfl (any_of HT_.out (by kernel_rfl)) (fun _ _ _ h => h) (Or.inl ⟨by rfl, ?_⟩) ?_ ?_
                  rotate_left
                  · intro w'
                    go_simp
                    with_reducible rfl
                  rotate_left
                  · simp only [Act.put, List.setIfInBounds_toArray, List.set_cons_zero, List.set_cons_succ, i64_w, i32_w]
                    rfl
                  refine pure_ (i := 1) (N := some 19) (v := ?_) (a' := ?_) #[true, true, false, false, false, false, false, false, false, false, false, false] rfl rfl (any_of HT_.out (by kernel_rfl)) (fun _ _ _ h => h) (Or.inl ⟨by rfl, ?_⟩) ?_ ?_
                  rotate_left
                  · intro w'
                    go_simp
                    with_reducible rfl
                  rotate_left
                  · simp only [Act.put, List.setIfInBounds_toArray, List.set_cons_zero, List.set_cons_succ, i64_w, i32_w]
                    rfl
                  refine pure_ (i := 2) (N := some 20) (v := ?_) (a' := ?_) #[true, true, true, false, false, false, false, false, false, false, false, false] rfl rfl (any_of HT_.out (by kernel_rfl)) (fun _ _ _ h => h) (Or.inl ⟨by rfl, ?_⟩) ?_ ?_
                  rotate_left
                  · intro w'
                    go_simp
                    with_reducible rfl
                  rotate_left
                  · simp only [Act.put, List.setIfInBounds_toArray, List.set_cons_zero, List.set_cons_succ, i64_w, i32_w]
                    rfl
                  refine pure_ (i := 3) (N := some 21) (v := ?_) (a' := ?_) #[true, true, true, true, false, false, false, false, false, false, false, false] rfl rfl (any_of HT_.out (by kernel_rfl)) (fun _ _ _ h => h) (Or.inl ⟨by rfl, ?_⟩) ?_ ?_
                  rotate_left
                  · intro w'
                    go_simp
                    with_reducible rfl
                  rotate_left
                  · simp only [Act.put, List.setIfInBounds_toArray, List.set_cons_zero, List.set_cons_succ, i64_w, i32_w]
                    rfl
                  refine pure_ (i := 5) (N := some 23) (v := ?_) (a' := ?_) #[true, true, true, true, false, true, false, false, false, false, false, false] rfl rfl (any_of HT_.out (by kernel_rfl)) (fun _ _ _ h => h) (Or.inl ⟨by rfl, ?_⟩) ?_ ?_
                  rotate_left
                  · intro w'
                    go_simp
                    with_reducible rfl
                  rotate_left
                  · simp only [Act.put, List.setIfInBounds_toArray, List.set_cons_zero, List.set_cons_succ, i64_w, i32_w]
                    rfl
                  refine pure_ (i := 6) (N := some 24) (v := ?_) (a' := ?_) #[true, true, true, true, false, true, true, false, false, false, false, false] rfl rfl (any_of HT_.out (by kernel_rfl)) (fun _ _ _ h => h) (Or.inl ⟨by rfl, ?_⟩) ?_ ?_
                  rotate_left
                  · intro w'
                    go_simp
                    with_reducible rfl
                  rotate_left
                  · simp only [Act.put, List.setIfInBounds_toArray, List.set_cons_zero, List.set_cons_succ, i64_w, i32_w]
                    rfl
                  refine pure_ (i := 7) (N := some 25) (v := ?_) (a' := ?_) #[true, true, true, true, false, true, true, true, false, false, false, false] rfl rfl (any_of HT_.out (by kernel_rfl)) (fun _ _ _ h => h) (Or.inl ⟨by rfl, ?_⟩) ?_ ?_
                  rotate_left
                  · intro w'
                    go_simp
                    with_reducible rfl
                  rotate_left
                  · simp only [Act.put, List.setIfInBounds_toArray, List.set_cons_zero, List.set_cons_succ, i64_w, i32_w]
                    rfl
                  refine pure_ (i := 8) (N := some 26) (v := ?_) (a' := ?_) #[true, true, true, true, false, true, true, true, true, false, false, false] rfl rfl (any_of HT_.out (by kernel_rfl)) (fun _ _ _ h => h) (Or.inl ⟨by rfl, ?_⟩) ?_ ?_
                  rotate_left
                  · intro w'
                    go_simp
                    with_reducible rfl
                  rotate_left
                  · simp only [Act.put, List.setIfInBounds_toArray, List.set_cons_zero, List.set_cons_succ, i64_w, i32_w]
                    rfl
                  refine take_ (i := 4) (N := some 22) (v := ?_) (a' := ?_) #[true, true, true, true, true, true, true, true, true, false, false, false] rfl rfl (take_ofW HT_.out HW_.out (by kernel_rfl)) (fun _ _ _ h => h) (Or.inl ⟨by rfl, ?_⟩) hHeld ?_ ?_
                  rotate_left
                  · rintro w' ⟨s0, s1, s2, s3, s4, s5, s6, s7, s8, s9, s10, s11, s12, s13, s14, s15, s16, s17, s18, s19, s20, s21, s22, s23, s24, s25, s26, s27⟩
                    go_simp
                    with_reducible rfl
                  rotate_left
                  · simp only [Act.put, List.setIfInBounds_toArray, List.set_cons_zero, List.set_cons_succ, i64_w, i32_w]
                    rfl
                  refine take_ (i := 9) (N := some 27) (v := ?_) (a' := ?_) #[true, true, true, true, true, true, true, true, true, true, false, false] rfl rfl (take_ofW HT_.out HW_.out (by kernel_rfl)) (fun _ _ _ h => h) (Or.inl ⟨by rfl, ?_⟩) hHeld ?_ ?_
                  rotate_left
                  · rintro w' ⟨s0, s1, s2, s3, s4, s5, s6, s7, s8, s9, s10, s11, s12, s13, s14, s15, s16, s17, s18, s19, s20, s21, s22, s23, s24, s25, s26, s27⟩
                    go_simp
                    with_reducible rfl
                  rotate_left
                  · simp only [Act.put, List.setIfInBounds_toArray, List.set_cons_zero, List.set_cons_succ, i64_w, i32_w]
                    rfl
                  refine one_ (i := 10) (N := some 28) #[true, true, true, true, true, true, true, true, true, true, true, false] rfl rfl (one_of HT_.out (by kernel_rfl)) (by decide) (fun K hK => ?_)
                  refine goes_ Try.func26 (by kernel_rfl) rfl #[.agg #[.int .i64 ((rd_T32 l0 x5_1).f1.f0), .int .i64 ((rd_T32 l0 x5_1).f1.f1), .int .u64 ((rd_T32 l0 x5_1).f1.f2), .int .i64 ((rd_T32 l0 x5_1).f1.f3), .int .u64 ((rd_T32 l0 x5_1).f1.f4), .int .u64 ((rd_T32 l0 x5_1).f1.f5), .int .u64 ((rd_T32 l0 x5_1).f1.f6), .int .i64 ((rd_T32 l0 x5_1).f1.f7), .int .i64 ((rd_T32 l0 x5_1).f1.f8), .string ((rd_T32 l0 x5_1).f1.f9), .string ((rd_T32 l0 x5_1).f1.f10), .string ((rd_T32 l0 x5_1).f1.f11), .slice A111_13 ((rd_T32 l0 x5_1).f1.f12).length c111_13], .agg #[.int .i64 ((rd_T32 l1 x5_1).f1.f0), .int .i64 ((rd_T32 l1 x5_1).f1.f1), .int .u64 ((rd_T32 l1 x5_1).f1.f2), .int .i64 ((rd_T32 l1 x5_1).f1.f3), .int .u64 ((rd_T32 l1 x5_1).f1.f4), .int .u64 ((rd_T32 l1 x5_1).f1.f5), .int .u64 ((rd_T32 l1 x5_1).f1.f6), .int .i64 ((rd_T32 l1 x5_1).f1.f7), .int .i64 ((rd_T32 l1 x5_1).f1.f8), .string ((rd_T32 l1 x5_1).f1.f9), .string ((rd_T32 l1 x5_1).f1.f10), .string ((rd_T32 l1 x5_1).f1.f11), .slice A112_13 ((rd_T32 l1 x5_1).f1.f12).length c112_13]] (by rfl) rfl rfl (by (try simp only [List.map_toArray, List.map_cons, List.map_nil]); first | done | rfl | (simp only [List.length_drop, List.length_take]; rfl)) ?_
                  with_reducible refine (wherryref12_Same.calls k1 ((rd_T32 l0 x5_1).f1.f0) ((rd_T32 l0 x5_1).f1.f1) ((rd_T32 l0 x5_1).f1.f2) ((rd_T32 l0 x5_1).f1.f3) ((rd_T32 l0 x5_1).f1.f4) ((rd_T32 l0 x5_1).f1.f5) ((rd_T32 l0 x5_1).f1.f6) ((rd_T32 l0 x5_1).f1.f7) ((rd_T32 l0 x5_1).f1.f8) ((rd_T32 l0 x5_1).f1.f9) ((rd_T32 l0 x5_1).f1.f10) ((rd_T32 l0 x5_1).f1.f11) _ _ ((rd_T32 l0 x5_1).f1.f12) ((rd_T32 l1 x5_1).f1.f0) ((rd_T32 l1 x5_1).f1.f1) ((rd_T32 l1 x5_1).f1.f2) ((rd_T32 l1 x5_1).f1.f3) ((rd_T32 l1 x5_1).f1.f4) ((rd_T32 l1 x5_1).f1.f5) ((rd_T32 l1 x5_1).f1.f6) ((rd_T32 l1 x5_1).f1.f7) ((rd_T32 l1 x5_1).f1.f8) ((rd_T32 l1 x5_1).f1.f9) ((rd_T32 l1 x5_1).f1.f10) ((rd_T32 l1 x5_1).f1.f11) _ _ ((rd_T32 l1 x5_1).f1.f12) true _ ?side1 ?side2 ?side3 ?side4 A7.out).mono ?_
                  (case side1 => repeat (first | exact (Kd.C_below HR111_13.out HB.out) | (with_reducible refine Kd.C_alloc ?_ _) | (with_reducible refine Kd.C_drewN ?_ _) | (with_reducible refine Kd.C_drew ?_)))
                  (case side2 => exact HC111_13.out)
                  (case side3 => repeat (first | exact (Kd.C_below HR112_13.out HB.out) | (with_reducible refine Kd.C_alloc ?_ _) | (with_reducible refine Kd.C_drewN ?_ _) | (with_reducible refine Kd.C_drew ?_)))
                  (case side4 => exact HC112_13.out)
                  rintro e w14 ⟨rfl, hb⟩
                  refine ⟨_, rfl, ?_⟩
                  have n0_ := Aside0.mk (below_step (by repeat (first | (with_reducible first | exact HB.out | apply below_alloc | apply pw_below_drewN | apply below_drew1) | exact HB.out)) hb)
                  clear HB
                  have HB := n0_
                  clear n0_
                  (try clear hb)
                  (try clear hb2)
                  (try clear hk)
                  (try clear hi)
                  refine hK.out _ _ ⟨((HB.out.cell (World.block_lt_of_cell? w _ hw111_0)).trans hw111_0), ((HB.out.cell (World.block_lt_of_cell? w _ hw111_1)).trans hw111_1), ((HB.out.cell (World.block_lt_of_cell? w _ hw111_2)).trans hw111_2), ((HB.out.cell (World.block_lt_of_cell? w _ hw111_3)).trans hw111_3), ((HB.out.cell (World.block_lt_of_cell? w _ hw111_4)).trans hw111_4), ((HB.out.cell (World.block_lt_of_cell? w _ hw111_5)).trans hw111_5), ((HB.out.cell (World.block_lt_of_cell? w _ hw111_6)).trans hw111_6), ((HB.out.cell (World.block_lt_of_cell? w _ hw111_7)).trans hw111_7), ((HB.out.cell (World.block_lt_of_cell? w _ hw111_8)).trans hw111_8), ((HB.out.cell (World.block_lt_of_cell? w _ hw111_9)).trans hw111_9), ((HB.out.cell (World.block_lt_of_cell? w _ hw111_10)).trans hw111_10), ((HB.out.cell (World.block_lt_of_cell? w _ hw111_11)).trans hw111_11), ((HB.out.cell (World.block_lt_of_cell? w _ hw111_12)).trans hw111_12), ((HB.out.cell (World.block_lt_of_cell? w _ hw111_13)).trans hw111_13), ((HB.out.cell (World.block_lt_of_cell? w _ hw112_0)).trans hw112_0), ((HB.out.cell (World.block_lt_of_cell? w _ hw112_1)).trans hw112_1), ((HB.out.cell (World.block_lt_of_cell? w _ hw112_2)).trans hw112_2), ((HB.out.cell (World.block_lt_of_cell? w _ hw112_3)).trans hw112_3), ((HB.out.cell (World.block_lt_of_cell? w _ hw112_4)).trans hw112_4), ((HB.out.cell (World.block_lt_of_cell? w _ hw112_5)).trans hw112_5), ((HB.out.cell (World.block_lt_of_cell? w _ hw112_6)).trans hw112_6), ((HB.out.cell (World.block_lt_of_cell? w _ hw112_7)).trans hw112_7), ((HB.out.cell (World.block_lt_of_cell? w _ hw112_8)).trans hw112_8), ((HB.out.cell (World.block_lt_of_cell? w _ hw112_9)).trans hw112_9), ((HB.out.cell (World.block_lt_of_cell? w _ hw112_10)).trans hw112_10), ((HB.out.cell (World.block_lt_of_cell? w _ hw112_11)).trans hw112_11), ((HB.out.cell (World.block_lt_of_cell? w _ hw112_12)).trans hw112_12), ((HB.out.cell (World.block_lt_of_cell? w _ hw112_13)).trans hw112_13)⟩ (fun hHeld => ?_)
                  clear hK K
                  refine norm_ (a' := ?_) ?_ ?_
                  rotate_left
                  · show Act.put _ (some 28) _ = _
                    simp only [Act.put, List.setIfInBounds_toArray, List.set_cons_zero, List.set_cons_succ, i64_w, i32_w]
                    rfl
                  refine pure_ (i := 11) (N := some 6) (v := ?_) (a' := ?_) #[true, true, true, true, true, true, true, true, true, true, true, true] rfl rfl (any_of HT_.out (by kernel_rfl)) (fun _ _ _ h => h) (Or.inl ⟨by rfl, ?_⟩) ?_ ?_
                  rotate_left
                  · intro w'
                    go_simp
                    with_reducible rfl
                  rotate_left
                  · simp only [Act.put, List.setIfInBounds_toArray, List.set_cons_zero, List.set_cons_succ, i64_w, i32_w]
                    rfl
                  refine done_ (done_of HT_.out (by kernel_rfl)) ?_
                  try go_wp2
                  have n0_ := Aside0.mk (below_drew1 HB.out)
                  clear HB
                  have HB := n0_
                  clear n0_
                  have p114 : 0 ≤ (x5_1 : Int) := of_decide_eq_true (by first | (with_reducible assumption) | assumption)
                  have q114 : x5_1 < (l0.length : Int) := of_decide_eq_true (by first | (with_reducible assumption) | assumption)
                  obtain ⟨ad114, A114_13, c114_13, e114, hx114_0, hx114_1, hx114_2, hx114_3, hx114_4, hx114_5, hx114_6, hx114_7, hx114_8, hx114_9, hx114_10, hx114_11, hx114_12, hx114_13, hl114_13, hi114_13⟩ := at_T32 HR0.out x5_1 p114 q114
                  have hw114_13 := hx114_13
                  have hw114_12 := hx114_12
                  have hw114_11 := hx114_11
                  have hw114_10 := hx114_10
                  have hw114_9 := hx114_9
                  have hw114_8 := hx114_8
                  have hw114_7 := hx114_7
                  have hw114_6 := hx114_6
                  have hw114_5 := hx114_5
                  have hw114_4 := hx114_4
                  have hw114_3 := hx114_3
                  have hw114_2 := hx114_2
                  have hw114_1 := hx114_1
                  have hw114_0 := hx114_0
                  obtain rfl : ad111 = ad114 := (by injection e114)
                  replace hx114_0 := (HB.out.cell (World.block_lt_of_cell? w _ hx114_0)).trans hx114_0
                  replace hx114_1 := (HB.out.cell (World.block_lt_of_cell? w _ hx114_1)).trans hx114_1
                  replace hx114_2 := (HB.out.cell (World.block_lt_of_cell? w _ hx114_2)).trans hx114_2
                  replace hx114_3 := (HB.out.cell (World.block_lt_of_cell? w _ hx114_3)).trans hx114_3
                  replace hx114_4 := (HB.out.cell (World.block_lt_of_cell? w _ hx114_4)).trans hx114_4
                  replace hx114_5 := (HB.out.cell (World.block_lt_of_cell? w _ hx114_5)).trans hx114_5
                  replace hx114_6 := (HB.out.cell (World.block_lt_of_cell? w _ hx114_6)).trans hx114_6
                  replace hx114_7 := (HB.out.cell (World.block_lt_of_cell? w _ hx114_7)).trans hx114_7
                  replace hx114_8 := (HB.out.cell (World.block_lt_of_cell? w _ hx114_8)).trans hx114_8
                  replace hx114_9 := (HB.out.cell (World.block_lt_of_cell? w _ hx114_9)).trans hx114_9
                  replace hx114_10 := (HB.out.cell (World.block_lt_of_cell? w _ hx114_10)).trans hx114_10
                  replace hx114_11 := (HB.out.cell (World.block_lt_of_cell? w _ hx114_11)).trans hx114_11
                  replace hx114_12 := (HB.out.cell (World.block_lt_of_cell? w _ hx114_12)).trans hx114_12
                  replace hx114_13 := (HB.out.cell (World.block_lt_of_cell? w _ hx114_13)).trans hx114_13
                  have HR114_13 := Aside0.mk hi114_13
                  have HC114_13 := Aside0.mk hl114_13
                  clear hi114_13 hl114_13
                  replace p114 := eq_true p114
                  replace q114 := eq_true q114
                  have p115 : 0 ≤ (x5_1 : Int) := of_decide_eq_true (by first | (with_reducible assumption) | assumption)
                  have q115 : x5_1 < (l1.length : Int) := of_decide_eq_true (by first | (with_reducible assumption) | assumption)
                  obtain ⟨ad115, A115_13, c115_13, e115, hx115_0, hx115_1, hx115_2, hx115_3, hx115_4, hx115_5, hx115_6, hx115_7, hx115_8, hx115_9, hx115_10, hx115_11, hx115_12, hx115_13, hl115_13, hi115_13⟩ := at_T32 HR1.out x5_1 p115 q115
                  have hw115_13 := hx115_13
                  have hw115_12 := hx115_12
                  have hw115_11 := hx115_11
                  have hw115_10 := hx115_10
                  have hw115_9 := hx115_9
                  have hw115_8 := hx115_8
                  have hw115_7 := hx115_7
                  have hw115_6 := hx115_6
                  have hw115_5 := hx115_5
                  have hw115_4 := hx115_4
                  have hw115_3 := hx115_3
                  have hw115_2 := hx115_2
                  have hw115_1 := hx115_1
                  have hw115_0 := hx115_0
                  obtain rfl : ad112 = ad115 := (by injection e115)
                  replace hx115_0 := (HB.out.cell (World.block_lt_of_cell? w _ hx115_0)).trans hx115_0
                  replace hx115_1 := (HB.out.cell (World.block_lt_of_cell? w _ hx115_1)).trans hx115_1
                  replace hx115_2 := (HB.out.cell (World.block_lt_of_cell? w _ hx115_2)).trans hx115_2
                  replace hx115_3 := (HB.out.cell (World.block_lt_of_cell? w _ hx115_3)).trans hx115_3
                  replace hx115_4 := (HB.out.cell (World.block_lt_of_cell? w _ hx115_4)).trans hx115_4
                  replace hx115_5 := (HB.out.cell (World.block_lt_of_cell? w _ hx115_5)).trans hx115_5
                  replace hx115_6 := (HB.out.cell (World.block_lt_of_cell? w _ hx115_6)).trans hx115_6
                  replace hx115_7 := (HB.out.cell (World.block_lt_of_cell? w _ hx115_7)).trans hx115_7
                  replace hx115_8 := (HB.out.cell (World.block_lt_of_cell? w _ hx115_8)).trans hx115_8
                  replace hx115_9 := (HB.out.cell (World.block_lt_of_cell? w _ hx115_9)).trans hx115_9
                  replace hx115_10 := (HB.out.cell (World.block_lt_of_cell? w _ hx115_10)).trans hx115_10
                  replace hx115_11 := (HB.out.cell (World.block_lt_of_cell? w _ hx115_11)).trans hx115_11
                  replace hx115_12 := (HB.out.cell (World.block_lt_of_cell? w _ hx115_12)).trans hx115_12
                  replace hx115_13 := (HB.out.cell (World.block_lt_of_cell? w _ hx115_13)).trans hx115_13
                  have HR115_13 := Aside0.mk hi115_13
                  have HC115_13 := Aside0.mk hl115_13
                  clear hi115_13 hl115_13
                  replace p115 := eq_true p115
                  replace q115 := eq_true q115
                  refine start_ (n := 15) (S := fun w' => w'.cell? (ad111.add ((x5_1).toNat * 14)) = some (.int .i64 ((rd_T32 l0 x5_1).f0)) ∧ w'.cell? ⟨(ad111.add ((x5_1).toNat * 14)).block, (ad111.add ((x5_1).toNat * 14)).off + 1, none⟩ = some (.int .i64 ((rd_T32 l0 x5_1).f1.f0)) ∧ w'.cell? ⟨(ad111.add ((x5_1).toNat * 14)).block, (ad111.add ((x5_1).toNat * 14)).off + 2, none⟩ = some (.int .i64 ((rd_T32 l0 x5_1).f1.f1)) ∧ w'.cell? ⟨(ad111.add ((x5_1).toNat * 14)).block, (ad111.add ((x5_1).toNat * 14)).off + 3, none⟩ = some (.int .u64 ((rd_T32 l0 x5_1).f1.f2)) ∧ w'.cell? ⟨(ad111.add ((x5_1).toNat * 14)).block, (ad111.add ((x5_1).toNat * 14)).off + 4, none⟩ = some (.int .i64 ((rd_T32 l0 x5_1).f1.f3)) ∧ w'.cell? ⟨(ad111.add ((x5_1).toNat * 14)).block, (ad111.add ((x5_1).toNat * 14)).off + 5, none⟩ = some (.int .u64 ((rd_T32 l0 x5_1).f1.f4)) ∧ w'.cell? ⟨(ad111.add ((x5_1).toNat * 14)).block, (ad111.add ((x5_1).toNat * 14)).off + 6, none⟩ = some (.int .u64 ((rd_T32 l0 x5_1).f1.f5)) ∧ w'.cell? ⟨(ad111.add ((x5_1).toNat * 14)).block, (ad111.add ((x5_1).toNat * 14)).off + 7, none⟩ = some (.int .u64 ((rd_T32 l0 x5_1).f1.f6)) ∧ w'.cell? ⟨(ad111.add ((x5_1).toNat * 14)).block, (ad111.add ((x5_1).toNat * 14)).off + 8, none⟩ = some (.int .i64 ((rd_T32 l0 x5_1).f1.f7)) ∧ w'.cell? ⟨(ad111.add ((x5_1).toNat * 14)).block, (ad111.add ((x5_1).toNat * 14)).off + 9, none⟩ = some (.int .i64 ((rd_T32 l0 x5_1).f1.f8)) ∧ w'.cell? ⟨(ad111.add ((x5_1).toNat * 14)).block, (ad111.add ((x5_1).toNat * 14)).off + 10, none⟩ = some (.string ((rd_T32 l0 x5_1).f1.f9)) ∧ w'.cell? ⟨(ad111.add ((x5_1).toNat * 14)).block, (ad111.add ((x5_1).toNat * 14)).off + 11, none⟩ = some (.string ((rd_T32 l0 x5_1).f1.f10)) ∧ w'.cell? ⟨(ad111.add ((x5_1).toNat * 14)).block, (ad111.add ((x5_1).toNat * 14)).off + 12, none⟩ = some (.string ((rd_T32 l0 x5_1).f1.f11)) ∧ w'.cell? ⟨(ad111.add ((x5_1).toNat * 14)).block, (ad111.add ((x5_1).toNat * 14)).off + 13, none⟩ = some (.slice A114_13 ((rd_T32 l0 x5_1).f1.f12).length c114_13) ∧ w'.cell? (ad112.add ((x5_1).toNat * 14)) = some (.int .i64 ((rd_T32 l1 x5_1).f0)) ∧ w'.cell? ⟨(ad112.add ((x5_1).toNat * 14)).block, (ad112.add ((x5_1).toNat * 14)).off + 1, none⟩ = some (.int .i64 ((rd_T32 l1 x5_1).f1.f0)) ∧ w'.cell? ⟨(ad112.add ((x5_1).toNat * 14)).block, (ad112.add ((x5_1).toNat * 14)).off + 2, none⟩ = some (.int .i64 ((rd_T32 l1 x5_1).f1.f1)) ∧ w'.cell? ⟨(ad112.add ((x5_1).toNat * 14)).block, (ad112.add ((x5_1).toNat * 14)).off + 3, none⟩ = some (.int .u64 ((rd_T32 l1 x5_1).f1.f2)) ∧ w'.cell? ⟨(ad112.add ((x5_1).toNat * 14)).block, (ad112.add ((x5_1).toNat * 14)).off + 4, none⟩ = some (.int .i64 ((rd_T32 l1 x5_1).f1.f3)) ∧ w'.cell? ⟨(ad112.add ((x5_1).toNat * 14)).block, (ad112.add ((x5_1).toNat * 14)).off + 5, none⟩ = some (.int .u64 ((rd_T32 l1 x5_1).f1.f4)) ∧ w'.cell? ⟨(ad112.add ((x5_1).toNat * 14)).block, (ad112.add ((x5_1).toNat * 14)).off + 6, none⟩ = some (.int .u64 ((rd_T32 l1 x5_1).f1.f5)) ∧ w'.cell? ⟨(ad112.add ((x5_1).toNat * 14)).block, (ad112.add ((x5_1).toNat * 14)).off + 7, none⟩ = some (.int .u64 ((rd_T32 l1 x5_1).f1.f6)) ∧ w'.cell? ⟨(ad112.add ((x5_1).toNat * 14)).block, (ad112.add ((x5_1).toNat * 14)).off + 8, none⟩ = some (.int .i64 ((rd_T32 l1 x5_1).f1.f7)) ∧ w'.cell? ⟨(ad112.add ((x5_1).toNat * 14)).block, (ad112.add ((x5_1).toNat * 14)).off + 9, none⟩ = some (.int .i64 ((rd_T32 l1 x5_1).f1.f8)) ∧ w'.cell? ⟨(ad112.add ((x5_1).toNat * 14)).block, (ad112.add ((x5_1).toNat * 14)).off + 10, none⟩ = some (.string ((rd_T32 l1 x5_1).f1.f9)) ∧ w'.cell? ⟨(ad112.add ((x5_1).toNat * 14)).block, (ad112.add ((x5_1).toNat * 14)).off + 11, none⟩ = some (.string ((rd_T32 l1 x5_1).f1.f10)) ∧ w'.cell? ⟨(ad112.add ((x5_1).toNat * 14)).block, (ad112.add ((x5_1).toNat * 14)).off + 12, none⟩ = some (.string ((rd_T32 l1 x5_1).f1.f11)) ∧ w'.cell? ⟨(ad112.add ((x5_1).toNat * 14)).block, (ad112.add ((x5_1).toNat * 14)).off + 13, none⟩ = some (.slice A115_13 ((rd_T32 l1 x5_1).f1.f12).length c115_13)) (ds := []) #[false, false, false, false, false, false, false, false, false, false, false, false, false, false, false] (by kernel_rfl) rfl rfl ⟨((HB.out.cell (World.block_lt_of_cell? w _ hw114_0)).trans hw114_0), ((HB.out.cell (World.block_lt_of_cell? w _ hw114_1)).trans hw114_1), ((HB.out.cell (World.block_lt_of_cell? w _ hw114_2)).trans hw114_2), ((HB.out.cell (World.block_lt_of_cell? w _ hw114_3)).trans hw114_3), ((HB.out.cell (World.block_lt_of_cell? w _ hw114_4)).trans hw114_4), ((HB.out.cell (World.block_lt_of_cell? w _ hw114_5)).trans hw114_5), ((HB.out.cell (World.block_lt_of_cell? w _ hw114_6)).trans hw114_6), ((HB.out.cell (World.block_lt_of_cell? w _ hw114_7)).trans hw114_7), ((HB.out.cell (World.block_lt_of_cell? w _ hw114_8)).trans hw114_8), ((HB.out.cell (World.block_lt_of_cell? w _ hw114_9)).trans hw114_9), ((HB.out.cell (World.block_lt_of_cell? w _ hw114_10)).trans hw114_10), ((HB.out.cell (World.block_lt_of_cell? w _ hw114_11)).trans hw114_11), ((HB.out.cell (World.block_lt_of_cell? w _ hw114_12)).trans hw114_12), ((HB.out.cell (World.block_lt_of_cell? w _ hw114_13)).trans hw114_13), ((HB.out.cell (World.block_lt_of_cell? w _ hw115_0)).trans hw115_0), ((HB.out.cell (World.block_lt_of_cell? w _ hw115_1)).trans hw115_1), ((HB.out.cell (World.block_lt_of_cell? w _ hw115_2)).trans hw115_2), ((HB.out.cell (World.block_lt_of_cell? w _ hw115_3)).trans hw115_3), ((HB.out.cell (World.block_lt_of_cell? w _ hw115_4)).trans hw115_4), ((HB.out.cell (World.block_lt_of_cell? w _ hw115_5)).trans hw115_5), ((HB.out.cell (World.block_lt_of_cell? w _ hw115_6)).trans hw115_6), ((HB.out.cell (World.block_lt_of_cell? w _ hw115_7)).trans hw115_7), ((HB.out.cell (World.block_lt_of_cell? w _ hw115_8)).trans hw115_8), ((HB.out.cell (World.block_lt_of_cell? w _ hw115_9)).trans hw115_9), ((HB.out.cell (World.block_lt_of_cell? w _ hw115_10)).trans hw115_10), ((HB.out.cell (World.block_lt_of_cell? w _ hw115_11)).trans hw115_11), ((HB.out.cell (World.block_lt_of_cell? w _ hw115_12)).trans hw115_12), ((HB.out.cell (World.block_lt_of_cell? w _ hw115_13)).trans hw115_13)⟩ (fun hHeld => ?_); refine with_tabW wherryref17_Same.tab7 wherryref17_Same.bits7 (fun HT_ HW_ => ?_)
                  generalize w14.drew = w15 at HB HR114_13 HR115_13 hx114_0 hx114_1 hx114_10 hx114_11 hx114_12 hx114_13 hx114_2 hx114_3 hx114_4 hx114_5 hx114_6 hx114_7 hx114_8 hx114_9 hx115_0 hx115_1 hx115_10 hx115_11 hx115_12 hx115_13 hx115_2 hx115_3 hx115_4 hx115_5 hx115_6 hx115_7 hx115_8 hx115_9 hHeld ⊢
                  refine pure_ (i := 0) (N := some 29) (v := ?_) (a' := ?_) #[true, false, false, false, false, false, false, false, false, false, false, false, false, false, false] rfl rfl (any_of HT_.out (by kernel_rfl)) (fun _ _ _ h => h) (Or.inl ⟨by rfl, ?_⟩) ?_ ?_
                  rotate_left
                  · intro w'
                    go_simp
                    with_reducible rfl
                  rotate_left
                  · simp only [Act.put, List.setIfInBounds_toArray, List.set_cons_zero, List.set_cons_succ, i64_w, i32_w]
                    rfl
                  refine pure_ (i := 1) (N := some 30) (v := ?_) (a' := ?_) #[true, true, false, false, false, false, false, false, false, false, false, false, false, false, false] rfl rfl (any_of HT_.out (by kernel_rfl)) (fun _ _ _ h => h) (Or.inl ⟨by rfl, ?_⟩) ?_ ?_
                  rotate_left
                  · intro w'
                    go_simp
                    with_reducible rfl
                  rotate_left
                  · simp only [Act.put, List.setIfInBounds_toArray, List.set_cons_zero, List.set_cons_succ, i64_w, i32_w]
                    rfl
                  refine pure_ (i := 2) (N := some 31) (v := ?_) (a' := ?_) #[true, true, true, false, false, false, false, false, false, false, false, false, false, false, false] rfl rfl (any_of HT_.out (by kernel_rfl)) (fun _ _ _ h => h) (Or.inl ⟨by rfl, ?_⟩) ?_ ?_
                  rotate_left
                  · intro w'
                    go_simp
                    with_reducible rfl
                  rotate_left
                  · simp only [Act.put, List.setIfInBounds_toArray, List.set_cons_zero, List.set_cons_succ, i64_w, i32_w]
                    rfl
                  refine pure_ (i := 3) (N := some 32) (v := ?_) (a' := ?_) #[true, true, true, true, false, false, false, false, false, false, false, false, false, false, false] rfl rfl (any_of HT_.out (by kernel_rfl)) (fun _ _ _ h => h) (Or.inl ⟨by rfl, ?_⟩) ?_ ?_
                  rotate_left
                  · intro w'
                    go_simp
                    with_reducible rfl
                  rotate_left
                  · simp only [Act.put, List.setIfInBounds_toArray, List.set_cons_zero, List.set_cons_succ, i64_w, i32_w]
                    rfl
                  refine pure_ (i := 4) (N := some 33) (v := ?_) (a' := ?_) #[true, true, true, true, true, false, false, false, false, false, false, false, false, false, false] rfl rfl (any_of HT_.out (by kernel_rfl)) (fun _ _ _ h => h) (Or.inl ⟨by rfl, ?_⟩) ?_ ?_
                  rotate_left
                  · intro w'
                    go_simp
                    with_reducible rfl
                  rotate_left
                  · simp only [Act.put, List.setIfInBounds_toArray, List.set_cons_zero, List.set_cons_succ, i64_w, i32_w]
                    rfl
                  refine pure_ (i := 5) (N := some 34) (v := ?_) (a' := ?_) #[true, true, true, true, true, true, false, false, false, false, false, false, false, false, false] rfl rfl (any_of HT_.out (by kernel_rfl)) (fun _ _ _ h => h) (Or.inl ⟨by rfl, ?_⟩) ?_ ?_
                  rotate_left
                  · intro w'
                    go_simp
                    with_reducible rfl
                  rotate_left
                  · simp only [Act.put, List.setIfInBounds_toArray, List.set_cons_zero, List.set_cons_succ, i64_w, i32_w]
                    rfl
                  refine pure_ (i := 6) (N := some 35) (v := ?_) (a' := ?_) #[true, true, true, true, true, true, true, false, false, false, false, false, false, false, false] rfl rfl (any_of HT_.out (by kernel_rfl)) (fun _ _ _ h => h) (Or.inl ⟨by rfl, ?_⟩) ?_ ?_
                  rotate_left
                  · intro w'
                    go_simp
                    with_reducible rfl
                  rotate_left
                  · simp only [Act.put, List.setIfInBounds_toArray, List.set_cons_zero, List.set_cons_succ, i64_w, i32_w]
                    rfl
                  refine pure_ (i := 8) (N := some 37) (v := ?_) (a' := ?_) #[true, true, true, true, true, true, true, false, true, false, false, false, false, false, false] rfl rfl (any_of HT_.out (by kernel_rfl)) (fun _ _ _ h => h) (Or.inl ⟨by rfl, ?_⟩) ?_ ?_
                  rotate_left
                  · intro w'
                    go_simp
                    with_reducible rfl
                  rotate_left
                  · simp only [Act.put, List.setIfInBounds_toArray, List.set_cons_zero, List.set_cons_succ, i64_w, i32_w]
                    rfl
                  refine pure_ (i := 9) (N := some 38) (v := ?_) (a' := ?_) #[true, true, true, true, true, true, true, false, true, true, false, false, false, false, false] rfl rfl (any_of HT_.out (by kernel_rfl)) (fun _ _ _ h => h) (Or.inl ⟨by rfl, ?_⟩) ?_ ?_
                  rotate_left
                  · intro w'
                    go_simp
                    with_reducible rfl
                  rotate_left
                  · simp only [Act.put, List.setIfInBounds_toArray, List.set_cons_zero, List.set_cons_succ, i64_w, i32_w]
                    rfl
                  refine pure_ (i := 10) (N := some 39) (v := ?_) (a' := ?_) #[true, true, true, true, true, true, true, false, true, true, true, false, false, false, false] rfl rfl (any_of HT_.out (by kernel_rfl)) (fun _ _ _ h => h) (Or.inl ⟨by rfl, ?_⟩) ?_ ?_
                  rotate_left
                  · intro w'
                    go_simp
                    with_reducible rfl
                  rotate_left
                  · simp only [Act.put, List.setIfInBounds_toArray, List.set_cons_zero, List.set_cons_succ, i64_w, i32_w]
                    rfl
                  refine pure_ (i := 11) (N := some 40) (v := ?_) (a' := ?_) #[true, true, true, true, true, true, true, false, true, true, true, true, false, false, false] rfl rfl (any_of HT_.out (by kernel_rfl)) (fun _ _ _ h => h) (Or.inl ⟨by rfl, ?_⟩) ?_ ?_
                  rotate_left
                  · intro w'
                    go_simp
                    with_reducible rfl
                  rotate_left
                  · simp only [Act.put, List.setIfInBounds_toArray, List.set_cons_zero, List.set_cons_succ, i64_w, i32_w]
                    rfl
                  refine take_ (i := 7) (N := some 36) (v := ?_) (a' := ?_) #[true, true, true, true, true, true, true, true, true, true, true, true, false, false, false] rfl rfl (take_ofW HT_.out HW_.out (by kernel_rfl)) (fun _ _ _ h => h) (Or.inl ⟨by rfl, ?_⟩) hHeld ?_ ?_
                  rotate_left
                  · rintro w' ⟨s0, s1, s2, s3, s4, s5, s6, s7, s8, s9, s10, s11, s12, s13, s14, s15, s16, s17, s18, s19, s20, s21, s22, s23, s24, s25, s26, s27⟩
                    go_simp
                    with_reducible rfl
                  rotate_left
                  · simp only [Act.put, List.setIfInBounds_toArray, List.set_cons_zero, List.set_cons_succ, i64_w, i32_w]
                    rfl
                  refine take_ (i := 12) (N := some 41) (v := ?_) (a' := ?_) #[true, true, true, true, true, true, true, true, true, true, true, true, true, false, false] rfl rfl (take_ofW HT_.out HW_.out (by kernel_rfl)) (fun _ _ _ h => h) (Or.inl ⟨by rfl, ?_⟩) hHeld ?_ ?_
                  rotate_left
                  · rintro w' ⟨s0, s1, s2, s3, s4, s5, s6, s7, s8, s9, s10, s11, s12, s13, s14, s15, s16, s17, s18, s19, s20, s21, s22, s23, s24, s25, s26, s27⟩
                    go_simp
                    with_reducible rfl
                  rotate_left
                  · simp only [Act.put, List.setIfInBounds_toArray, List.set_cons_zero, List.set_cons_succ, i64_w, i32_w]
                    rfl
                  refine pure_ (i := 13) (N := some 42) (v := ?_) (a' := ?_) #[true, true, true, true, true, true, true, true, true, true, true, true, true, true, false] rfl rfl (any_of HT_.out (by kernel_rfl)) (fun _ _ _ h => h) (Or.inl ⟨by rfl, ?_⟩) ?_ ?_
                  rotate_left
                  · intro w'
                    go_simp
                    with_reducible rfl
                  rotate_left
                  · simp only [Act.put, List.setIfInBounds_toArray, List.set_cons_zero, List.set_cons_succ, i64_w, i32_w]
                    rfl
                  refine pure_ (i := 14) (N := some 43) (v := ?_) (a' := ?_) #[true, true, true, true, true, true, true, true, true, true, true, true, true, true, true] rfl rfl (any_of HT_.out (by kernel_rfl)) (fun _ _ _ h => h) (Or.inl ⟨by rfl, ?_⟩) ?_ ?_
                  rotate_left
                  · intro w'
                    go_simp
                    with_reducible rfl
                  rotate_left
                  · simp only [Act.put, List.setIfInBounds_toArray, List.set_cons_zero, List.set_cons_succ, i64_w, i32_w]
                    rfl
                  refine done_ (done_of HT_.out (by kernel_rfl)) ?_
                  try go_wp2
                  go_ret
                  exact ⟨by first | rfl | (simp [errW_none, errW_some] <;> rfl) | (simp [*, errW_none, errW_some] <;> rfl), by repeat (first | (with_reducible first | exact HB.out | apply below_alloc | apply pw_below_drewN | apply below_drew1) | exact HB.out)⟩
              · replace c8 := Bool.eq_false_iff.mpr c8
                subst c8
                have H1 : (some false) = some r := by rw [if_neg (show ¬ (false = true) by decide)] at H; exact H
                clear H
                have H := H1
                clear H1
                obtain rfl := Option.some.inj H
                try go_wp2
                have n0_ := Aside0.mk (below_drew1 HB.out)
                clear HB
                have HB := n0_
                clear n0_
                have p111 : 0 ≤ (x5_1 : Int) := of_decide_eq_true (by first | (with_reducible assumption) | assumption)
                have q111 : x5_1 < (l0.length : Int) := of_decide_eq_true (by first | (with_reducible assumption) | assumption)
                obtain ⟨ad111, A111_13, c111_13, e111, hx111_0, hx111_1, hx111_2, hx111_3, hx111_4, hx111_5, hx111_6, hx111_7, hx111_8, hx111_9, hx111_10, hx111_11, hx111_12, hx111_13, hl111_13, hi111_13⟩ := at_T32 HR0.out x5_1 p111 q111
                have hw111_13 := hx111_13
                have hw111_12 := hx111_12
                have hw111_11 := hx111_11
                have hw111_10 := hx111_10
                have hw111_9 := hx111_9
                have hw111_8 := hx111_8
                have hw111_7 := hx111_7
                have hw111_6 := hx111_6
                have hw111_5 := hx111_5
                have hw111_4 := hx111_4
                have hw111_3 := hx111_3
                have hw111_2 := hx111_2
                have hw111_1 := hx111_1
                have hw111_0 := hx111_0
                cases e111
                replace hx111_0 := (HB.out.cell (World.block_lt_of_cell? w _ hx111_0)).trans hx111_0
                replace hx111_1 := (HB.out.cell (World.block_lt_of_cell? w _ hx111_1)).trans hx111_1
                replace hx111_2 := (HB.out.cell (World.block_lt_of_cell? w _ hx111_2)).trans hx111_2
                replace hx111_3 := (HB.out.cell (World.block_lt_of_cell? w _ hx111_3)).trans hx111_3
                replace hx111_4 := (HB.out.cell (World.block_lt_of_cell? w _ hx111_4)).trans hx111_4
                replace hx111_5 := (HB.out.cell (World.block_lt_of_cell? w _ hx111_5)).trans hx111_5
                replace hx111_6 := (HB.out.cell (World.block_lt_of_cell? w _ hx111_6)).trans hx111_6
                replace hx111_7 := (HB.out.cell (World.block_lt_of_cell? w _ hx111_7)).trans hx111_7
                replace hx111_8 := (HB.out.cell (World.block_lt_of_cell? w _ hx111_8)).trans hx111_8
                replace hx111_9 := (HB.out.cell (World.block_lt_of_cell? w _ hx111_9)).trans hx111_9
                replace hx111_10 := (HB.out.cell (World.block_lt_of_cell? w _ hx111_10)).trans hx111_10
                replace hx111_11 := (HB.out.cell (World.block_lt_of_cell? w _ hx111_11)).trans hx111_11
                replace hx111_12 := (HB.out.cell (World.block_lt_of_cell? w _ hx111_12)).trans hx111_12
                replace hx111_13 := (HB.out.cell (World.block_lt_of_cell? w _ hx111_13)).trans hx111_13
                have HR111_13 := Aside0.mk hi111_13
                have HC111_13 := Aside0.mk hl111_13
                clear hi111_13 hl111_13
                replace p111 := eq_true p111
                replace q111 := eq_true q111
                have p112 : 0 ≤ (x5_1 : Int) := of_decide_eq_true (by first | (with_reducible assumption) | assumption)
                have q112 : x5_1 < (l1.length : Int) := of_decide_eq_true (by first | (with_reducible assumption) | assumption)
                obtain ⟨ad112, A112_13, c112_13, e112, hx112_0, hx112_1, hx112_2, hx112_3, hx112_4, hx112_5, hx112_6, hx112_7, hx112_8, hx112_9, hx112_10, hx112_11, hx112_12, hx112_13, hl112_13, hi112_13⟩ := at_T32 HR1.out x5_1 p112 q112
                have hw112_13 := hx112_13
                have hw112_12 := hx112_12
                have hw112_11 := hx112_11
                have hw112_10 := hx112_10
                have hw112_9 := hx112_9
                have hw112_8 := hx112_8
                have hw112_7 := hx112_7
                have hw112_6 := hx112_6
                have hw112_5 := hx112_5
                have hw112_4 := hx112_4
                have hw112_3 := hx112_3
                have hw112_2 := hx112_2
                have hw112_1 := hx112_1
                have hw112_0 := hx112_0
                cases e112
                replace hx112_0 := (HB.out.cell (World.block_lt_of_cell? w _ hx112_0)).trans hx112_0
                replace hx112_1 := (HB.out.cell (World.block_lt_of_cell? w _ hx112_1)).trans hx112_1
                replace hx112_2 := (HB.out.cell (World.block_lt_of_cell? w _ hx112_2)).trans hx112_2
                replace hx112_3 := (HB.out.cell (World.block_lt_of_cell? w _ hx112_3)).trans hx112_3
                replace hx112_4 := (HB.out.cell (World.block_lt_of_cell? w _ hx112_4)).trans hx112_4
                replace hx112_5 := (HB.out.cell (World.block_lt_of_cell? w _ hx112_5)).trans hx112_5
                replace hx112_6 := (HB.out.cell (World.block_lt_of_cell? w _ hx112_6)).trans hx112_6
                replace hx112_7 := (HB.out.cell (World.block_lt_of_cell? w _ hx112_7)).trans hx112_7
                replace hx112_8 := (HB.out.cell (World.block_lt_of_cell? w _ hx112_8)).trans hx112_8
                replace hx112_9 := (HB.out.cell (World.block_lt_of_cell? w _ hx112_9)).trans hx112_9
                replace hx112_10 := (HB.out.cell (World.block_lt_of_cell? w _ hx112_10)).trans hx112_10
                replace hx112_11 := (HB.out.cell (World.block_lt_of_cell? w _ hx112_11)).trans hx112_11
                replace hx112_12 := (HB.out.cell (World.block_lt_of_cell? w _ hx112_12)).trans hx112_12
                replace hx112_13 := (HB.out.cell (World.block_lt_of_cell? w _ hx112_13)).trans hx112_13
                have HR112_13 := Aside0.mk hi112_13
                have HC112_13 := Aside0.mk hl112_13
                clear hi112_13 hl112_13
                replace p112 := eq_true p112
                replace q112 := eq_true q112
                refine start_ (n := 12) (S := fun w' => w'.cell? (ad111.add ((x5_1).toNat * 14)) = some (.int .i64 ((rd_T32 l0 x5_1).f0)) ∧ w'.cell? ⟨(ad111.add ((x5_1).toNat * 14)).block, (ad111.add ((x5_1).toNat * 14)).off + 1, none⟩ = some (.int .i64 ((rd_T32 l0 x5_1).f1.f0)) ∧ w'.cell? ⟨(ad111.add ((x5_1).toNat * 14)).block, (ad111.add ((x5_1).toNat * 14)).off + 2, none⟩ = some (.int .i64 ((rd_T32 l0 x5_1).f1.f1)) ∧ w'.cell? ⟨(ad111.add ((x5_1).toNat * 14)).block, (ad111.add ((x5_1).toNat * 14)).off + 3, none⟩ = some (.int .u64 ((rd_T32 l0 x5_1).f1.f2)) ∧ w'.cell? ⟨(ad111.add ((x5_1).toNat * 14)).block, (ad111.add ((x5_1).toNat * 14)).off + 4, none⟩ = some (.int .i64 ((rd_T32 l0 x5_1).f1.f3)) ∧ w'.cell? ⟨(ad111.add ((x5_1).toNat * 14)).block, (ad111.add ((x5_1).toNat * 14)).off + 5, none⟩ = some (.int .u64 ((rd_T32 l0 x5_1).f1.f4)) ∧ w'.cell? ⟨(ad111.add ((x5_1).toNat * 14)).block, (ad111.add ((x5_1).toNat * 14)).off + 6, none⟩ = some (.int .u64 ((rd_T32 l0 x5_1).f1.f5)) ∧ w'.cell? ⟨(ad111.add ((x5_1).toNat * 14)).block, (ad111.add ((x5_1).toNat * 14)).off + 7, none⟩ = some (.int .u64 ((rd_T32 l0 x5_1).f1.f6)) ∧ w'.cell? ⟨(ad111.add ((x5_1).toNat * 14)).block, (ad111.add ((x5_1).toNat * 14)).off + 8, none⟩ = some (.int .i64 ((rd_T32 l0 x5_1).f1.f7)) ∧ w'.cell? ⟨(ad111.add ((x5_1).toNat * 14)).block, (ad111.add ((x5_1).toNat * 14)).off + 9, none⟩ = some (.int .i64 ((rd_T32 l0 x5_1).f1.f8)) ∧ w'.cell? ⟨(ad111.add ((x5_1).toNat * 14)).block, (ad111.add ((x5_1).toNat * 14)).off + 10, none⟩ = some (.string ((rd_T32 l0 x5_1).f1.f9)) ∧ w'.cell? ⟨(ad111.add ((x5_1).toNat * 14)).block, (ad111.add ((x5_1).toNat * 14)).off + 11, none⟩ = some (.string ((rd_T32 l0 x5_1).f1.f10)) ∧ w'.cell? ⟨(ad111.add ((x5_1).toNat * 14)).block, (ad111.add ((x5_1).toNat * 14)).off + 12, none⟩ = some (.string ((rd_T32 l0 x5_1).f1.f11)) ∧ w'.cell? ⟨(ad111.add ((x5_1).toNat * 14)).block, (ad111.add ((x5_1).toNat * 14)).off + 13, none⟩ = some (.slice A111_13 ((rd_T32 l0 x5_1).f1.f12).length c111_13) ∧ w'.cell? (ad112.add ((x5_1).toNat * 14)) = some (.int .i64 ((rd_T32 l1 x5_1).f0)) ∧ w'.cell? ⟨(ad112.add ((x5_1).toNat * 14)).block, (ad112.add ((x5_1).toNat * 14)).off + 1, none⟩ = some (.int .i64 ((rd_T32 l1 x5_1).f1.f0)) ∧ w'.cell? ⟨(ad112.add ((x5_1).toNat * 14)).block, (ad112.add ((x5_1).toNat * 14)).off + 2, none⟩ = some (.int .i64 ((rd_T32 l1 x5_1).f1.f1)) ∧ w'.cell? ⟨(ad112.add ((x5_1).toNat * 14)).block, (ad112.add ((x5_1).toNat * 14)).off + 3, none⟩ = some (.int .u64 ((rd_T32 l1 x5_1).f1.f2)) ∧ w'.cell? ⟨(ad112.add ((x5_1).toNat * 14)).block, (ad112.add ((x5_1).toNat * 14)).off + 4, none⟩ = some (.int .i64 ((rd_T32 l1 x5_1).f1.f3)) ∧ w'.cell? ⟨(ad112.add ((x5_1).toNat * 14)).block, (ad112.add ((x5_1).toNat * 14)).off + 5, none⟩ = some (.int .u64 ((rd_T32 l1 x5_1).f1.f4)) ∧ w'.cell? ⟨(ad112.add ((x5_1).toNat * 14)).block, (ad112.add ((x5_1).toNat * 14)).off + 6, none⟩ = some (.int .u64 ((rd_T32 l1 x5_1).f1.f5)) ∧ w'.cell? ⟨(ad112.add ((x5_1).toNat * 14)).block, (ad112.add ((x5_1).toNat * 14)).off + 7, none⟩ = some (.int .u64 ((rd_T32 l1 x5_1).f1.f6)) ∧ w'.cell? ⟨(ad112.add ((x5_1).toNat * 14)).block, (ad112.add ((x5_1).toNat * 14)).off + 8, none⟩ = some (.int .i64 ((rd_T32 l1 x5_1).f1.f7)) ∧ w'.cell? ⟨(ad112.add ((x5_1).toNat * 14)).block, (ad112.add ((x5_1).toNat * 14)).off + 9, none⟩ = some (.int .i64 ((rd_T32 l1 x5_1).f1.f8)) ∧ w'.cell? ⟨(ad112.add ((x5_1).toNat * 14)).block, (ad112.add ((x5_1).toNat * 14)).off + 10, none⟩ = some (.string ((rd_T32 l1 x5_1).f1.f9)) ∧ w'.cell? ⟨(ad112.add ((x5_1).toNat * 14)).block, (ad112.add ((x5_1).toNat * 14)).off + 11, none⟩ = some (.string ((rd_T32 l1 x5_1).f1.f10)) ∧ w'.cell? ⟨(ad112.add ((x5_1).toNat * 14)).block, (ad112.add ((x5_1).toNat * 14)).off + 12, none⟩ = some (.string ((rd_T32 l1 x5_1).f1.f11)) ∧ w'.cell? ⟨(ad112.add ((x5_1).toNat * 14)).block, (ad112.add ((x5_1).toNat * 14)).off + 13, none⟩ = some (.slice A112_13 ((rd_T32 l1 x5_1).f1.f12).length c112_13)) (ds := []) #[false, false, false, false, false, false, false, false, false, false, false, false] (by kernel_rfl) rfl rfl ⟨((HB.out.cell (World.block_lt_of_cell? w _ hw111_0)).trans hw111_0), ((HB.out.cell (World.block_lt_of_cell? w _ hw111_1)).trans hw111_1), ((HB.out.cell (World.block_lt_of_cell? w _ hw111_2)).trans hw111_2), ((HB.out.cell (World.block_lt_of_cell? w _ hw111_3)).trans hw111_3), ((HB.out.cell (World.block_lt_of_cell? w _ hw111_4)).trans hw111_4), ((HB.out.cell (World.block_lt_of_cell? w _ hw111_5)).trans hw111_5), ((HB.out.cell (World.block_lt_of_cell? w _ hw111_6)).trans hw111_6), ((HB.out.cell (World.block_lt_of_cell? w _ hw111_7)).trans hw111_7), ((HB.out.cell (World.block_lt_of_cell? w _ hw111_8)).trans hw111_8), ((HB.out.cell (World.block_lt_of_cell? w _ hw111_9)).trans hw111_9), ((HB.out.cell (World.block_lt_of_cell? w _ hw111_10)).trans hw111_10), ((HB.out.cell (World.block_lt_of_cell? w _ hw111_11)).trans hw111_11), ((HB.out.cell (World.block_lt_of_cell? w _ hw111_12)).trans hw111_12), ((HB.out.cell (World.block_lt_of_cell? w _ hw111_13)).trans hw111_13), ((HB.out.cell (World.block_lt_of_cell? w _ hw112_0)).trans hw112_0), ((HB.out.cell (World.block_lt_of_cell? w _ hw112_1)).trans hw112_1), ((HB.out.cell (World.block_lt_of_cell? w _ hw112_2)).trans hw112_2), ((HB.out.cell (World.block_lt_of_cell? w _ hw112_3)).trans hw112_3), ((HB.out.cell (World.block_lt_of_cell? w _ hw112_4)).trans hw112_4), ((HB.out.cell (World.block_lt_of_cell? w _ hw112_5)).trans hw112_5), ((HB.out.cell (World.block_lt_of_cell? w _ hw112_6)).trans hw112_6), ((HB.out.cell (World.block_lt_of_cell? w _ hw112_7)).trans hw112_7), ((HB.out.cell (World.block_lt_of_cell? w _ hw112_8)).trans hw112_8), ((HB.out.cell (World.block_lt_of_cell? w _ hw112_9)).trans hw112_9), ((HB.out.cell (World.block_lt_of_cell? w _ hw112_10)).trans hw112_10), ((HB.out.cell (World.block_lt_of_cell? w _ hw112_11)).trans hw112_11), ((HB.out.cell (World.block_lt_of_cell? w _ hw112_12)).trans hw112_12), ((HB.out.cell (World.block_lt_of_cell? w _ hw112_13)).trans hw112_13)⟩ (fun hHeld => ?_); refine with_tabW wherryref17_Same.tab6 wherryref17_Same.bits6 (fun HT_ HW_ => ?_)
                generalize wr.drew = w16 at HB HR111_13 HR112_13 hx111_0 hx111_1 hx111_10 hx111_11 hx111_12 hx111_13 hx111_2 hx111_3 hx111_4 hx111_5 hx111_6 hx111_7 hx111_8 hx111_9 hx112_0 hx112_1 hx112_10 hx112_11 hx112_12 hx112_13 hx112_2 hx112_3 hx112_4 hx112_5 hx112_6 hx112_7 hx112_8 hx112_9 hHeld ⊢
                refine pure_ (i := 0) (N := some 18) (v := ?_) (a' := ?_) #[true, false, false, false, false, false, false, false, false, false, false, false] rfl rfl (any_of HT_.out (by kernel_rfl)) (fun _ _ _ h => h) (Or.inl ⟨by rfl, ?_⟩) ?_ ?_
                rotate_left
                · intro w'
                  go_simp
                  with_reducible rfl
                rotate_left
                · simp only [Act.put, List.setIfInBounds_toArray, List.set_cons_zero, List.set_cons_succ, i64_w, i32_w]
                  rfl
                refine pure_ (i := 1) (N := some 19) (v := ?_) (a' := ?_) #[true, true, false, false, false, false, false, false, false, false, false, false] rfl rfl (any_of HT_.out (by kernel_rfl)) (fun _ _ _ h => h) (Or.inl ⟨by rfl, ?_⟩) ?_ ?_
                rotate_left
                · intro w'
                  go_simp
                  with_reducible rfl
                rotate_left
                · simp only [Act.put, List.setIfInBounds_toArray, List.set_cons_zero, List.set_cons_succ, i64_w, i32_w]
                  rfl
                refine pure_ (i := 2) (N := some 20) (v := ?_) (a' := ?_) #[true, true, true, false, false, false, false, false, false, false, false, false] rfl rfl (any_of HT_.out (by kernel_rfl)) (fun _ _ _ h => h) (Or.inl ⟨by rfl, ?_⟩) ?_ ?_
                rotate_left
                · intro w'
                  go_simp
                  with_reducible rfl
                rotate_left
                · simp only [Act.put, List.setIfInBounds_toArray, List.set_cons_zero, List.set_cons_succ, i64_w, i32_w]
                  rfl
                refine pure_ (i := 3) (N := some 21) (v := ?_) (a' := ?_) #[true, true, true, true, false, false, false, false, false, false, false, false] rfl rfl (any_of HT_.out (by kernel_rfl)) (fun _ _ _ h => h) (Or.inl ⟨by rfl, ?_⟩) ?_ ?_
                rotate_left
                · intro w'
                  go_simp
                  with_reducible rfl
                rotate_left
                · simp only [Act.put, List.setIfInBounds_toArray, List.set_cons_zero, List.set_cons_succ, i64_w, i32_w]
                  rfl
                refine pure_ (i := 5) (N := some 23) (v := ?_) (a' := ?_) #[true, true, true, true, false, true, false, false, false, false, false, false] rfl rfl (any_of HT_.out (by kernel_rfl)) (fun _ _ _ h => h) (Or.inl ⟨by rfl, ?_⟩) ?_ ?_
                rotate_left
                · intro w'
                  go_simp
                  with_reducible rfl
                rotate_left
                · simp only [Act.put, List.setIfInBounds_toArray, List.set_cons_zero, List.set_cons_succ, i64_w, i32_w]
                  rfl
                refine pure_ (i := 6) (N := some 24) (v := ?_) (a' := ?_) #[true, true, true, true, false, true, true, false, false, false, false, false] rfl rfl (any_of HT_.out (by kernel_rfl)) (fun _ _ _ h => h) (Or.inl ⟨by rfl, ?_⟩) ?_ ?_
                rotate_left
                · intro w'
                  go_simp
                  with_reducible rfl
                rotate_left
                · simp only [Act.put, List.setIfInBounds_toArray, List.set_cons_zero, List.set_cons_succ, i64_w, i32_w]
                  rfl
                refine pure_ (i := 7) (N := some 25) (v := ?_) (a' := ?_) #[true, true, true, true, false, true, true, true, false, false, false, false] rfl rfl (any_of HT_.out (by kernel_rfl)) (fun _ _ _ h => h) (Or.inl ⟨by rfl, ?_⟩) ?_ ?_
                rotate_left
                · intro w'
                  go_simp
                  with_reducible rfl
                rotate_left
                · simp only [Act.put, List.setIfInBounds_toArray, List.set_cons_zero, List.set_cons_succ, i64_w, i32_w]
                  rfl
                refine pure_ (i := 8) (N := some 26) (v := ?_) (a' := ?_) #[true, true, true, true, false, true, true, true, true, false, false, false] rfl rfl (any_of HT_.out (by kernel_rfl)) (fun _ _ _ h => h) (Or.inl ⟨by rfl, ?_⟩) ?_ ?_
                rotate_left
                · intro w'
                  go_simp
                  with_reducible rfl
                rotate_left
                · simp only [Act.put, List.setIfInBounds_toArray, List.set_cons_zero, List.set_cons_succ, i64_w, i32_w]
                  rfl
                refine take_ (i := 4) (N := some 22) (v := ?_) (a' := ?_) #[true, true, true, true, true, true, true, true, true, false, false, false] rfl rfl (take_ofW HT_.out HW_.out (by kernel_rfl)) (fun _ _ _ h => h) (Or.inl ⟨by rfl, ?_⟩) hHeld ?_ ?_
                rotate_left
                · rintro w' ⟨s0, s1, s2, s3, s4, s5, s6, s7, s8, s9, s10, s11, s12, s13, s14, s15, s16, s17, s18, s19, s20, s21, s22, s23, s24, s25, s26, s27⟩
                  go_simp
                  with_reducible rfl
                rotate_left
                · simp only [Act.put, List.setIfInBounds_toArray, List.set_cons_zero, List.set_cons_succ, i64_w, i32_w]
                  rfl
                refine take_ (i := 9) (N := some 27) (v := ?_) (a' := ?_) #[true, true, true, true, true, true, true, true, true, true, false, false] rfl rfl (take_ofW HT_.out HW_.out (by kernel_rfl)) (fun _ _ _ h => h) (Or.inl ⟨by rfl, ?_⟩) hHeld ?_ ?_
                rotate_left
                · rintro w' ⟨s0, s1, s2, s3, s4, s5, s6, s7, s8, s9, s10, s11, s12, s13, s14, s15, s16, s17, s18, s19, s20, s21, s22, s23, s24, s25, s26, s27⟩
                  go_simp
                  with_reducible rfl
                rotate_left
                · simp only [Act.put, List.setIfInBounds_toArray, List.set_cons_zero, List.set_cons_succ, i64_w, i32_w]
                  rfl
                refine one_ (i := 10) (N := some 28) #[true, true, true, true, true, true, true, true, true, true, true, false] rfl rfl (one_of HT_.out (by kernel_rfl)) (by decide) (fun K hK => ?_)
                refine goes_ Try.func26 (by kernel_rfl) rfl #[.agg #[.int .i64 ((rd_T32 l0 x5_1).f1.f0), .int .i64 ((rd_T32 l0 x5_1).f1.f1), .int .u64 ((rd_T32 l0 x5_1).f1.f2), .int .i64 ((rd_T32 l0 x5_1).f1.f3), .int .u64 ((rd_T32 l0 x5_1).f1.f4), .int .u64 ((rd_T32 l0 x5_1).f1.f5), .int .u64 ((rd_T32 l0 x5_1).f1.f6), .int .i64 ((rd_T32 l0 x5_1).f1.f7), .int .i64 ((rd_T32 l0 x5_1).f1.f8), .string ((rd_T32 l0 x5_1).f1.f9), .string ((rd_T32 l0 x5_1).f1.f10), .string ((rd_T32 l0 x5_1).f1.f11), .slice A111_13 ((rd_T32 l0 x5_1).f1.f12).length c111_13], .agg #[.int .i64 ((rd_T32 l1 x5_1).f1.f0), .int .i64 ((rd_T32 l1 x5_1).f1.f1), .int .u64 ((rd_T32 l1 x5_1).f1.f2), .int .i64 ((rd_T32 l1 x5_1).f1.f3), .int .u64 ((rd_T32 l1 x5_1).f1.f4), .int .u64 ((rd_T32 l1 x5_1).f1.f5), .int .u64 ((rd_T32 l1 x5_1).f1.f6), .int .i64 ((rd_T32 l1 x5_1).f1.f7), .int .i64 ((rd_T32 l1 x5_1).f1.f8), .string ((rd_T32 l1 x5_1).f1.f9), .string ((rd_T32 l1 x5_1).f1.f10), .string ((rd_T32 l1 x5_1).f1.f11), .slice A112_13 ((rd_T32 l1 x5_1).f1.f12).length c112_13]] (by rfl) rfl rfl (by (try simp only [List.map_toArray, List.map_cons, List.map_nil]); first | done | rfl | (simp only [List.length_drop, List.length_take]; rfl)) ?_
                with_reducible refine (wherryref12_Same.calls k1 ((rd_T32 l0 x5_1).f1.f0) ((rd_T32 l0 x5_1).f1.f1) ((rd_T32 l0 x5_1).f1.f2) ((rd_T32 l0 x5_1).f1.f3) ((rd_T32 l0 x5_1).f1.f4) ((rd_T32 l0 x5_1).f1.f5) ((rd_T32 l0 x5_1).f1.f6) ((rd_T32 l0 x5_1).f1.f7) ((rd_T32 l0 x5_1).f1.f8) ((rd_T32 l0 x5_1).f1.f9) ((rd_T32 l0 x5_1).f1.f10) ((rd_T32 l0 x5_1).f1.f11) _ _ ((rd_T32 l0 x5_1).f1.f12) ((rd_T32 l1 x5_1).f1.f0) ((rd_T32 l1 x5_1).f1.f1) ((rd_T32 l1 x5_1).f1.f2) ((rd_T32 l1 x5_1).f1.f3) ((rd_T32 l1 x5_1).f1.f4) ((rd_T32 l1 x5_1).f1.f5) ((rd_T32 l1 x5_1).f1.f6) ((rd_T32 l1 x5_1).f1.f7) ((rd_T32 l1 x5_1).f1.f8) ((rd_T32 l1 x5_1).f1.f9) ((rd_T32 l1 x5_1).f1.f10) ((rd_T32 l1 x5_1).f1.f11) _ _ ((rd_T32 l1 x5_1).f1.f12) false _ ?side1 ?side2 ?side3 ?side4 A7.out).mono ?_
                (case side1 => repeat (first | exact (Kd.C_below HR111_13.out HB.out) | (with_reducible refine Kd.C_alloc ?_ _) | (with_reducible refine Kd.C_drewN ?_ _) | (with_reducible refine Kd.C_drew ?_)))
                (case side2 => exact HC111_13.out)
                (case side3 => repeat (first | exact (Kd.C_below HR112_13.out HB.out) | (with_reducible refine Kd.C_alloc ?_ _) | (with_reducible refine Kd.C_drewN ?_ _) | (with_reducible refine Kd.C_drew ?_)))
                (case side4 => exact HC112_13.out)
                rintro e w17 ⟨rfl, hb⟩
                refine ⟨_, rfl, ?_⟩
                have n0_ := Aside0.mk (below_step (by repeat (first | (with_reducible first | exact HB.out | apply below_alloc | apply pw_below_drewN | apply below_drew1) | exact HB.out)) hb)
                clear HB
                have HB := n0_
                clear n0_
                (try clear hb)
                (try clear hb2)
                (try clear hk)
                (try clear hi)
                refine hK.out _ _ ⟨((HB.out.cell (World.block_lt_of_cell? w _ hw111_0)).trans hw111_0), ((HB.out.cell (World.block_lt_of_cell? w _ hw111_1)).trans hw111_1), ((HB.out.cell (World.block_lt_of_cell? w _ hw111_2)).trans hw111_2), ((HB.out.cell (World.block_lt_of_cell? w _ hw111_3)).trans hw111_3), ((HB.out.cell (World.block_lt_of_cell? w _ hw111_4)).trans hw111_4), ((HB.out.cell (World.block_lt_of_cell? w _ hw111_5)).trans hw111_5), ((HB.out.cell (World.block_lt_of_cell? w _ hw111_6)).trans hw111_6), ((HB.out.cell (World.block_lt_of_cell? w _ hw111_7)).trans hw111_7), ((HB.out.cell (World.block_lt_of_cell? w _ hw111_8)).trans hw111_8), ((HB.out.cell (World.block_lt_of_cell? w _ hw111_9)).trans hw111_9), ((HB.out.cell (World.block_lt_of_cell? w _ hw111_10)).trans hw111_10), ((HB.out.cell (World.block_lt_of_cell? w _ hw111_11)).trans hw111_11), ((HB.out.cell (World.block_lt_of_cell? w _ hw111_12)).trans hw111_12), ((HB.out.cell (World.block_lt_of_cell? w _ hw111_13)).trans hw111_13), ((HB.out.cell (World.block_lt_of_cell? w _ hw112_0)).trans hw112_0), ((HB.out.cell (World.block_lt_of_cell? w _ hw112_1)).trans hw112_1), ((HB.out.cell (World.block_lt_of_cell? w _ hw112_2)).trans hw112_2), ((HB.out.cell (World.block_lt_of_cell? w _ hw112_3)).trans hw112_3), ((HB.out.cell (World.block_lt_of_cell? w _ hw112_4)).trans hw112_4), ((HB.out.cell (World.block_lt_of_cell? w _ hw112_5)).trans hw112_5), ((HB.out.cell (World.block_lt_of_cell? w _ hw112_6)).trans hw112_6), ((HB.out.cell (World.block_lt_of_cell? w _ hw112_7)).trans hw112_7), ((HB.out.cell (World.block_lt_of_cell? w _ hw112_8)).trans hw112_8), ((HB.out.cell (World.block_lt_of_cell? w _ hw112_9)).trans hw112_9), ((HB.out.cell (World.block_lt_of_cell? w _ hw112_10)).trans hw112_10), ((HB.out.cell (World.block_lt_of_cell? w _ hw112_11)).trans hw112_11), ((HB.out.cell (World.block_lt_of_cell? w _ hw112_12)).trans hw112_12), ((HB.out.cell (World.block_lt_of_cell? w _ hw112_13)).trans hw112_13)⟩ (fun hHeld => ?_)
                clear hK K
                refine norm_ (a' := ?_) ?_ ?_
                rotate_left
                · show Act.put _ (some 28) _ = _
                  simp only [Act.put, List.setIfInBounds_toArray, List.set_cons_zero, List.set_cons_succ, i64_w, i32_w]
                  rfl
                refine pure_ (i := 11) (N := some 6) (v := ?_) (a' := ?_) #[true, true, true, true, true, true, true, true, true, true, true, true] rfl rfl (any_of HT_.out (by kernel_rfl)) (fun _ _ _ h => h) (Or.inl ⟨by rfl, ?_⟩) ?_ ?_
                rotate_left
                · intro w'
                  go_simp
                  with_reducible rfl
                rotate_left
                · simp only [Act.put, List.setIfInBounds_toArray, List.set_cons_zero, List.set_cons_succ, i64_w, i32_w]
                  rfl
                refine done_ (done_of HT_.out (by kernel_rfl)) ?_
                try go_wp2
                have n0_ := Aside0.mk (below_drew1 HB.out)
                clear HB
                have HB := n0_
                clear n0_
                refine start_ (n := 15) (S := fun w' => True) (ds := []) #[false, false, false, false, false, false, false, false, false, false, false, false, false, false, false] (by kernel_rfl) rfl rfl trivial (fun hHeld => ?_); refine with_tabW wherryref17_Same.tab7 wherryref17_Same.bits7 (fun HT_ HW_ => ?_)
                generalize w17.drew = w18 at HB hHeld ⊢
                refine pure_ (i := 0) (N := some 29) (v := ?_) (a' := ?_) #[true, false, false, false, false, false, false, false, false, false, false, false, false, false, false] rfl rfl (any_of HT_.out (by kernel_rfl)) (fun _ _ _ h => h) (Or.inl ⟨by rfl, ?_⟩) ?_ ?_
                rotate_left
                · intro w'
                  go_simp
                  with_reducible rfl
                rotate_left
                · simp only [Act.put, List.setIfInBounds_toArray, List.set_cons_zero, List.set_cons_succ, i64_w, i32_w]
                  rfl
                refine pure_ (i := 1) (N := some 30) (v := ?_) (a' := ?_) #[true, true, false, false, false, false, false, false, false, false, false, false, false, false, false] rfl rfl (any_of HT_.out (by kernel_rfl)) (fun _ _ _ h => h) (Or.inl ⟨by rfl, ?_⟩) ?_ ?_
                rotate_left
                · intro w'
                  go_simp
                  with_reducible rfl
                rotate_left
                · simp only [Act.put, List.setIfInBounds_toArray, List.set_cons_zero, List.set_cons_succ, i64_w, i32_w]
                  rfl
                refine pure_ (i := 2) (N := some 31) (v := ?_) (a' := ?_) #[true, true, true, false, false, false, false, false, false, false, false, false, false, false, false] rfl rfl (any_of HT_.out (by kernel_rfl)) (fun _ _ _ h => h) (Or.inl ⟨by rfl, ?_⟩) ?_ ?_
                rotate_left
                · intro w'
                  go_simp
                  with_reducible rfl
                rotate_left
                · simp only [Act.put, List.setIfInBounds_toArray, List.set_cons_zero, List.set_cons_succ, i64_w, i32_w]
                  rfl
                refine pure_ (i := 3) (N := some 32) (v := undef) (a' := ?_) #[true, true, true, true, false, false, false, false, false, false, false, false, false, false, false] rfl rfl (any_of HT_.out (by kernel_rfl)) (fun _ _ _ h => h) (Or.inr ⟨by rfl, rfl⟩) ?_ ?_
                rotate_left
                · simp only [Act.put, List.setIfInBounds_toArray, List.set_cons_zero, List.set_cons_succ, i64_w, i32_w]
                  rfl
                refine pure_ (i := 4) (N := some 33) (v := undef) (a' := ?_) #[true, true, true, true, true, false, false, false, false, false, false, false, false, false, false] rfl rfl (any_of HT_.out (by kernel_rfl)) (fun _ _ _ h => h) (Or.inr ⟨by rfl, rfl⟩) ?_ ?_
                rotate_left
                · simp only [Act.put, List.setIfInBounds_toArray, List.set_cons_zero, List.set_cons_succ, i64_w, i32_w]
                  rfl
                refine pure_ (i := 5) (N := some 34) (v := undef) (a' := ?_) #[true, true, true, true, true, true, false, false, false, false, false, false, false, false, false] rfl rfl (any_of HT_.out (by kernel_rfl)) (fun _ _ _ h => h) (Or.inr ⟨by rfl, rfl⟩) ?_ ?_
                rotate_left
                · simp only [Act.put, List.setIfInBounds_toArray, List.set_cons_zero, List.set_cons_succ, i64_w, i32_w]
                  rfl
                refine pure_ (i := 6) (N := some 35) (v := undef) (a' := ?_) #[true, true, true, true, true, true, true, false, false, false, false, false, false, false, false] rfl rfl (any_of HT_.out (by kernel_rfl)) (fun _ _ _ h => h) (Or.inr ⟨by rfl, rfl⟩) ?_ ?_
                rotate_left
                · simp only [Act.put, List.setIfInBounds_toArray, List.set_cons_zero, List.set_cons_succ, i64_w, i32_w]
                  rfl
                refine pure_ (i := 7) (N := some 36) (v := undef) (a' := ?_) #[true, true, true, true, true, true, true, true, false, false, false, false, false, false, false] rfl rfl (any_of HT_.out (by kernel_rfl)) (fun _ _ _ h => h) (Or.inr ⟨by rfl, rfl⟩) ?_ ?_
                rotate_left
                · simp only [Act.put, List.setIfInBounds_toArray, List.set_cons_zero, List.set_cons_succ, i64_w, i32_w]
                  rfl
                refine pure_ (i := 8) (N := some 37) (v := undef) (a' := ?_) #[true, true, true, true, true, true, true, true, true, false, false, false, false, false, false] rfl rfl (any_of HT_.out (by kernel_rfl)) (fun _ _ _ h => h) (Or.inr ⟨by rfl, rfl⟩) ?_ ?_
                rotate_left
                · simp only [Act.put, List.setIfInBounds_toArray, List.set_cons_zero, List.set_cons_succ, i64_w, i32_w]
                  rfl
                refine pure_ (i := 9) (N := some 38) (v := undef) (a' := ?_) #[true, true, true, true, true, true, true, true, true, true, false, false, false, false, false] rfl rfl (any_of HT_.out (by kernel_rfl)) (fun _ _ _ h => h) (Or.inr ⟨by rfl, rfl⟩) ?_ ?_
                rotate_left
                · simp only [Act.put, List.setIfInBounds_toArray, List.set_cons_zero, List.set_cons_succ, i64_w, i32_w]
                  rfl
                refine pure_ (i := 10) (N := some 39) (v := undef) (a' := ?_) #[true, true, true, true, true, true, true, true, true, true, true, false, false, false, false] rfl rfl (any_of HT_.out (by kernel_rfl)) (fun _ _ _ h => h) (Or.inr ⟨by rfl, rfl⟩) ?_ ?_
                rotate_left
                · simp only [Act.put, List.setIfInBounds_toArray, List.set_cons_zero, List.set_cons_succ, i64_w, i32_w]
                  rfl
                refine pure_ (i := 11) (N := some 40) (v := undef) (a' := ?_) #[true, true, true, true, true, true, true, true, true, true, true, true, false, false, false] rfl rfl (any_of HT_.out (by kernel_rfl)) (fun _ _ _ h => h) (Or.inr ⟨by rfl, rfl⟩) ?_ ?_
                rotate_left
                · simp only [Act.put, List.setIfInBounds_toArray, List.set_cons_zero, List.set_cons_succ, i64_w, i32_w]
                  rfl
                refine pure_ (i := 12) (N := some 41) (v := undef) (a' := ?_) #[true, true, true, true, true, true, true, true, true, true, true, true, true, false, false] rfl rfl (any_of HT_.out (by kernel_rfl)) (fun _ _ _ h => h) (Or.inr ⟨by rfl, rfl⟩) ?_ ?_
                rotate_left
                · simp only [Act.put, List.setIfInBounds_toArray, List.set_cons_zero, List.set_cons_succ, i64_w, i32_w]
                  rfl
                refine pure_ (i := 13) (N := some 42) (v := undef) (a' := ?_) #[true, true, true, true, true, true, true, true, true, true, true, true, true, true, false] rfl rfl (any_of HT_.out (by kernel_rfl)) (fun _ _ _ h => h) (Or.inr ⟨by rfl, rfl⟩) ?_ ?_
                rotate_left
                · simp only [Act.put, List.setIfInBounds_toArray, List.set_cons_zero, List.set_cons_succ, i64_w, i32_w]
                  rfl
                refine pure_ (i := 14) (N := some 43) (v := ?_) (a' := ?_) #[true, true, true, true, true, true, true, true, true, true, true, true, true, true, true] rfl rfl (any_of HT_.out (by kernel_rfl)) (fun _ _ _ h => h) (Or.inl ⟨by rfl, ?_⟩) ?_ ?_
                rotate_left
                · intro w'
                  go_simp
                  with_reducible rfl
                rotate_left
                · simp only [Act.put, List.setIfInBounds_toArray, List.set_cons_zero, List.set_cons_succ, i64_w, i32_w]
                  rfl
                refine done_ (done_of HT_.out (by kernel_rfl)) ?_
                try go_wp2
                go_ret
                exact ⟨by first | rfl | (simp [errW_none, errW_some] <;> rfl) | (simp [*, errW_none, errW_some] <;> rfl), by repeat (first | (with_reducible first | exact HB.out | apply below_alloc | apply pw_below_drewN | apply below_drew1) | exact HB.out)⟩
            · rw [if_neg c6] at H
              exact absurd H (by simp)
          · rw [if_neg c5] at H
            exact absurd H (by simp)
        · rw [if_neg c4] at H
          have c4b0 : decide (x5_1 < (l0.length : Int)) = false := decide_eq_false c4
          clear c4
          obtain rfl := Option.some.inj H
          go_wp2
          go_ret
          exact ⟨by first | rfl | (simp [errW_none, errW_some] <;> rfl) | (simp [*, errW_none, errW_some] <;> rfl), by repeat (first | (with_reducible first | exact HB.out | apply below_alloc | apply pw_below_drewN | apply below_drew1) | exact HB.out)⟩
  · rw [if_neg c3] at H
    have c3b0 : ((l0.length : Int) == (l1.length : Int)) = false := beq_eq_false_iff_ne.mpr c3
    have c3b1 : ((l0.length : Int) != (l1.length : Int)) = true := bne_iff_ne.mpr c3
    have c3b2 : (l0.length == l1.length) = false := by first | simpa using c3 | (simp at c3 ⊢; omega)
    obtain rfl := Option.some.inj H
    go_enter Try.func13, Try.ntmps13
    go_wp2
    go_ret
    exact ⟨by first | rfl | (simp [errW_none, errW_some] <;> rfl) | (simp [*, errW_none, errW_some] <;> rfl), by repeat (first | (with_reducible first | exact HB.out | apply below_alloc | apply pw_below_drewN | apply below_drew1) | exact HB.out)⟩

end Go.Proofs.Ytijbpncekdiodaa.PMailMoves
