/- The reference's Build, its parts. Laid by gen_su.py. -/
import Derived.Test.YtfemjlhfgmbcmaaSq
namespace Go.Proofs.Ytfemjlhfgmbcmaa
open Go.RowKit Go.Shelf Go.Proofs.YtfemjlhfgmbcmaaW.PrintWords Go.Proofs.YtfemjlhfgmbcmaaW.PrintLast Go.Proofs.YtfemjlhfgmbcmaaW.PrintMore
open Go.Proofs.Ytfemjlhfgmbcmaa.PRunBuilds
set_option linter.unusedVariables false
set_option linter.unusedSimpArgs false
attribute [local go_sem ↓] Go.wp_at_zero Go.wp_at_succ

/-- A row as it is passed. -/
def rowV (x : RRow) : Value := .agg #[.string x.k, .string x.s, .bool x.gone]

set_option maxRecDepth 100000 in
theorem refMay_calls (x : RRow) (w : World) : Calls Try.prog 83 #[rowV x] w fun e w' => e = .returned (.int .i64 (mayN x)) ∧ Below w.heap.size w w' := by
  obtain ⟨k, s, gone⟩ := x
  have HB := Lib.hid (below_alloc (Below.refl w.heap.size w) (.cells #[.string k, .string s, .bool gone] 54))
  unfold rowV
  dsimp only
  by_cases h1 : 64 < k.size
  · have hd1 : decide ((64 : Int) < (k.size : Int)) = true := by simp; omega
    rw [show mayN ⟨k, s, gone⟩ = 13 by unfold mayN; rw [if_pos (.inl h1)]]
    go_enter Try.func83, Try.ntmps83
    go_wp2_with fail
    go_ret
    exact ⟨rfl, HB.out⟩
  · have hd1 : decide ((64 : Int) < (k.size : Int)) = false := by simp; omega
    by_cases h2 : 16384 < s.size
    · have hd2 : decide ((16384 : Int) < (s.size : Int)) = true := by simp; omega
      rw [show mayN ⟨k, s, gone⟩ = 13 by unfold mayN; rw [if_pos (.inr h2)]]
      go_enter Try.func83, Try.ntmps83
      go_wp2_with fail
      go_ret
      exact ⟨rfl, HB.out⟩
    · have hd2 : decide ((16384 : Int) < (s.size : Int)) = false := by simp; omega
      cases gone
      · rw [show mayN ⟨k, s, false⟩ = 0 by unfold mayN; rw [if_neg (by simp; omega), if_neg (by simp)]]
        go_enter Try.func83, Try.ntmps83
        go_wp2_with fail
        go_ret
        exact ⟨rfl, HB.out⟩
      · by_cases hz : s.size = 0
        · have hz2 : s.toList = [] := str_none hz
          rw [show mayN ⟨k, s, true⟩ = 0 by unfold mayN; rw [if_neg (by simp; omega), if_neg (fun h => h.2 hz)]]
          go_enter Try.func83, Try.ntmps83
          go_wp2_with fail
          go_ret
          exact ⟨rfl, HB.out⟩
        · have hz2 := str_some (show 0 < s.size by omega)
          rw [show mayN ⟨k, s, true⟩ = 1 by unfold mayN; rw [if_neg (by simp; omega), if_pos ⟨rfl, hz⟩]]
          go_enter Try.func83, Try.ntmps83
          go_wp2_with fail
          go_ret
          exact ⟨rfl, HB.out⟩

set_option maxRecDepth 100000 in
set_option maxHeartbeats 4000000 in
theorem refBytes_calls (x : RRow) (w : World) (hk : x.k.size ≤ 64) (hs : x.s.size ≤ 16384) : Calls Try.prog 84 #[rowV x] w fun e w' => e = .returned (.string (rowB x)) ∧ Below w.heap.size w w' := by
  obtain ⟨k, s, gone⟩ := x
  dsimp only at hk hs
  have hb0 := below_alloc (Below.refl w.heap.size w) (.cells #[.string k, .string s, .bool gone] 54)
  have HB := Lib.hid hb0
  clear hb0
  obtain ⟨K, hK⟩ : ∃ K, K = encB k.size ++ k := ⟨_, rfl⟩
  obtain ⟨S, hS⟩ : ∃ S, S = encB s.size ++ s := ⟨_, rfl⟩
  have HK := Lib.hid (fun W => (show Calls Try.prog 46 #[.string k] W fun e w' => e = .returned (.string K) ∧ Below W.heap.size W w' by rw [hK]; exact RText_calls k W (by omega)))
  have HS := Lib.hid (fun W => (show Calls Try.prog 46 #[.string s] W fun e w' => e = .returned (.string S) ∧ Below W.heap.size W w' by rw [hS]; exact RText_calls s W (by omega)))
  have hkz : K.size ≤ 100 := by have := (encB_le k.size (by omega)).1; rw [hK, ByteArray.size_append]; omega
  have hsz : S.size ≤ 16484 := by have := (encB_le s.size (by omega)).1; rw [hS, ByteArray.size_append]; omega
  have HR := Lib.hid (show rowB ⟨k, s, gone⟩ = K ++ flagB gone ++ S by rw [hK, hS]; rfl)
  clear hK hS
  rw [HR.out]
  unfold rowV
  dsimp only
  cases gone
  · show Calls Try.prog 84 _ w fun e w' => e = .returned (.string (K ++ ⟨#[0]⟩ ++ S)) ∧ _
    have hz1 : K.size + 1 ≤ 9223372036854775807 := by omega
    have hz2 : K.size + 1 + S.size ≤ 9223372036854775807 := by omega
    go_enter Try.func84, Try.ntmps84
    go_wp2_with fail
    have c0 : (w.alloc (.cells #[.string k, .string s, .bool false] 54)).cell? ⟨w.heap.size, 0, none⟩ = some (.string k) := (blk_cell (blk_new w _) 0).trans rfl
    have c1 : (w.alloc (.cells #[.string k, .string s, .bool false] 54)).cell? ⟨w.heap.size, 1, none⟩ = some (.string s) := (blk_cell (blk_new w _) 1).trans rfl
    have HDW := Lib.hid (below_drew1 (Below.refl (w.alloc (.cells #[.string k, .string s, .bool false] 54)).heap.size (w.alloc (.cells #[.string k, .string s, .bool false] 54))))
    refine start_ (n := 11) (S := fun w' => w'.cell? ⟨w.heap.size, 0, none⟩ = some (.string k) ∧ w'.cell? ⟨w.heap.size, 1, none⟩ = some (.string s)) (ds := []) #[false, false, false, false, false, false, false, false, false, false, false] (by kernel_rfl) rfl rfl (⟨pw_cell_below HDW.out c0, pw_cell_below HDW.out c1⟩) (fun hHeld => ?_)
    refine pure_ (i := 0) (N := some 7) (v := ?_) (a' := ?_) #[true, false, false, false, false, false, false, false, false, false, false] rfl rfl (by kernel_rfl) (fun _ _ _ h => h) (Or.inl ⟨by rfl, ?_⟩) ?_ ?_
    rotate_left
    · intro w'
      go_simp
      with_reducible rfl
    rotate_left
    · simp only [Act.put, List.setIfInBounds_toArray, List.set_cons_zero, List.set_cons_succ, i64_w, i32_w]
      rfl
    refine take_ (i := 1) (N := some 8) (v := ?_) (a' := ?_) #[true, true, false, false, false, false, false, false, false, false, false] rfl rfl (by kernel_rfl) (fun _ _ _ h => h) (Or.inl ⟨by rfl, ?_⟩) hHeld ?_ ?_
    rotate_left
    · rintro w' ⟨s0, s1⟩
      go_simp
      with_reducible rfl
    rotate_left
    · simp only [Act.put, List.setIfInBounds_toArray, List.set_cons_zero, List.set_cons_succ, i64_w, i32_w]
      rfl
    refine pure_ (i := 3) (N := some 10) (v := ?_) (a' := ?_) #[true, true, false, true, false, false, false, false, false, false, false] rfl rfl (by kernel_rfl) (fun _ _ _ h => h) (Or.inl ⟨by rfl, ?_⟩) ?_ ?_
    rotate_left
    · intro w'
      go_simp
      with_reducible rfl
    rotate_left
    · simp only [Act.put, List.setIfInBounds_toArray, List.set_cons_zero, List.set_cons_succ, i64_w, i32_w]
      rfl
    refine pure_ (i := 5) (N := some 12) (v := ?_) (a' := ?_) #[true, true, false, true, false, true, false, false, false, false, false] rfl rfl (by kernel_rfl) (fun _ _ _ h => h) (Or.inl ⟨by rfl, ?_⟩) ?_ ?_
    rotate_left
    · intro w'
      go_simp
      with_reducible rfl
    rotate_left
    · simp only [Act.put, List.setIfInBounds_toArray, List.set_cons_zero, List.set_cons_succ, i64_w, i32_w]
      rfl
    refine pure_ (i := 6) (N := some 13) (v := ?_) (a' := ?_) #[true, true, false, true, false, true, true, false, false, false, false] rfl rfl (by kernel_rfl) (fun _ _ _ h => h) (Or.inl ⟨by rfl, ?_⟩) ?_ ?_
    rotate_left
    · intro w'
      go_simp
      with_reducible rfl
    rotate_left
    · simp only [Act.put, List.setIfInBounds_toArray, List.set_cons_zero, List.set_cons_succ, i64_w, i32_w]
      rfl
    refine take_ (i := 7) (N := some 14) (v := ?_) (a' := ?_) #[true, true, false, true, false, true, true, true, false, false, false] rfl rfl (by kernel_rfl) (fun _ _ _ h => h) (Or.inl ⟨by rfl, ?_⟩) hHeld ?_ ?_
    rotate_left
    · rintro w' ⟨s0, s1⟩
      go_simp
      with_reducible rfl
    rotate_left
    · simp only [Act.put, List.setIfInBounds_toArray, List.set_cons_zero, List.set_cons_succ, i64_w, i32_w]
      rfl
    refine one_ (i := 2) (N := some 9) #[true, true, true, true, false, true, true, true, false, false, false] rfl rfl (by kernel_rfl) (by decide) (fun K hK => ?_)
    refine goes_ Try.func46 (by kernel_rfl) rfl #[.string k] (by rfl) rfl rfl (by simp only [List.map_toArray, List.map_cons, List.map_nil]; rfl) ?_
    refine (HK.out _).mono ?_
    rintro e w3 ⟨rfl, hb3⟩
    refine ⟨_, rfl, ?_⟩
    have HB3 := Lib.hid hb3
    clear hb3
    refine hK.out _ _ (⟨pw_cell_below HB3.out hHeld.1, pw_cell_below HB3.out hHeld.2⟩) (fun hHeld => ?_)
    clear hK K
    refine norm_ (a' := ?_) ?_ ?_
    rotate_left
    · show Act.put _ (some 9) _ = _
      simp only [Act.put, List.setIfInBounds_toArray, List.set_cons_zero, List.set_cons_succ, i64_w, i32_w]
      rfl
    refine pure_ (i := 4) (N := some 11) (v := .string (K ++ ⟨#[0]⟩)) (a' := ?_) #[true, true, true, true, true, true, true, true, false, false, false] rfl rfl (by kernel_rfl) (fun _ _ _ h => h) (Or.inl ⟨by rfl, ?_⟩) ?_ ?_
    · intro w'
      go_simp
    rotate_left
    · simp only [Act.put, List.setIfInBounds_toArray, List.set_cons_zero, List.set_cons_succ, i64_w, i32_w]
      rfl
    refine one_ (i := 8) (N := some 15) #[true, true, true, true, true, true, true, true, true, false, false] rfl rfl (by kernel_rfl) (by decide) (fun K hK => ?_)
    refine goes_ Try.func46 (by kernel_rfl) rfl #[.string s] (by rfl) rfl rfl (by simp only [List.map_toArray, List.map_cons, List.map_nil]; rfl) ?_
    refine (HS.out _).mono ?_
    rintro e w4 ⟨rfl, hb4⟩
    refine ⟨_, rfl, ?_⟩
    have HB4 := Lib.hid hb4
    clear hb4
    refine hK.out _ _ (⟨pw_cell_below HB4.out hHeld.1, pw_cell_below HB4.out hHeld.2⟩) (fun hHeld => ?_)
    clear hK K
    refine norm_ (a' := ?_) ?_ ?_
    rotate_left
    · show Act.put _ (some 15) _ = _
      simp only [Act.put, List.setIfInBounds_toArray, List.set_cons_zero, List.set_cons_succ, i64_w, i32_w]
      rfl
    refine pure_ (i := 9) (N := some 16) (v := .string (K ++ ⟨#[0]⟩ ++ S)) (a' := ?_) #[true, true, true, true, true, true, true, true, true, true, false] rfl rfl (by kernel_rfl) (fun _ _ _ h => h) (Or.inl ⟨by rfl, ?_⟩) ?_ ?_
    · intro w'
      go_simp
    rotate_left
    · simp only [Act.put, List.setIfInBounds_toArray, List.set_cons_zero, List.set_cons_succ, i64_w, i32_w]
      rfl
    refine pure_ (i := 10) (N := some 2) (v := ?_) (a' := ?_) #[true, true, true, true, true, true, true, true, true, true, true] rfl rfl (by kernel_rfl) (fun _ _ _ h => h) (Or.inl ⟨by rfl, ?_⟩) ?_ ?_
    rotate_left
    · intro w'
      go_simp
      with_reducible rfl
    rotate_left
    · simp only [Act.put, List.setIfInBounds_toArray, List.set_cons_zero, List.set_cons_succ, i64_w, i32_w]
      rfl
    refine done_ (by kernel_rfl) ?_
    clear hHeld
    go_wp2_with fail
    go_ret
    exact ⟨rfl, (HB.out.trans (HDW.out.mono HB.out.size)).trans ((HB3.out.trans (HB4.out.mono HB3.out.size)).mono (by have := HB.out.size; have := HDW.out.size; omega))⟩
  · show Calls Try.prog 84 _ w fun e w' => e = .returned (.string (K ++ ⟨#[1]⟩ ++ S)) ∧ _
    have hz1 : K.size + 1 ≤ 9223372036854775807 := by omega
    have hz2 : K.size + 1 + S.size ≤ 9223372036854775807 := by omega
    go_enter Try.func84, Try.ntmps84
    go_wp2_with fail
    have c0 : (w.alloc (.cells #[.string k, .string s, .bool true] 54)).cell? ⟨w.heap.size, 0, none⟩ = some (.string k) := (blk_cell (blk_new w _) 0).trans rfl
    have c1 : (w.alloc (.cells #[.string k, .string s, .bool true] 54)).cell? ⟨w.heap.size, 1, none⟩ = some (.string s) := (blk_cell (blk_new w _) 1).trans rfl
    have HDW := Lib.hid (below_drew1 (Below.refl (w.alloc (.cells #[.string k, .string s, .bool true] 54)).heap.size (w.alloc (.cells #[.string k, .string s, .bool true] 54))))
    refine start_ (n := 11) (S := fun w' => w'.cell? ⟨w.heap.size, 0, none⟩ = some (.string k) ∧ w'.cell? ⟨w.heap.size, 1, none⟩ = some (.string s)) (ds := []) #[false, false, false, false, false, false, false, false, false, false, false] (by kernel_rfl) rfl rfl (⟨pw_cell_below HDW.out c0, pw_cell_below HDW.out c1⟩) (fun hHeld => ?_)
    refine pure_ (i := 0) (N := some 7) (v := ?_) (a' := ?_) #[true, false, false, false, false, false, false, false, false, false, false] rfl rfl (by kernel_rfl) (fun _ _ _ h => h) (Or.inl ⟨by rfl, ?_⟩) ?_ ?_
    rotate_left
    · intro w'
      go_simp
      with_reducible rfl
    rotate_left
    · simp only [Act.put, List.setIfInBounds_toArray, List.set_cons_zero, List.set_cons_succ, i64_w, i32_w]
      rfl
    refine take_ (i := 1) (N := some 8) (v := ?_) (a' := ?_) #[true, true, false, false, false, false, false, false, false, false, false] rfl rfl (by kernel_rfl) (fun _ _ _ h => h) (Or.inl ⟨by rfl, ?_⟩) hHeld ?_ ?_
    rotate_left
    · rintro w' ⟨s0, s1⟩
      go_simp
      with_reducible rfl
    rotate_left
    · simp only [Act.put, List.setIfInBounds_toArray, List.set_cons_zero, List.set_cons_succ, i64_w, i32_w]
      rfl
    refine pure_ (i := 3) (N := some 10) (v := ?_) (a' := ?_) #[true, true, false, true, false, false, false, false, false, false, false] rfl rfl (by kernel_rfl) (fun _ _ _ h => h) (Or.inl ⟨by rfl, ?_⟩) ?_ ?_
    rotate_left
    · intro w'
      go_simp
      with_reducible rfl
    rotate_left
    · simp only [Act.put, List.setIfInBounds_toArray, List.set_cons_zero, List.set_cons_succ, i64_w, i32_w]
      rfl
    refine pure_ (i := 5) (N := some 12) (v := ?_) (a' := ?_) #[true, true, false, true, false, true, false, false, false, false, false] rfl rfl (by kernel_rfl) (fun _ _ _ h => h) (Or.inl ⟨by rfl, ?_⟩) ?_ ?_
    rotate_left
    · intro w'
      go_simp
      with_reducible rfl
    rotate_left
    · simp only [Act.put, List.setIfInBounds_toArray, List.set_cons_zero, List.set_cons_succ, i64_w, i32_w]
      rfl
    refine pure_ (i := 6) (N := some 13) (v := ?_) (a' := ?_) #[true, true, false, true, false, true, true, false, false, false, false] rfl rfl (by kernel_rfl) (fun _ _ _ h => h) (Or.inl ⟨by rfl, ?_⟩) ?_ ?_
    rotate_left
    · intro w'
      go_simp
      with_reducible rfl
    rotate_left
    · simp only [Act.put, List.setIfInBounds_toArray, List.set_cons_zero, List.set_cons_succ, i64_w, i32_w]
      rfl
    refine take_ (i := 7) (N := some 14) (v := ?_) (a' := ?_) #[true, true, false, true, false, true, true, true, false, false, false] rfl rfl (by kernel_rfl) (fun _ _ _ h => h) (Or.inl ⟨by rfl, ?_⟩) hHeld ?_ ?_
    rotate_left
    · rintro w' ⟨s0, s1⟩
      go_simp
      with_reducible rfl
    rotate_left
    · simp only [Act.put, List.setIfInBounds_toArray, List.set_cons_zero, List.set_cons_succ, i64_w, i32_w]
      rfl
    refine one_ (i := 2) (N := some 9) #[true, true, true, true, false, true, true, true, false, false, false] rfl rfl (by kernel_rfl) (by decide) (fun K hK => ?_)
    refine goes_ Try.func46 (by kernel_rfl) rfl #[.string k] (by rfl) rfl rfl (by simp only [List.map_toArray, List.map_cons, List.map_nil]; rfl) ?_
    refine (HK.out _).mono ?_
    rintro e w3 ⟨rfl, hb3⟩
    refine ⟨_, rfl, ?_⟩
    have HB3 := Lib.hid hb3
    clear hb3
    refine hK.out _ _ (⟨pw_cell_below HB3.out hHeld.1, pw_cell_below HB3.out hHeld.2⟩) (fun hHeld => ?_)
    clear hK K
    refine norm_ (a' := ?_) ?_ ?_
    rotate_left
    · show Act.put _ (some 9) _ = _
      simp only [Act.put, List.setIfInBounds_toArray, List.set_cons_zero, List.set_cons_succ, i64_w, i32_w]
      rfl
    refine pure_ (i := 4) (N := some 11) (v := .string (K ++ ⟨#[1]⟩)) (a' := ?_) #[true, true, true, true, true, true, true, true, false, false, false] rfl rfl (by kernel_rfl) (fun _ _ _ h => h) (Or.inl ⟨by rfl, ?_⟩) ?_ ?_
    · intro w'
      go_simp
    rotate_left
    · simp only [Act.put, List.setIfInBounds_toArray, List.set_cons_zero, List.set_cons_succ, i64_w, i32_w]
      rfl
    refine one_ (i := 8) (N := some 15) #[true, true, true, true, true, true, true, true, true, false, false] rfl rfl (by kernel_rfl) (by decide) (fun K hK => ?_)
    refine goes_ Try.func46 (by kernel_rfl) rfl #[.string s] (by rfl) rfl rfl (by simp only [List.map_toArray, List.map_cons, List.map_nil]; rfl) ?_
    refine (HS.out _).mono ?_
    rintro e w4 ⟨rfl, hb4⟩
    refine ⟨_, rfl, ?_⟩
    have HB4 := Lib.hid hb4
    clear hb4
    refine hK.out _ _ (⟨pw_cell_below HB4.out hHeld.1, pw_cell_below HB4.out hHeld.2⟩) (fun hHeld => ?_)
    clear hK K
    refine norm_ (a' := ?_) ?_ ?_
    rotate_left
    · show Act.put _ (some 15) _ = _
      simp only [Act.put, List.setIfInBounds_toArray, List.set_cons_zero, List.set_cons_succ, i64_w, i32_w]
      rfl
    refine pure_ (i := 9) (N := some 16) (v := .string (K ++ ⟨#[1]⟩ ++ S)) (a' := ?_) #[true, true, true, true, true, true, true, true, true, true, false] rfl rfl (by kernel_rfl) (fun _ _ _ h => h) (Or.inl ⟨by rfl, ?_⟩) ?_ ?_
    · intro w'
      go_simp
    rotate_left
    · simp only [Act.put, List.setIfInBounds_toArray, List.set_cons_zero, List.set_cons_succ, i64_w, i32_w]
      rfl
    refine pure_ (i := 10) (N := some 2) (v := ?_) (a' := ?_) #[true, true, true, true, true, true, true, true, true, true, true] rfl rfl (by kernel_rfl) (fun _ _ _ h => h) (Or.inl ⟨by rfl, ?_⟩) ?_ ?_
    rotate_left
    · intro w'
      go_simp
      with_reducible rfl
    rotate_left
    · simp only [Act.put, List.setIfInBounds_toArray, List.set_cons_zero, List.set_cons_succ, i64_w, i32_w]
      rfl
    refine done_ (by kernel_rfl) ?_
    clear hHeld
    go_wp2_with fail
    go_ret
    exact ⟨rfl, (HB.out.trans (HDW.out.mono HB.out.size)).trans ((HB3.out.trans (HB4.out.mono HB3.out.size)).mono (by have := HB.out.size; have := HDW.out.size; omega))⟩
end Go.Proofs.Ytfemjlhfgmbcmaa
