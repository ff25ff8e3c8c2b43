/- The reference's order of texts; a run's range. Laid by gen_sq.py. · The reference's Build, its parts. Laid by gen_su.py. · Plain facts of rows, for the reference's Build and for told. Laid by gen_sv.py. · The reference's Build. Laid by gen_sv.py. · From, and From of no run. Laid by gen_ss.py. · RunNil walked. Laid by gen_sw.py. -/
import Derived.Test.YtfemjlhfgmbcmaaVe
namespace Go.Proofs.Ytfemjlhfgmbcmaa
open Go.RowKit Go.Shelf Go.Proofs.YtfemjlhfgmbcmaaW.PrintWords Go.Proofs.YtfemjlhfgmbcmaaW.PrintLast Go.Proofs.YtfemjlhfgmbcmaaW.PrintMore
open Go.Proofs.Ytfemjlhfgmbcmaa.PRunBuilds
set_option linter.unusedVariables false
set_option linter.unusedSimpArgs false
attribute [local go_sem ↓] Go.wp_at_zero Go.wp_at_succ

theorem bl_cons (a b : UInt8) (x y : List UInt8) : Op.bytesLess (a :: x) (b :: y) = (decide (a < b) || (a == b && Op.bytesLess x y)) := rfl
theorem u8_ne {a b : UInt8} (h : a.toNat ≠ b.toNat) : (a == b) = false := beq_eq_false_iff_ne.2 (fun e => h (by rw [e]))
theorem u8_lt (a b : UInt8) : decide (a < b) = decide (a.toNat < b.toNat) := by congr 1

set_option maxRecDepth 100000 in
set_option maxHeartbeats 2000000 in
theorem Less_calls (x y : ByteArray) (w : World) (hx : x.size ≤ maxLen) (hy : y.size ≤ maxLen) :
    Calls Try.prog 43 #[.string x, .string y] w fun e w' => e = .returned (.bool (ltB x y)) ∧ Below w.heap.size w w' := by
  unfold maxLen at hx hy
  obtain ⟨R, hR⟩ : ∃ R, R = ltB x y := ⟨_, rfl⟩
  rw [← hR]
  have HR := Lib.hid (show Op.bytesLess x.data.toList y.data.toList = R by rw [hR]; unfold ltB; rw [Lib.toList_data, Lib.toList_data])
  clear hR
  have HB0 := Lib.hid (Below.refl w.heap.size w)
  go_enter Try.func43, Try.ntmps43
  go_wp2_with fail
  go_loopw [5] (fun iv W => ∃ k : Nat, iv = .int .i64 k ∧ k ≤ x.size ∧ k ≤ y.size ∧ Below w.heap.size w W ∧ Hid (Op.bytesLess (x.data.toList.drop k) (y.data.toList.drop k) = R)) (fun iv _ => x.size - (intOf iv).toNat)
  case atStart => exact ⟨0, rfl, Nat.zero_le _, Nat.zero_le _, HB0.out, HR⟩
  case round =>
    obtain ⟨k, rfl, hkx, hky, hbw, HN⟩ := hrel
    have HBW := Lib.hid hbw
    have hdr := below_drew1 (Below.refl wr.heap.size wr)
    have HD := Lib.hid (HBW.out.trans (hdr.mono HBW.out.size))
    have HD2 := Lib.hid (HD.out.trans ((below_drew1 (Below.refl wr.drew.heap.size wr.drew)).mono HD.out.size))
    clear hbw HR HB0 hdr
    by_cases hlx : k < x.size
    · by_cases hly : k < y.size
      · have hN := HN.out
        rw [drop_at x k hlx, drop_at y k hly, bl_cons] at hN
        by_cases hab : x[k].toNat = y[k].toNat
        · have e : x[k] = y[k] := UInt8.toNat_inj.1 hab
          have hq : (((x[k].toNat : Nat) : Int) != ((y[k].toNat : Nat) : Int)) = false := by rw [hab]; simp
          have HN2 := Lib.hid (show Op.bytesLess (x.data.toList.drop (k + 1)) (y.data.toList.drop (k + 1)) = R by
            rw [← hN, e, decide_eq_false (UInt8.lt_irrefl _)]; simp)
          clear hN HN e hab
          go_wp2_with fail
          refine start_ (n := 7) (S := fun _ => True) (ds := []) #[false, false, false, false, false, false, false] (by kernel_rfl) rfl rfl (trivial) (fun hHeld => ?_)
          refine pure_ (i := 0) (N := some 18) (v := ?_) (a' := ?_) #[true, false, false, false, false, false, false] rfl rfl (by kernel_rfl) (fun _ _ _ h => h) (Or.inl ⟨by rfl, ?_⟩) ?_ ?_
          rotate_left
          · intro w'
            go_simp
            with_reducible rfl
          rotate_left
          · simp only [Act.put, List.setIfInBounds_toArray, List.set_cons_zero, List.set_cons_succ, i64_w, i32_w]
            rfl
          refine pure_ (i := 1) (N := some 19) (v := ?_) (a' := ?_) #[true, true, false, false, false, false, false] rfl rfl (by kernel_rfl) (fun _ _ _ h => h) (Or.inl ⟨by rfl, ?_⟩) ?_ ?_
          rotate_left
          · intro w'
            go_simp
            with_reducible rfl
          rotate_left
          · simp only [Act.put, List.setIfInBounds_toArray, List.set_cons_zero, List.set_cons_succ, i64_w, i32_w]
            rfl
          refine pure_ (i := 2) (N := some 20) (v := ?_) (a' := ?_) #[true, true, true, false, false, false, false] rfl rfl (by kernel_rfl) (fun _ _ _ h => h) (Or.inl ⟨by rfl, ?_⟩) ?_ ?_
          rotate_left
          · intro w'
            go_simp
            with_reducible rfl
          rotate_left
          · simp only [Act.put, List.setIfInBounds_toArray, List.set_cons_zero, List.set_cons_succ, i64_w, i32_w]
            rfl
          refine pure_ (i := 3) (N := some 21) (v := ?_) (a' := ?_) #[true, true, true, true, false, false, false] rfl rfl (by kernel_rfl) (fun _ _ _ h => h) (Or.inl ⟨by rfl, ?_⟩) ?_ ?_
          rotate_left
          · intro w'
            go_simp
            with_reducible rfl
          rotate_left
          · simp only [Act.put, List.setIfInBounds_toArray, List.set_cons_zero, List.set_cons_succ, i64_w, i32_w]
            rfl
          refine pure_ (i := 4) (N := some 22) (v := ?_) (a' := ?_) #[true, true, true, true, true, false, false] rfl rfl (by kernel_rfl) (fun _ _ _ h => h) (Or.inl ⟨by rfl, ?_⟩) ?_ ?_
          rotate_left
          · intro w'
            go_simp
            with_reducible rfl
          rotate_left
          · simp only [Act.put, List.setIfInBounds_toArray, List.set_cons_zero, List.set_cons_succ, i64_w, i32_w]
            rfl
          refine pure_ (i := 5) (N := some 23) (v := ?_) (a' := ?_) #[true, true, true, true, true, true, false] rfl rfl (by kernel_rfl) (fun _ _ _ h => h) (Or.inl ⟨by rfl, ?_⟩) ?_ ?_
          rotate_left
          · intro w'
            go_simp
            with_reducible rfl
          rotate_left
          · simp only [Act.put, List.setIfInBounds_toArray, List.set_cons_zero, List.set_cons_succ, i64_w, i32_w]
            rfl
          refine pure_ (i := 6) (N := some 24) (v := ?_) (a' := ?_) #[true, true, true, true, true, true, true] rfl rfl (by kernel_rfl) (fun _ _ _ h => h) (Or.inl ⟨by rfl, ?_⟩) ?_ ?_
          rotate_left
          · intro w'
            go_simp
            with_reducible rfl
          rotate_left
          · simp only [Act.put, List.setIfInBounds_toArray, List.set_cons_zero, List.set_cons_succ, i64_w, i32_w]
            rfl
          refine done_ (by kernel_rfl) ?_
          clear hHeld
          go_wp2_with fail
          go_roundw
          case rel => exact ⟨k + 1, by go_num, by omega, by omega, HD.out, HN2⟩
          case measure => simp [intOf]; omega
        · have hq : (((x[k].toNat : Nat) : Int) != ((y[k].toNat : Nat) : Int)) = true := by simp; omega
          have HN2 := Lib.hid (show decide (x[k].toNat < y[k].toNat) = R by
            rw [← hN, u8_ne hab, u8_lt]; simp)
          clear hN HN hab
          go_wp2_with fail
          refine start_ (n := 7) (S := fun _ => True) (ds := []) #[false, false, false, false, false, false, false] (by kernel_rfl) rfl rfl (trivial) (fun hHeld => ?_)
          refine pure_ (i := 0) (N := some 18) (v := ?_) (a' := ?_) #[true, false, false, false, false, false, false] rfl rfl (by kernel_rfl) (fun _ _ _ h => h) (Or.inl ⟨by rfl, ?_⟩) ?_ ?_
          rotate_left
          · intro w'
            go_simp
            with_reducible rfl
          rotate_left
          · simp only [Act.put, List.setIfInBounds_toArray, List.set_cons_zero, List.set_cons_succ, i64_w, i32_w]
            rfl
          refine pure_ (i := 1) (N := some 19) (v := ?_) (a' := ?_) #[true, true, false, false, false, false, false] rfl rfl (by kernel_rfl) (fun _ _ _ h => h) (Or.inl ⟨by rfl, ?_⟩) ?_ ?_
          rotate_left
          · intro w'
            go_simp
            with_reducible rfl
          rotate_left
          · simp only [Act.put, List.setIfInBounds_toArray, List.set_cons_zero, List.set_cons_succ, i64_w, i32_w]
            rfl
          refine pure_ (i := 2) (N := some 20) (v := ?_) (a' := ?_) #[true, true, true, false, false, false, false] rfl rfl (by kernel_rfl) (fun _ _ _ h => h) (Or.inl ⟨by rfl, ?_⟩) ?_ ?_
          rotate_left
          · intro w'
            go_simp
            with_reducible rfl
          rotate_left
          · simp only [Act.put, List.setIfInBounds_toArray, List.set_cons_zero, List.set_cons_succ, i64_w, i32_w]
            rfl
          refine pure_ (i := 3) (N := some 21) (v := ?_) (a' := ?_) #[true, true, true, true, false, false, false] rfl rfl (by kernel_rfl) (fun _ _ _ h => h) (Or.inl ⟨by rfl, ?_⟩) ?_ ?_
          rotate_left
          · intro w'
            go_simp
            with_reducible rfl
          rotate_left
          · simp only [Act.put, List.setIfInBounds_toArray, List.set_cons_zero, List.set_cons_succ, i64_w, i32_w]
            rfl
          refine pure_ (i := 4) (N := some 22) (v := ?_) (a' := ?_) #[true, true, true, true, true, false, false] rfl rfl (by kernel_rfl) (fun _ _ _ h => h) (Or.inl ⟨by rfl, ?_⟩) ?_ ?_
          rotate_left
          · intro w'
            go_simp
            with_reducible rfl
          rotate_left
          · simp only [Act.put, List.setIfInBounds_toArray, List.set_cons_zero, List.set_cons_succ, i64_w, i32_w]
            rfl
          refine pure_ (i := 5) (N := some 23) (v := ?_) (a' := ?_) #[true, true, true, true, true, true, false] rfl rfl (by kernel_rfl) (fun _ _ _ h => h) (Or.inl ⟨by rfl, ?_⟩) ?_ ?_
          rotate_left
          · intro w'
            go_simp
            with_reducible rfl
          rotate_left
          · simp only [Act.put, List.setIfInBounds_toArray, List.set_cons_zero, List.set_cons_succ, i64_w, i32_w]
            rfl
          refine pure_ (i := 6) (N := some 24) (v := ?_) (a' := ?_) #[true, true, true, true, true, true, true] rfl rfl (by kernel_rfl) (fun _ _ _ h => h) (Or.inl ⟨by rfl, ?_⟩) ?_ ?_
          rotate_left
          · intro w'
            go_simp
            with_reducible rfl
          rotate_left
          · simp only [Act.put, List.setIfInBounds_toArray, List.set_cons_zero, List.set_cons_succ, i64_w, i32_w]
            rfl
          refine done_ (by kernel_rfl) ?_
          clear hHeld
          go_wp2_with fail
          refine start_ (n := 8) (S := fun _ => True) (ds := []) #[false, false, false, false, false, false, false, false] (by kernel_rfl) rfl rfl (trivial) (fun hHeld => ?_)
          refine pure_ (i := 0) (N := some 25) (v := ?_) (a' := ?_) #[true, false, false, false, false, false, false, false] rfl rfl (by kernel_rfl) (fun _ _ _ h => h) (Or.inl ⟨by rfl, ?_⟩) ?_ ?_
          rotate_left
          · intro w'
            go_simp
            with_reducible rfl
          rotate_left
          · simp only [Act.put, List.setIfInBounds_toArray, List.set_cons_zero, List.set_cons_succ, i64_w, i32_w]
            rfl
          refine pure_ (i := 1) (N := some 26) (v := ?_) (a' := ?_) #[true, true, false, false, false, false, false, false] rfl rfl (by kernel_rfl) (fun _ _ _ h => h) (Or.inl ⟨by rfl, ?_⟩) ?_ ?_
          rotate_left
          · intro w'
            go_simp
            with_reducible rfl
          rotate_left
          · simp only [Act.put, List.setIfInBounds_toArray, List.set_cons_zero, List.set_cons_succ, i64_w, i32_w]
            rfl
          refine pure_ (i := 2) (N := some 27) (v := ?_) (a' := ?_) #[true, true, true, false, false, false, false, false] rfl rfl (by kernel_rfl) (fun _ _ _ h => h) (Or.inl ⟨by rfl, ?_⟩) ?_ ?_
          rotate_left
          · intro w'
            go_simp
            with_reducible rfl
          rotate_left
          · simp only [Act.put, List.setIfInBounds_toArray, List.set_cons_zero, List.set_cons_succ, i64_w, i32_w]
            rfl
          refine pure_ (i := 3) (N := some 28) (v := ?_) (a' := ?_) #[true, true, true, true, false, false, false, false] rfl rfl (by kernel_rfl) (fun _ _ _ h => h) (Or.inl ⟨by rfl, ?_⟩) ?_ ?_
          rotate_left
          · intro w'
            go_simp
            with_reducible rfl
          rotate_left
          · simp only [Act.put, List.setIfInBounds_toArray, List.set_cons_zero, List.set_cons_succ, i64_w, i32_w]
            rfl
          refine pure_ (i := 4) (N := some 29) (v := ?_) (a' := ?_) #[true, true, true, true, true, false, false, false] rfl rfl (by kernel_rfl) (fun _ _ _ h => h) (Or.inl ⟨by rfl, ?_⟩) ?_ ?_
          rotate_left
          · intro w'
            go_simp
            with_reducible rfl
          rotate_left
          · simp only [Act.put, List.setIfInBounds_toArray, List.set_cons_zero, List.set_cons_succ, i64_w, i32_w]
            rfl
          refine pure_ (i := 5) (N := some 30) (v := ?_) (a' := ?_) #[true, true, true, true, true, true, false, false] rfl rfl (by kernel_rfl) (fun _ _ _ h => h) (Or.inl ⟨by rfl, ?_⟩) ?_ ?_
          rotate_left
          · intro w'
            go_simp
            with_reducible rfl
          rotate_left
          · simp only [Act.put, List.setIfInBounds_toArray, List.set_cons_zero, List.set_cons_succ, i64_w, i32_w]
            rfl
          refine pure_ (i := 6) (N := some 31) (v := ?_) (a' := ?_) #[true, true, true, true, true, true, true, false] rfl rfl (by kernel_rfl) (fun _ _ _ h => h) (Or.inl ⟨by rfl, ?_⟩) ?_ ?_
          rotate_left
          · intro w'
            go_simp
            with_reducible rfl
          rotate_left
          · simp only [Act.put, List.setIfInBounds_toArray, List.set_cons_zero, List.set_cons_succ, i64_w, i32_w]
            rfl
          refine pure_ (i := 7) (N := some 4) (v := ?_) (a' := ?_) #[true, true, true, true, true, true, true, true] rfl rfl (by kernel_rfl) (fun _ _ _ h => h) (Or.inl ⟨by rfl, ?_⟩) ?_ ?_
          rotate_left
          · intro w'
            go_simp
            with_reducible rfl
          rotate_left
          · simp only [Act.put, List.setIfInBounds_toArray, List.set_cons_zero, List.set_cons_succ, i64_w, i32_w]
            rfl
          refine done_ (by kernel_rfl) ?_
          clear hHeld
          go_wp2_with fail
          go_ret
          rw [HN2.out]
          exact ⟨rfl, HD2.out⟩
      · have HN2 := Lib.hid (show decide (x.size < y.size) = R by
          rw [← HN.out, List.drop_of_length_le (l := y.data.toList) (by rw [← Lib.size_eq]; omega)]
          rw [decide_eq_false (by omega)]
          cases List.drop k x.data.toList <;> rfl)
        clear HN
        go_wp2_with fail
        go_ret
        rw [HN2.out]
        exact ⟨rfl, HBW.out⟩
    · have HN2 := Lib.hid (show decide (x.size < y.size) = R by
        rw [← HN.out, List.drop_of_length_le (l := x.data.toList) (by rw [← Lib.size_eq]; omega)]
        by_cases hly : k < y.size
        · rw [drop_at y k hly, decide_eq_true (by omega)]; rfl
        · rw [List.drop_of_length_le (l := y.data.toList) (by rw [← Lib.size_eq]; omega), decide_eq_false (by omega)]; rfl)
      clear HN
      go_wp2_with fail
      go_ret
      rw [HN2.out]
      exact ⟨rfl, HBW.out⟩
end Go.Proofs.Ytfemjlhfgmbcmaa

namespace Go.Proofs.Ytfemjlhfgmbcmaa
open Go.RowKit Go.Shelf Go.Proofs.YtfemjlhfgmbcmaaW.PrintWords Go.Proofs.YtfemjlhfgmbcmaaW.PrintLast Go.Proofs.YtfemjlhfgmbcmaaW.PrintMore
open Go.Proofs.Ytfemjlhfgmbcmaa.PRunBuilds
set_option linter.unusedVariables false
set_option linter.unusedSimpArgs false
attribute [local go_sem ↓] Go.wp_at_zero Go.wp_at_succ

/-- A row as it is passed. -/
def rowV (x : RRow) : Value := .agg #[.string x.k, .string x.s, .bool x.gone]

set_option maxRecDepth 100000 in
theorem refMay_calls (x : RRow) (w : World) : Calls Try.prog 83 #[rowV x] w fun e w' => e = .returned (.int .i64 (mayN x)) ∧ Below w.heap.size w w' := by
  obtain ⟨k, s, gone⟩ := x
  have HB := Lib.hid (below_alloc (Below.refl w.heap.size w) (.cells #[.string k, .string s, .bool gone] 54))
  unfold rowV
  dsimp only
  by_cases h1 : 64 < k.size
  · have hd1 : decide ((64 : Int) < (k.size : Int)) = true := by simp; omega
    rw [show mayN ⟨k, s, gone⟩ = 13 by unfold mayN; rw [if_pos (.inl h1)]]
    go_enter Try.func83, Try.ntmps83
    go_wp2_with fail
    go_ret
    exact ⟨rfl, HB.out⟩
  · have hd1 : decide ((64 : Int) < (k.size : Int)) = false := by simp; omega
    by_cases h2 : 16384 < s.size
    · have hd2 : decide ((16384 : Int) < (s.size : Int)) = true := by simp; omega
      rw [show mayN ⟨k, s, gone⟩ = 13 by unfold mayN; rw [if_pos (.inr h2)]]
      go_enter Try.func83, Try.ntmps83
      go_wp2_with fail
      go_ret
      exact ⟨rfl, HB.out⟩
    · have hd2 : decide ((16384 : Int) < (s.size : Int)) = false := by simp; omega
      cases gone
      · rw [show mayN ⟨k, s, false⟩ = 0 by unfold mayN; rw [if_neg (by simp; omega), if_neg (by simp)]]
        go_enter Try.func83, Try.ntmps83
        go_wp2_with fail
        go_ret
        exact ⟨rfl, HB.out⟩
      · by_cases hz : s.size = 0
        · have hz2 : s.toList = [] := str_none hz
          rw [show mayN ⟨k, s, true⟩ = 0 by unfold mayN; rw [if_neg (by simp; omega), if_neg (fun h => h.2 hz)]]
          go_enter Try.func83, Try.ntmps83
          go_wp2_with fail
          go_ret
          exact ⟨rfl, HB.out⟩
        · have hz2 := str_some (show 0 < s.size by omega)
          rw [show mayN ⟨k, s, true⟩ = 1 by unfold mayN; rw [if_neg (by simp; omega), if_pos ⟨rfl, hz⟩]]
          go_enter Try.func83, Try.ntmps83
          go_wp2_with fail
          go_ret
          exact ⟨rfl, HB.out⟩

set_option maxRecDepth 100000 in
set_option maxHeartbeats 4000000 in
theorem refBytes_calls (x : RRow) (w : World) (hk : x.k.size ≤ 64) (hs : x.s.size ≤ 16384) : Calls Try.prog 84 #[rowV x] w fun e w' => e = .returned (.string (rowB x)) ∧ Below w.heap.size w w' := by
  obtain ⟨k, s, gone⟩ := x
  dsimp only at hk hs
  have hb0 := below_alloc (Below.refl w.heap.size w) (.cells #[.string k, .string s, .bool gone] 54)
  have HB := Lib.hid hb0
  clear hb0
  obtain ⟨K, hK⟩ : ∃ K, K = encB k.size ++ k := ⟨_, rfl⟩
  obtain ⟨S, hS⟩ : ∃ S, S = encB s.size ++ s := ⟨_, rfl⟩
  have HK := Lib.hid (fun W => (show Calls Try.prog 46 #[.string k] W fun e w' => e = .returned (.string K) ∧ Below W.heap.size W w' by rw [hK]; exact RText_calls k W (by omega)))
  have HS := Lib.hid (fun W => (show Calls Try.prog 46 #[.string s] W fun e w' => e = .returned (.string S) ∧ Below W.heap.size W w' by rw [hS]; exact RText_calls s W (by omega)))
  have hkz : K.size ≤ 100 := by have := (encB_le k.size (by omega)).1; rw [hK, ByteArray.size_append]; omega
  have hsz : S.size ≤ 16484 := by have := (encB_le s.size (by omega)).1; rw [hS, ByteArray.size_append]; omega
  have HR := Lib.hid (show rowB ⟨k, s, gone⟩ = K ++ flagB gone ++ S by rw [hK, hS]; rfl)
  clear hK hS
  rw [HR.out]
  unfold rowV
  dsimp only
  cases gone
  · show Calls Try.prog 84 _ w fun e w' => e = .returned (.string (K ++ ⟨#[0]⟩ ++ S)) ∧ _
    have hz1 : K.size + 1 ≤ 9223372036854775807 := by omega
    have hz2 : K.size + 1 + S.size ≤ 9223372036854775807 := by omega
    go_enter Try.func84, Try.ntmps84
    go_wp2_with fail
    have c0 : (w.alloc (.cells #[.string k, .string s, .bool false] 54)).cell? ⟨w.heap.size, 0, none⟩ = some (.string k) := (blk_cell (blk_new w _) 0).trans rfl
    have c1 : (w.alloc (.cells #[.string k, .string s, .bool false] 54)).cell? ⟨w.heap.size, 1, none⟩ = some (.string s) := (blk_cell (blk_new w _) 1).trans rfl
    have HDW := Lib.hid (below_drew1 (Below.refl (w.alloc (.cells #[.string k, .string s, .bool false] 54)).heap.size (w.alloc (.cells #[.string k, .string s, .bool false] 54))))
    refine start_ (n := 11) (S := fun w' => w'.cell? ⟨w.heap.size, 0, none⟩ = some (.string k) ∧ w'.cell? ⟨w.heap.size, 1, none⟩ = some (.string s)) (ds := []) #[false, false, false, false, false, false, false, false, false, false, false] (by kernel_rfl) rfl rfl (⟨pw_cell_below HDW.out c0, pw_cell_below HDW.out c1⟩) (fun hHeld => ?_)
    refine pure_ (i := 0) (N := some 7) (v := ?_) (a' := ?_) #[true, false, false, false, false, false, false, false, false, false, false] rfl rfl (by kernel_rfl) (fun _ _ _ h => h) (Or.inl ⟨by rfl, ?_⟩) ?_ ?_
    rotate_left
    · intro w'
      go_simp
      with_reducible rfl
    rotate_left
    · simp only [Act.put, List.setIfInBounds_toArray, List.set_cons_zero, List.set_cons_succ, i64_w, i32_w]
      rfl
    refine take_ (i := 1) (N := some 8) (v := ?_) (a' := ?_) #[true, true, false, false, false, false, false, false, false, false, false] rfl rfl (by kernel_rfl) (fun _ _ _ h => h) (Or.inl ⟨by rfl, ?_⟩) hHeld ?_ ?_
    rotate_left
    · rintro w' ⟨s0, s1⟩
      go_simp
      with_reducible rfl
    rotate_left
    · simp only [Act.put, List.setIfInBounds_toArray, List.set_cons_zero, List.set_cons_succ, i64_w, i32_w]
      rfl
    refine pure_ (i := 3) (N := some 10) (v := ?_) (a' := ?_) #[true, true, false, true, false, false, false, false, false, false, false] rfl rfl (by kernel_rfl) (fun _ _ _ h => h) (Or.inl ⟨by rfl, ?_⟩) ?_ ?_
    rotate_left
    · intro w'
      go_simp
      with_reducible rfl
    rotate_left
    · simp only [Act.put, List.setIfInBounds_toArray, List.set_cons_zero, List.set_cons_succ, i64_w, i32_w]
      rfl
    refine pure_ (i := 5) (N := some 12) (v := ?_) (a' := ?_) #[true, true, false, true, false, true, false, false, false, false, false] rfl rfl (by kernel_rfl) (fun _ _ _ h => h) (Or.inl ⟨by rfl, ?_⟩) ?_ ?_
    rotate_left
    · intro w'
      go_simp
      with_reducible rfl
    rotate_left
    · simp only [Act.put, List.setIfInBounds_toArray, List.set_cons_zero, List.set_cons_succ, i64_w, i32_w]
      rfl
    refine pure_ (i := 6) (N := some 13) (v := ?_) (a' := ?_) #[true, true, false, true, false, true, true, false, false, false, false] rfl rfl (by kernel_rfl) (fun _ _ _ h => h) (Or.inl ⟨by rfl, ?_⟩) ?_ ?_
    rotate_left
    · intro w'
      go_simp
      with_reducible rfl
    rotate_left
    · simp only [Act.put, List.setIfInBounds_toArray, List.set_cons_zero, List.set_cons_succ, i64_w, i32_w]
      rfl
    refine take_ (i := 7) (N := some 14) (v := ?_) (a' := ?_) #[true, true, false, true, false, true, true, true, false, false, false] rfl rfl (by kernel_rfl) (fun _ _ _ h => h) (Or.inl ⟨by rfl, ?_⟩) hHeld ?_ ?_
    rotate_left
    · rintro w' ⟨s0, s1⟩
      go_simp
      with_reducible rfl
    rotate_left
    · simp only [Act.put, List.setIfInBounds_toArray, List.set_cons_zero, List.set_cons_succ, i64_w, i32_w]
      rfl
    refine one_ (i := 2) (N := some 9) #[true, true, true, true, false, true, true, true, false, false, false] rfl rfl (by kernel_rfl) (by decide) (fun K hK => ?_)
    refine goes_ Try.func46 (by kernel_rfl) rfl #[.string k] (by rfl) rfl rfl (by simp only [List.map_toArray, List.map_cons, List.map_nil]; rfl) ?_
    refine (HK.out _).mono ?_
    rintro e w3 ⟨rfl, hb3⟩
    refine ⟨_, rfl, ?_⟩
    have HB3 := Lib.hid hb3
    clear hb3
    refine hK.out _ _ (⟨pw_cell_below HB3.out hHeld.1, pw_cell_below HB3.out hHeld.2⟩) (fun hHeld => ?_)
    clear hK K
    refine norm_ (a' := ?_) ?_ ?_
    rotate_left
    · show Act.put _ (some 9) _ = _
      simp only [Act.put, List.setIfInBounds_toArray, List.set_cons_zero, List.set_cons_succ, i64_w, i32_w]
      rfl
    refine pure_ (i := 4) (N := some 11) (v := .string (K ++ ⟨#[0]⟩)) (a' := ?_) #[true, true, true, true, true, true, true, true, false, false, false] rfl rfl (by kernel_rfl) (fun _ _ _ h => h) (Or.inl ⟨by rfl, ?_⟩) ?_ ?_
    · intro w'
      go_simp
    rotate_left
    · simp only [Act.put, List.setIfInBounds_toArray, List.set_cons_zero, List.set_cons_succ, i64_w, i32_w]
      rfl
    refine one_ (i := 8) (N := some 15) #[true, true, true, true, true, true, true, true, true, false, false] rfl rfl (by kernel_rfl) (by decide) (fun K hK => ?_)
    refine goes_ Try.func46 (by kernel_rfl) rfl #[.string s] (by rfl) rfl rfl (by simp only [List.map_toArray, List.map_cons, List.map_nil]; rfl) ?_
    refine (HS.out _).mono ?_
    rintro e w4 ⟨rfl, hb4⟩
    refine ⟨_, rfl, ?_⟩
    have HB4 := Lib.hid hb4
    clear hb4
    refine hK.out _ _ (⟨pw_cell_below HB4.out hHeld.1, pw_cell_below HB4.out hHeld.2⟩) (fun hHeld => ?_)
    clear hK K
    refine norm_ (a' := ?_) ?_ ?_
    rotate_left
    · show Act.put _ (some 15) _ = _
      simp only [Act.put, List.setIfInBounds_toArray, List.set_cons_zero, List.set_cons_succ, i64_w, i32_w]
      rfl
    refine pure_ (i := 9) (N := some 16) (v := .string (K ++ ⟨#[0]⟩ ++ S)) (a' := ?_) #[true, true, true, true, true, true, true, true, true, true, false] rfl rfl (by kernel_rfl) (fun _ _ _ h => h) (Or.inl ⟨by rfl, ?_⟩) ?_ ?_
    · intro w'
      go_simp
    rotate_left
    · simp only [Act.put, List.setIfInBounds_toArray, List.set_cons_zero, List.set_cons_succ, i64_w, i32_w]
      rfl
    refine pure_ (i := 10) (N := some 2) (v := ?_) (a' := ?_) #[true, true, true, true, true, true, true, true, true, true, true] rfl rfl (by kernel_rfl) (fun _ _ _ h => h) (Or.inl ⟨by rfl, ?_⟩) ?_ ?_
    rotate_left
    · intro w'
      go_simp
      with_reducible rfl
    rotate_left
    · simp only [Act.put, List.setIfInBounds_toArray, List.set_cons_zero, List.set_cons_succ, i64_w, i32_w]
      rfl
    refine done_ (by kernel_rfl) ?_
    clear hHeld
    go_wp2_with fail
    go_ret
    exact ⟨rfl, (HB.out.trans (HDW.out.mono HB.out.size)).trans ((HB3.out.trans (HB4.out.mono HB3.out.size)).mono (by have := HB.out.size; have := HDW.out.size; omega))⟩
  · show Calls Try.prog 84 _ w fun e w' => e = .returned (.string (K ++ ⟨#[1]⟩ ++ S)) ∧ _
    have hz1 : K.size + 1 ≤ 9223372036854775807 := by omega
    have hz2 : K.size + 1 + S.size ≤ 9223372036854775807 := by omega
    go_enter Try.func84, Try.ntmps84
    go_wp2_with fail
    have c0 : (w.alloc (.cells #[.string k, .string s, .bool true] 54)).cell? ⟨w.heap.size, 0, none⟩ = some (.string k) := (blk_cell (blk_new w _) 0).trans rfl
    have c1 : (w.alloc (.cells #[.string k, .string s, .bool true] 54)).cell? ⟨w.heap.size, 1, none⟩ = some (.string s) := (blk_cell (blk_new w _) 1).trans rfl
    have HDW := Lib.hid (below_drew1 (Below.refl (w.alloc (.cells #[.string k, .string s, .bool true] 54)).heap.size (w.alloc (.cells #[.string k, .string s, .bool true] 54))))
    refine start_ (n := 11) (S := fun w' => w'.cell? ⟨w.heap.size, 0, none⟩ = some (.string k) ∧ w'.cell? ⟨w.heap.size, 1, none⟩ = some (.string s)) (ds := []) #[false, false, false, false, false, false, false, false, false, false, false] (by kernel_rfl) rfl rfl (⟨pw_cell_below HDW.out c0, pw_cell_below HDW.out c1⟩) (fun hHeld => ?_)
    refine pure_ (i := 0) (N := some 7) (v := ?_) (a' := ?_) #[true, false, false, false, false, false, false, false, false, false, false] rfl rfl (by kernel_rfl) (fun _ _ _ h => h) (Or.inl ⟨by rfl, ?_⟩) ?_ ?_
    rotate_left
    · intro w'
      go_simp
      with_reducible rfl
    rotate_left
    · simp only [Act.put, List.setIfInBounds_toArray, List.set_cons_zero, List.set_cons_succ, i64_w, i32_w]
      rfl
    refine take_ (i := 1) (N := some 8) (v := ?_) (a' := ?_) #[true, true, false, false, false, false, false, false, false, false, false] rfl rfl (by kernel_rfl) (fun _ _ _ h => h) (Or.inl ⟨by rfl, ?_⟩) hHeld ?_ ?_
    rotate_left
    · rintro w' ⟨s0, s1⟩
      go_simp
      with_reducible rfl
    rotate_left
    · simp only [Act.put, List.setIfInBounds_toArray, List.set_cons_zero, List.set_cons_succ, i64_w, i32_w]
      rfl
    refine pure_ (i := 3) (N := some 10) (v := ?_) (a' := ?_) #[true, true, false, true, false, false, false, false, false, false, false] rfl rfl (by kernel_rfl) (fun _ _ _ h => h) (Or.inl ⟨by rfl, ?_⟩) ?_ ?_
    rotate_left
    · intro w'
      go_simp
      with_reducible rfl
    rotate_left
    · simp only [Act.put, List.setIfInBounds_toArray, List.set_cons_zero, List.set_cons_succ, i64_w, i32_w]
      rfl
    refine pure_ (i := 5) (N := some 12) (v := ?_) (a' := ?_) #[true, true, false, true, false, true, false, false, false, false, false] rfl rfl (by kernel_rfl) (fun _ _ _ h => h) (Or.inl ⟨by rfl, ?_⟩) ?_ ?_
    rotate_left
    · intro w'
      go_simp
      with_reducible rfl
    rotate_left
    · simp only [Act.put, List.setIfInBounds_toArray, List.set_cons_zero, List.set_cons_succ, i64_w, i32_w]
      rfl
    refine pure_ (i := 6) (N := some 13) (v := ?_) (a' := ?_) #[true, true, false, true, false, true, true, false, false, false, false] rfl rfl (by kernel_rfl) (fun _ _ _ h => h) (Or.inl ⟨by rfl, ?_⟩) ?_ ?_
    rotate_left
    · intro w'
      go_simp
      with_reducible rfl
    rotate_left
    · simp only [Act.put, List.setIfInBounds_toArray, List.set_cons_zero, List.set_cons_succ, i64_w, i32_w]
      rfl
    refine take_ (i := 7) (N := some 14) (v := ?_) (a' := ?_) #[true, true, false, true, false, true, true, true, false, false, false] rfl rfl (by kernel_rfl) (fun _ _ _ h => h) (Or.inl ⟨by rfl, ?_⟩) hHeld ?_ ?_
    rotate_left
    · rintro w' ⟨s0, s1⟩
      go_simp
      with_reducible rfl
    rotate_left
    · simp only [Act.put, List.setIfInBounds_toArray, List.set_cons_zero, List.set_cons_succ, i64_w, i32_w]
      rfl
    refine one_ (i := 2) (N := some 9) #[true, true, true, true, false, true, true, true, false, false, false] rfl rfl (by kernel_rfl) (by decide) (fun K hK => ?_)
    refine goes_ Try.func46 (by kernel_rfl) rfl #[.string k] (by rfl) rfl rfl (by simp only [List.map_toArray, List.map_cons, List.map_nil]; rfl) ?_
    refine (HK.out _).mono ?_
    rintro e w3 ⟨rfl, hb3⟩
    refine ⟨_, rfl, ?_⟩
    have HB3 := Lib.hid hb3
    clear hb3
    refine hK.out _ _ (⟨pw_cell_below HB3.out hHeld.1, pw_cell_below HB3.out hHeld.2⟩) (fun hHeld => ?_)
    clear hK K
    refine norm_ (a' := ?_) ?_ ?_
    rotate_left
    · show Act.put _ (some 9) _ = _
      simp only [Act.put, List.setIfInBounds_toArray, List.set_cons_zero, List.set_cons_succ, i64_w, i32_w]
      rfl
    refine pure_ (i := 4) (N := some 11) (v := .string (K ++ ⟨#[1]⟩)) (a' := ?_) #[true, true, true, true, true, true, true, true, false, false, false] rfl rfl (by kernel_rfl) (fun _ _ _ h => h) (Or.inl ⟨by rfl, ?_⟩) ?_ ?_
    · intro w'
      go_simp
    rotate_left
    · simp only [Act.put, List.setIfInBounds_toArray, List.set_cons_zero, List.set_cons_succ, i64_w, i32_w]
      rfl
    refine one_ (i := 8) (N := some 15) #[true, true, true, true, true, true, true, true, true, false, false] rfl rfl (by kernel_rfl) (by decide) (fun K hK => ?_)
    refine goes_ Try.func46 (by kernel_rfl) rfl #[.string s] (by rfl) rfl rfl (by simp only [List.map_toArray, List.map_cons, List.map_nil]; rfl) ?_
    refine (HS.out _).mono ?_
    rintro e w4 ⟨rfl, hb4⟩
    refine ⟨_, rfl, ?_⟩
    have HB4 := Lib.hid hb4
    clear hb4
    refine hK.out _ _ (⟨pw_cell_below HB4.out hHeld.1, pw_cell_below HB4.out hHeld.2⟩) (fun hHeld => ?_)
    clear hK K
    refine norm_ (a' := ?_) ?_ ?_
    rotate_left
    · show Act.put _ (some 15) _ = _
      simp only [Act.put, List.setIfInBounds_toArray, List.set_cons_zero, List.set_cons_succ, i64_w, i32_w]
      rfl
    refine pure_ (i := 9) (N := some 16) (v := .string (K ++ ⟨#[1]⟩ ++ S)) (a' := ?_) #[true, true, true, true, true, true, true, true, true, true, false] rfl rfl (by kernel_rfl) (fun _ _ _ h => h) (Or.inl ⟨by rfl, ?_⟩) ?_ ?_
    · intro w'
      go_simp
    rotate_left
    · simp only [Act.put, List.setIfInBounds_toArray, List.set_cons_zero, List.set_cons_succ, i64_w, i32_w]
      rfl
    refine pure_ (i := 10) (N := some 2) (v := ?_) (a' := ?_) #[true, true, true, true, true, true, true, true, true, true, true] rfl rfl (by kernel_rfl) (fun _ _ _ h => h) (Or.inl ⟨by rfl, ?_⟩) ?_ ?_
    rotate_left
    · intro w'
      go_simp
      with_reducible rfl
    rotate_left
    · simp only [Act.put, List.setIfInBounds_toArray, List.set_cons_zero, List.set_cons_succ, i64_w, i32_w]
      rfl
    refine done_ (by kernel_rfl) ?_
    clear hHeld
    go_wp2_with fail
    go_ret
    exact ⟨rfl, (HB.out.trans (HDW.out.mono HB.out.size)).trans ((HB3.out.trans (HB4.out.mono HB3.out.size)).mono (by have := HB.out.size; have := HDW.out.size; omega))⟩
end Go.Proofs.Ytfemjlhfgmbcmaa

namespace Go.Proofs.Ytfemjlhfgmbcmaa
open Go.RowKit Go.Shelf Go.Proofs.YtfemjlhfgmbcmaaW.PrintWords Go.Proofs.YtfemjlhfgmbcmaaW.PrintLast Go.Proofs.YtfemjlhfgmbcmaaW.PrintMore
open Go.Proofs.Ytfemjlhfgmbcmaa.PRunBuilds
set_option linter.unusedVariables false
set_option linter.unusedSimpArgs false
attribute [local go_sem ↓] Go.wp_at_zero Go.wp_at_succ

theorem row54 {w : World} {A : Option Addr} {n : Nat} {xs : List S54} (h : Kd.C k54 w A n xs) (i : Int) (h0 : 0 ≤ i) (h1 : i < n) : ∃ ad, A = some ad ∧ w.cell? (ad.add (i.toNat * 3)) = some (.string (rd_T54 xs i).f0) ∧ ∀ t u, [Value.string (rd_T54 xs i).f0, .string (rd_T54 xs i).f1.f0, .bool (rd_T54 xs i).f1.f1][t]? = some u → w.cell? ((ad.add (i.toNat * 3)).add t) = some u := by
  obtain ⟨ad, c, e, _, hK, hc0⟩ := Kd.C_get h z54 i h0 h1
  have hc : ∀ j u, c[j]? = some u → w.cell? (ad.add (i.toNat * 3 + j)) = some u := hc0
  obtain rfl := k54_open hK
  refine ⟨ad, e, hc 0 _ rfl, fun t u hu => ?_⟩
  rw [show (ad.add (i.toNat * 3)).add t = ad.add (i.toNat * 3 + t) by rw [Addr.add_add]]
  exact hc t u hu
theorem rd_toR (l : List S54) (j : Int) (h0 : 0 ≤ j) (h1 : j < l.length) : toR (rd_T54 l j) = (l.map toR).getD j.toNat rz := by
  unfold rd_T54
  rw [List.getD_eq_getElem?_getD, List.getD_eq_getElem?_getD, List.getElem?_map, List.getElem?_eq_getElem (show j.toNat < l.length by omega)]; rfl
theorem row54r {w : World} {A : Option Addr} {l : List S54} (h : Kd.C k54 w A l.length l) (i : Int) (h0 : 0 ≤ i) (h1 : i < l.length) : ∃ ad x, A = some ad ∧ (l.map toR).getD i.toNat rz = x ∧ w.cell? (ad.add (i.toNat * 3)) = some (.string x.k) ∧ ∀ t u, [Value.string x.k, .string x.s, .bool x.gone][t]? = some u → w.cell? ((ad.add (i.toNat * 3)).add t) = some u := by
  obtain ⟨ad, h2, h3, h4⟩ := row54 h i h0 h1
  exact ⟨ad, _, h2, rfl, by rw [← rd_toR l i h0 h1]; exact h3, by rw [← rd_toR l i h0 h1]; exact h4⟩
theorem goB_fold (b : Int) : ∀ (l : List RRow) (last : Option ByteArray) (m : MS), (goB b l last m).1 = 0 → (goB b l last m).2 = l.foldl (addS b) m := by
  intro l
  induction l with
  | nil => intro last m _; rfl
  | cons x r ih =>
    intro last m h
    by_cases hx : rowE last x = 0
    · have e : goB b (x :: r) last m = goB b r (some x.k) (addS b m x) := by show (if rowE last x = 0 then _ else _) = _; rw [if_pos hx]
      rw [e] at h ⊢
      exact ih _ _ h
    · have e : goB b (x :: r) last m = (rowE last x, m) := by show (if rowE last x = 0 then _ else _) = _; rw [if_neg hx]
      rw [e] at h
      exact absurd h hx
theorem goB_may (b : Int) : ∀ (l : List RRow) (last : Option ByteArray) (m : MS), (goB b l last m).1 = 0 → ∀ x ∈ l, mayN x = 0 := by
  intro l
  induction l with
  | nil => intro last m _ x hx; cases hx
  | cons y r ih =>
    intro last m h
    by_cases hy : rowE last y = 0
    · have e : goB b (y :: r) last m = goB b r (some y.k) (addS b m y) := by show (if rowE last y = 0 then _ else _) = _; rw [if_pos hy]
      rw [e] at h
      intro x hx
      rcases List.mem_cons.1 hx with rfl | hx
      · unfold rowE at hy
        by_cases hm : mayN x = 0
        · exact hm
        · rw [if_neg hm] at hy; exact absurd hy hm
      · exact ih _ _ h x hx
    · have e : goB b (y :: r) last m = (rowE last y, m) := by show (if rowE last y = 0 then _ else _) = _; rw [if_neg hy]
      rw [e] at h
      exact absurd h hy
theorem mayN_sz {x : RRow} (h : mayN x = 0) : x.k.size ≤ 64 ∧ x.s.size ≤ 16384 := by
  unfold mayN at h
  by_cases h1 : 64 < x.k.size ∨ 16384 < x.s.size
  · rw [if_pos h1] at h; cases h
  · omega
theorem lastL_take (rows : List RRow) (j : Nat) (h : j < rows.length) : lastL none (rows.take (j + 1)) = some (rows.getD j rz).k := by
  rw [take_snoc rows j h, lastL_snoc]
theorem closeS_again {m : MS} (h : m.load.size = 0) : closeS m = m := by unfold closeS; rw [if_pos h]
theorem fold_close {b : Int} (hb : 64 ≤ b) (m : MS) (rows : List RRow) (j : Nat) (h : rows.length ≤ j ∨ b ≤ m.load.size) : closeS ((rows.drop j).foldl (addS b) (closeS m)) = closeS ((rows.drop j).foldl (addS b) m) := by
  rcases h with h | h
  · rw [List.drop_of_length_le h]; exact closeS_again (closeS_load m)
  · cases hd : rows.drop j with
    | nil => exact closeS_again (closeS_load m)
    | cons x r =>
      show closeS (r.foldl (addS b) (addS b (closeS m) x)) = closeS (r.foldl (addS b) (addS b m x))
      have e : addS b (closeS m) x = addS b m x := by
        unfold addS; rw [if_pos h, if_neg (by rw [closeS_load]; omega)]
      rw [e]
theorem drop_getD' (rows : List RRow) (j : Nat) (h : j < rows.length) : rows.drop j = rows.getD j rz :: rows.drop (j + 1) := by
  rw [List.drop_eq_getElem_cons h, List.getD_eq_getElem?_getD, List.getElem?_eq_getElem h]; rfl
theorem OwnsM.grown {W W' : World} {base n : Nat} {v : Value} {xs : List Value} {o : Option Nat} (h : OwnsM W base v n xs) (hg : W.grownBy W' o) (hne : ∀ k, v.ownBlock = some k → o ≠ some k) : OwnsM W' base v n xs := by
  refine ⟨h.1, ?_⟩
  rcases h.2 with hn | ⟨g, cap, cur, fz, rfl, hb, hg2, rest⟩
  · exact .inl hn
  · exact .inr ⟨g, cap, cur, fz, rfl, hb, (hg.block g (Array.getElem?_eq_some_iff.1 hg2).1 (fun e => hne g rfl e.symm)).trans hg2, rest⟩
theorem OwnsM.lt {W : World} {base n : Nat} {v : Value} {xs : List Value} (h : OwnsM W base v n xs) (k : Nat) (hk : v.ownBlock = some k) : k < W.heap.size := by
  rcases h.2 with ⟨rfl, _⟩ | ⟨g, cap, cur, fz, rfl, hb, hg, _⟩
  · simp [Value.ownBlock] at hk
  · simp [Value.ownBlock] at hk
    subst hk
    exact (Array.getElem?_eq_some_iff.1 hg).1
theorem dis_left {W : World} {base n : Nat} {v v2 u : Value} {xs : List Value} (h : ∀ k, v.ownBlock = some k → u.ownBlock ≠ some k) (hn : v2.ownBlock = v.ownBlock ∨ ∃ b, v2.ownBlock = some b ∧ W.heap.size ≤ b) (hu : OwnsM W base u n xs) : ∀ k, v2.ownBlock = some k → u.ownBlock ≠ some k := by
  intro k hk hk2
  rcases hn with e | ⟨b, e, hb⟩
  · exact h k (e ▸ hk) hk2
  · have := hu.lt k hk2
    rw [e] at hk
    injection hk with hk
    omega
theorem dis_right {W : World} {base n : Nat} {v u u2 : Value} {xs : List Value} (h : ∀ k, v.ownBlock = some k → u.ownBlock ≠ some k) (hn : u2.ownBlock = u.ownBlock ∨ ∃ b, u2.ownBlock = some b ∧ W.heap.size ≤ b) (hv : OwnsM W base v n xs) : ∀ k, v.ownBlock = some k → u2.ownBlock ≠ some k := by
  intro k hk hk2
  rcases hn with e | ⟨b, e, hb⟩
  · exact h k hk (e ▸ hk2)
  · have := hv.lt k hk
    rw [e] at hk2
    injection hk2 with hk2
    omega
theorem rowB_le2 (x : RRow) (h : mayN x = 0) : (rowB x).size ≤ 16600 := by
  have h1 := mayN_sz h
  have h2 := (encB_le x.k.size (by omega)).1
  have h3 := (encB_le x.s.size (by omega)).1
  rw [rowB_size]
  omega
theorem putR_le (t : ByteArray) : (putR 3 t).1.size ≤ 65600 := by
  unfold putR
  by_cases h : 65536 < t.size
  · rw [if_pos h]; show (0 : Nat) ≤ _; omega
  · rw [if_neg h]
    have h1 := (encB_le t.size (by omega)).1
    have h2 : (fourB (sumN (bodyB 3 t))).size = 4 := rfl
    have h3 : (bodyB 3 t).size = 1 + ((encB t.size).size + t.size) := by unfold bodyB; rw [ByteArray.size_append, ByteArray.size_append]; rfl
    show (fourB (sumN (bodyB 3 t)) ++ bodyB 3 t).size ≤ _
    rw [ByteArray.size_append, h2, h3]
    omega
theorem OwnsM.nil (W : World) (base : Nat) : OwnsM W base (.slice none 0 0) 0 [] := ⟨rfl, .inl ⟨rfl, rfl⟩⟩
end Go.Proofs.Ytfemjlhfgmbcmaa

namespace Go.Proofs.Ytfemjlhfgmbcmaa
open Go.RowKit Go.Shelf Go.Proofs.YtfemjlhfgmbcmaaW.PrintWords Go.Proofs.YtfemjlhfgmbcmaaW.PrintLast Go.Proofs.YtfemjlhfgmbcmaaW.PrintMore
open Go.Proofs.Ytfemjlhfgmbcmaa.PRunBuilds
set_option linter.unusedVariables false
set_option linter.unusedSimpArgs false
attribute [local go_sem ↓] Go.wp_at_zero Go.wp_at_succ


/-- The reference's rows so far: what is closed, and what is left to come. -/
def RB (b : Int) (rows : List RRow) (C : MS) (w W : World) (ov xv : Value) (st : MS) (j : Int) : Prop :=
  (∃ bl, MB st bl [] ∧ (bl.length : Int) ≤ j) ∧ st.load.size = 0 ∧ closeS ((rows.drop j.toNat).foldl (addS b) st) = C ∧
  OwnsM W w.heap.size ov st.out.length (Lib.byteCells st.out) ∧ OwnsM W w.heap.size xv st.idx.length (Lib.byteCells st.idx) ∧ (∀ k, ov.ownBlock = some k → xv.ownBlock ≠ some k) ∧ Below w.heap.size w W
def mkI (st : MS) (xk L : ByteArray) : MS := { load := L, first := xk, many := st.many, out := st.out, idx := st.idx }
/-- A block under way. -/
def RI (b : Int) (rows : List RRow) (C st : MS) (xk : ByteArray) (w3 W : World) (L : ByteArray) (j0 j : Int) : Prop :=
  (∃ bl cur, MB (mkI st xk L) bl cur ∧ (bl.length : Int) ≤ j0 ∧ cur ≠ []) ∧ closeS ((rows.drop j.toNat).foldl (addS b) (mkI st xk L)) = C ∧ Below w3.heap.size w3 W
theorem RI.start {b : Int} (hb : 64 ≤ b) {rows : List RRow} {C st : MS} {w w2 : World} {ov xv : Value} {j : Int} (h : RB b rows C w w2 ov xv st j) (h0 : 0 ≤ j) (h1 : j < rows.length) (hm : mayN (rows.getD j.toNat rz) = 0) (w3 : World) : RI b rows C st (rows.getD j.toNat rz).k w3 w3 (rowB (rows.getD j.toNat rz)) j (j + 1) := by
  obtain ⟨⟨bl, hmb, hbl⟩, hz, hc, -⟩ := h
  obtain ⟨x, hx⟩ : ∃ x, x = rows.getD j.toNat rz := ⟨_, rfl⟩
  rw [← hx] at hm ⊢
  have e0 : st.load = ⟨#[]⟩ := by
    have := hmb.load; rw [this]; rfl
  have e1 : addS b st x = mkI st x.k (rowB x) := by
    unfold addS appS mkI
    rw [if_neg (show ¬ b ≤ (st.load.size : Int) by omega), if_pos hz, e0]
    congr 1
  have h2 := hmb.app x hm (by omega)
  have e2 : appS st x = mkI st x.k (rowB x) := by
    rw [← e1]; unfold addS; rw [if_neg (show ¬ b ≤ (st.load.size : Int) by omega)]
  rw [e2] at h2
  refine ⟨⟨bl, [] ++ [x], h2, hbl, by simp⟩, ?_, Below.refl _ _⟩
  rw [drop_getD' rows j.toNat (by omega), List.foldl_cons, ← hx, e1] at hc
  rw [show (j + 1).toNat = j.toNat + 1 by omega]
  exact hc
theorem RI.pos {b : Int} {rows : List RRow} {C st : MS} {xk : ByteArray} {w3 W : World} {L : ByteArray} {j0 j : Int} (h : RI b rows C st xk w3 W L j0 j) : 0 < L.size ∧ L.size ≤ 20600 ∧ xk.size ≤ 64 := by
  obtain ⟨⟨bl, cur, hmb, -, hne⟩, -⟩ := h
  have h1 := loadB_pos hne
  have h2 := hmb.load
  have h3 := hmb.sz
  have h4 := hmb.fs
  have e : (mkI st xk L).load = L := rfl
  rw [e] at h2 h3
  exact ⟨by rw [h2]; omega, h3, h4⟩
theorem RI.step {b : Int} (hb : b ≤ 4096) {rows : List RRow} {C st : MS} {xk : ByteArray} {w3 W W' : World} {L : ByteArray} {j0 j : Int} (h : RI b rows C st xk w3 W L j0 j) (h0 : 0 ≤ j) (h1 : j < rows.length) (hs : (L.size : Int) < b) (hm : mayN (rows.getD j.toNat rz) = 0) (hw : Below W.heap.size W W') : RI b rows C st xk w3 W' (L ++ rowB (rows.getD j.toNat rz)) j0 (j + 1) := by
  have hp := h.pos
  obtain ⟨⟨bl, cur, hmb, hbl, hne⟩, hc, hbw⟩ := h
  obtain ⟨x, hx⟩ : ∃ x, x = rows.getD j.toNat rz := ⟨_, rfl⟩
  rw [← hx] at hm ⊢
  have e2 : appS (mkI st xk L) x = mkI st xk (L ++ rowB x) := by
    unfold appS
    rw [if_neg (show ¬ (mkI st xk L).load.size = 0 by show ¬ L.size = 0; omega)]; rfl
  have e1 : addS b (mkI st xk L) x = mkI st xk (L ++ rowB x) := by
    rw [← e2]; unfold addS; rw [if_neg (show ¬ b ≤ ((mkI st xk L).load.size : Int) by show ¬ b ≤ (L.size : Int); omega)]
  have h2 := hmb.app x hm (show L.size ≤ 4096 by omega)
  rw [e2] at h2
  refine ⟨⟨bl, cur ++ [x], h2, hbl, by simp⟩, ?_, hbw.trans (hw.mono hbw.size)⟩
  rw [drop_getD' rows j.toNat (by omega), List.foldl_cons, ← hx, e1] at hc
  rw [show (j + 1).toNat = j.toNat + 1 by omega]
  exact hc
theorem RI.fin {b : Int} (hb : 64 ≤ b) {rows : List RRow} {C st : MS} {xk : ByteArray} {w w3 W : World} {L : ByteArray} {j0 j : Int} (h : RI b rows C st xk w3 W L j0 j) (h0 : 0 ≤ j) (hj : j0 + 1 ≤ j) (hx : rows.length ≤ j ∨ b ≤ L.size) :
    (∃ bl, MB (closeS (mkI st xk L)) bl [] ∧ (bl.length : Int) ≤ j) ∧ (closeS (mkI st xk L)).load.size = 0 ∧ closeS ((rows.drop j.toNat).foldl (addS b) (closeS (mkI st xk L))) = C ∧ (closeS (mkI st xk L)).out = st.out ++ (putO L).data.toList ∧ (closeS (mkI st xk L)).idx = st.idx ++ (encB (putO L).size).data.toList ++ (encB xk.size ++ xk).data.toList ∧ (closeS (mkI st xk L)).many = st.many + 1 := by
  have hp := h.pos
  obtain ⟨⟨bl, cur, hmb, hbl, hne⟩, hc, hbw⟩ := h
  have hcl := hmb.close
  rw [if_neg hne] at hcl
  have hz : ¬ (mkI st xk L).load.size = 0 := by show ¬ L.size = 0; omega
  refine ⟨⟨_, hcl, by simp; omega⟩, closeS_load _, ?_, ?_, ?_, ?_⟩
  · rw [fold_close hb _ rows j.toNat (by rcases hx with hx | hx; exact .inl (by omega); exact .inr hx)]; exact hc
  · unfold closeS; rw [if_neg hz]; rfl
  · unfold closeS; rw [if_neg hz]
    show st.idx ++ (entB (mkI st xk L)).data.toList = _
    unfold entB
    show st.idx ++ (encB (putO L).size ++ (encB xk.size ++ xk)).data.toList = _
    simp [List.append_assoc]
  · unfold closeS; rw [if_neg hz]; rfl

def endC (C : MS) : ByteArray × Nat := if (idxF C).2 ≠ 0 ∨ 1048576 < C.out.length + (idxF C).1.size + 4 then (⟨#[]⟩, 13) else (⟨C.out.toArray⟩ ++ (idxF C).1 ++ fourB (idxF C).1.size, 0)
set_option maxRecDepth 100000 in
set_option maxHeartbeats 16000000 in
theorem RefBuild_calls (b : Int) (A : Option Addr) (c : Nat) (l : List S54) (w : World) (h : Kd.C k54 w A l.length l) (hl : l.length ≤ 1048576) :
    Calls Try.prog 38 #[.int .i64 b, .slice A l.length c] w fun e w' => e = .returned (.tuple #[.string (buildF b (l.map toR)).1, .int .i64 (buildF b (l.map toR)).2]) ∧ Below w.heap.size w w' := by
  obtain ⟨rows, hrows⟩ : ∃ rows, rows = l.map toR := ⟨_, rfl⟩
  have hrl : rows.length = l.length := by rw [hrows, List.length_map]
  have HC := Lib.hid (fun (W : World) (hb : Below w.heap.size w W) (i : Int) (h0 : 0 ≤ i) (h1 : i < l.length) => (show ∃ ad x, A = some ad ∧ rows.getD i.toNat rz = x ∧ W.cell? (ad.add (i.toNat * 3)) = some (.string x.k) ∧ ∀ t u, [Value.string x.k, .string x.s, .bool x.gone][t]? = some u → W.cell? ((ad.add (i.toNat * 3)).add t) = some u by rw [hrows]; exact row54r (Kd.C_below h hb) i h0 h1))
  rw [← hrows]
  clear hrows
  obtain ⟨F, hF⟩ : ∃ F, F = buildF b rows := ⟨_, rfl⟩
  rw [← hF]
  have HRL := Lib.hid hrl
  have HB0 := Lib.hid (Below.refl w.heap.size w)
  have HLB := Lib.hid hl
  clear hrl h hl
  by_cases hb : b < 64 ∨ 4096 < b
  · have hF2 : F = (⟨#[]⟩, 1) := by rw [hF]; unfold buildF; rw [if_pos hb]
    clear hF
    subst hF2
    by_cases h1 : b < 64
    · have hd1 : decide (b < 64) = true := decide_eq_true h1
      clear hb h1
      go_enter Try.func38, Try.ntmps38
      go_wp2_with fail
      go_ret2
      exact ⟨rfl, HB0.out⟩
    · have hd1 : decide (b < 64) = false := decide_eq_false h1
      have hd2 : decide ((4096 : Int) < b) = true := decide_eq_true (by omega)
      clear hb h1
      go_enter Try.func38, Try.ntmps38
      go_wp2_with fail
      go_ret2
      exact ⟨rfl, HB0.out⟩
  · have hd1 : decide (b < 64) = false := decide_eq_false (by omega)
    have hd2 : decide ((4096 : Int) < b) = false := decide_eq_false (by omega)
    have HBL := Lib.hid (show 64 ≤ b ∧ b ≤ 4096 by omega)
    have HFE := Lib.hid (fun (E : Nat) (hE : (goB b rows none ms0).1 = E) (hn : ¬ E = 0) => (show F = (⟨#[]⟩, E) by rw [hF]; unfold buildF; rw [if_neg hb, if_pos (by rw [hE]; exact hn), hE]))
    have HFG := Lib.hid (fun (hE : (goB b rows none ms0).1 = 0) => (show F = endC (closeS (rows.foldl (addS b) ms0)) by rw [hF]; unfold buildF; rw [if_neg hb, if_neg (by rw [hE]; exact fun h => h rfl), goB_fold b rows none ms0 hE]; rfl))
    clear hF hb
    go_enter Try.func38, Try.ntmps38
    go_wp2_with fail
    go_loopw [6] (fun iv W => ∃ j : Int, iv = .int .i64 j ∧ 0 ≤ j ∧ j ≤ l.length ∧ Below w.heap.size w W ∧ Hid ((goB b (rows.take j.toNat) none ms0).1 = 0)) (fun iv _ => l.length - (intOf iv).toNat)
    case atStart => exact ⟨0, rfl, Int.le_refl _, by omega, HB0.out, Lib.hid rfl⟩
    case round =>
      obtain ⟨j, rfl, hj0, hj, hbw, HG⟩ := hrel
      have HBW := Lib.hid hbw
      clear hbw HB0
      have hjb : j ≤ 1048576 := by have := HLB.out; omega
      by_cases hlt : j < (l.length : Int)
      · obtain ⟨ad, x, hA, hx, i1, hcs⟩ := HC.out wr HBW.out j hj0 hlt
        subst hA
        have HNX := Lib.hid (show j.toNat < rows.length by have := HRL.out; omega)
        have C83 := Lib.hid (fun W => refMay_calls x W)
        have HER := Lib.hid (fun hn => HFE.out _ (goB_err b rows j.toNat HNX.out (mayN x) HG.out (by unfold rowE; rw [hx, if_neg hn]) hn) hn)
        have HXX := Lib.hid hx
        obtain ⟨mn, hmn⟩ : ∃ mn, mn = mayN x := ⟨_, rfl⟩
        rw [← hmn] at C83 HER
        have HMN := Lib.hid hmn
        clear hx hmn
        obtain ⟨xk, xs, xg⟩ := x
        dsimp only at i1 hcs
        have HCS := Lib.hid hcs
        clear hcs
        unfold rowV at C83
        dsimp only at C83
        by_cases hm : mn = 0
        · subst hm
          clear HER
          have hq0 : (((0 : Nat) : Int) != 0) = false := rfl
          by_cases hj1 : j = 0
          · have HGG := Lib.hid (goB_good b rows j.toNat HNX.out HG.out (by rw [HXX.out]; unfold rowE; rw [if_pos HMN.out.symm, hj1]; rfl))
            have hjp : decide ((0 : Int) < j) = false := decide_eq_false (by omega)
            clear hj1
            go_wp2_with (first | ((with_reducible refine gate_dst (N := 34) rfl ?_); refine wpList_load_at rfl 54 (.tmp 33) rfl (ad.add (j.toNat * 3)) rfl [.string xk, .string xs, .bool xg] _ HCS.out Try.underlying54 rfl (by kernel_rfl) ?_) | (go_at_call 83; refine (C83.out _).mono ?_; rintro e w1 ⟨rfl, hb1⟩; have HBR := Lib.hid hb1; have HB1 := Lib.hid (HBW.out.trans (hb1.mono HBW.out.size)); clear hb1))
            refine start_ (n := 17) (S := fun _ => True) (ds := []) #[false, false, false, false, false, false, false, false, false, false, false, false, false, false, false, false, false] (by kernel_rfl) rfl rfl (trivial) (fun hHeld => ?_)
            refine pure_ (i := 0) (N := some 39) (v := ?_) (a' := ?_) #[true, false, false, false, false, false, false, false, false, false, false, false, false, false, false, false, false] rfl rfl (by kernel_rfl) (fun _ _ _ h => h) (Or.inl ⟨by rfl, ?_⟩) ?_ ?_
            rotate_left
            · intro w'
              go_simp
              with_reducible rfl
            rotate_left
            · simp only [Act.put, List.setIfInBounds_toArray, List.set_cons_zero, List.set_cons_succ, i64_w, i32_w]
              rfl
            refine pure_ (i := 1) (N := some 40) (v := ?_) (a' := ?_) #[true, true, false, false, false, false, false, false, false, false, false, false, false, false, false, false, false] rfl rfl (by kernel_rfl) (fun _ _ _ h => h) (Or.inl ⟨by rfl, ?_⟩) ?_ ?_
            rotate_left
            · intro w'
              go_simp
              with_reducible rfl
            rotate_left
            · simp only [Act.put, List.setIfInBounds_toArray, List.set_cons_zero, List.set_cons_succ, i64_w, i32_w]
              rfl
            refine pure_ (i := 2) (N := some 41) (v := ?_) (a' := ?_) #[true, true, true, false, false, false, false, false, false, false, false, false, false, false, false, false, false] rfl rfl (by kernel_rfl) (fun _ _ _ h => h) (Or.inl ⟨by rfl, ?_⟩) ?_ ?_
            rotate_left
            · intro w'
              go_simp
              with_reducible rfl
            rotate_left
            · simp only [Act.put, List.setIfInBounds_toArray, List.set_cons_zero, List.set_cons_succ, i64_w, i32_w]
              rfl
            refine pure_ (i := 3) (N := some 42) (v := undef) (a' := ?_) #[true, true, true, true, false, false, false, false, false, false, false, false, false, false, false, false, false] rfl rfl (by kernel_rfl) (fun _ _ _ h => h) (Or.inr ⟨by rfl, rfl⟩) ?_ ?_
            rotate_left
            · simp only [Act.put, List.setIfInBounds_toArray, List.set_cons_zero, List.set_cons_succ, i64_w, i32_w]
              rfl
            refine pure_ (i := 4) (N := some 43) (v := undef) (a' := ?_) #[true, true, true, true, true, false, false, false, false, false, false, false, false, false, false, false, false] rfl rfl (by kernel_rfl) (fun _ _ _ h => h) (Or.inr ⟨by rfl, rfl⟩) ?_ ?_
            rotate_left
            · simp only [Act.put, List.setIfInBounds_toArray, List.set_cons_zero, List.set_cons_succ, i64_w, i32_w]
              rfl
            refine pure_ (i := 5) (N := some 44) (v := undef) (a' := ?_) #[true, true, true, true, true, true, false, false, false, false, false, false, false, false, false, false, false] rfl rfl (by kernel_rfl) (fun _ _ _ h => h) (Or.inr ⟨by rfl, rfl⟩) ?_ ?_
            rotate_left
            · simp only [Act.put, List.setIfInBounds_toArray, List.set_cons_zero, List.set_cons_succ, i64_w, i32_w]
              rfl
            refine pure_ (i := 6) (N := some 45) (v := undef) (a' := ?_) #[true, true, true, true, true, true, true, false, false, false, false, false, false, false, false, false, false] rfl rfl (by kernel_rfl) (fun _ _ _ h => h) (Or.inr ⟨by rfl, rfl⟩) ?_ ?_
            rotate_left
            · simp only [Act.put, List.setIfInBounds_toArray, List.set_cons_zero, List.set_cons_succ, i64_w, i32_w]
              rfl
            refine pure_ (i := 7) (N := some 46) (v := undef) (a' := ?_) #[true, true, true, true, true, true, true, true, false, false, false, false, false, false, false, false, false] rfl rfl (by kernel_rfl) (fun _ _ _ h => h) (Or.inr ⟨by rfl, rfl⟩) ?_ ?_
            rotate_left
            · simp only [Act.put, List.setIfInBounds_toArray, List.set_cons_zero, List.set_cons_succ, i64_w, i32_w]
              rfl
            refine pure_ (i := 8) (N := some 47) (v := undef) (a' := ?_) #[true, true, true, true, true, true, true, true, true, false, false, false, false, false, false, false, false] rfl rfl (by kernel_rfl) (fun _ _ _ h => h) (Or.inr ⟨by rfl, rfl⟩) ?_ ?_
            rotate_left
            · simp only [Act.put, List.setIfInBounds_toArray, List.set_cons_zero, List.set_cons_succ, i64_w, i32_w]
              rfl
            refine pure_ (i := 9) (N := some 48) (v := undef) (a' := ?_) #[true, true, true, true, true, true, true, true, true, true, false, false, false, false, false, false, false] rfl rfl (by kernel_rfl) (fun _ _ _ h => h) (Or.inr ⟨by rfl, rfl⟩) ?_ ?_
            rotate_left
            · simp only [Act.put, List.setIfInBounds_toArray, List.set_cons_zero, List.set_cons_succ, i64_w, i32_w]
              rfl
            refine pure_ (i := 10) (N := some 49) (v := undef) (a' := ?_) #[true, true, true, true, true, true, true, true, true, true, true, false, false, false, false, false, false] rfl rfl (by kernel_rfl) (fun _ _ _ h => h) (Or.inr ⟨by rfl, rfl⟩) ?_ ?_
            rotate_left
            · simp only [Act.put, List.setIfInBounds_toArray, List.set_cons_zero, List.set_cons_succ, i64_w, i32_w]
              rfl
            refine pure_ (i := 11) (N := some 50) (v := undef) (a' := ?_) #[true, true, true, true, true, true, true, true, true, true, true, true, false, false, false, false, false] rfl rfl (by kernel_rfl) (fun _ _ _ h => h) (Or.inr ⟨by rfl, rfl⟩) ?_ ?_
            rotate_left
            · simp only [Act.put, List.setIfInBounds_toArray, List.set_cons_zero, List.set_cons_succ, i64_w, i32_w]
              rfl
            refine pure_ (i := 12) (N := some 51) (v := undef) (a' := ?_) #[true, true, true, true, true, true, true, true, true, true, true, true, true, false, false, false, false] rfl rfl (by kernel_rfl) (fun _ _ _ h => h) (Or.inr ⟨by rfl, rfl⟩) ?_ ?_
            rotate_left
            · simp only [Act.put, List.setIfInBounds_toArray, List.set_cons_zero, List.set_cons_succ, i64_w, i32_w]
              rfl
            refine pure_ (i := 13) (N := some 52) (v := undef) (a' := ?_) #[true, true, true, true, true, true, true, true, true, true, true, true, true, true, false, false, false] rfl rfl (by kernel_rfl) (fun _ _ _ h => h) (Or.inr ⟨by rfl, rfl⟩) ?_ ?_
            rotate_left
            · simp only [Act.put, List.setIfInBounds_toArray, List.set_cons_zero, List.set_cons_succ, i64_w, i32_w]
              rfl
            refine pure_ (i := 14) (N := some 53) (v := undef) (a' := ?_) #[true, true, true, true, true, true, true, true, true, true, true, true, true, true, true, false, false] rfl rfl (by kernel_rfl) (fun _ _ _ h => h) (Or.inr ⟨by rfl, rfl⟩) ?_ ?_
            rotate_left
            · simp only [Act.put, List.setIfInBounds_toArray, List.set_cons_zero, List.set_cons_succ, i64_w, i32_w]
              rfl
            refine pure_ (i := 15) (N := some 54) (v := undef) (a' := ?_) #[true, true, true, true, true, true, true, true, true, true, true, true, true, true, true, true, false] rfl rfl (by kernel_rfl) (fun _ _ _ h => h) (Or.inr ⟨by rfl, rfl⟩) ?_ ?_
            rotate_left
            · simp only [Act.put, List.setIfInBounds_toArray, List.set_cons_zero, List.set_cons_succ, i64_w, i32_w]
              rfl
            refine pure_ (i := 16) (N := some 55) (v := ?_) (a' := ?_) #[true, true, true, true, true, true, true, true, true, true, true, true, true, true, true, true, true] rfl rfl (by kernel_rfl) (fun _ _ _ h => h) (Or.inl ⟨by rfl, ?_⟩) ?_ ?_
            rotate_left
            · intro w'
              go_simp
              with_reducible rfl
            rotate_left
            · simp only [Act.put, List.setIfInBounds_toArray, List.set_cons_zero, List.set_cons_succ, i64_w, i32_w]
              rfl
            refine done_ (by kernel_rfl) ?_
            clear hHeld
            have HB2 := Lib.hid (HB1.out.trans ((below_drew1 (Below.refl w1.heap.size w1)).mono HB1.out.size))
            go_wp2_with fail
            go_roundw
            case rel => exact ⟨j + 1, by go_num, by omega, by omega, HB2.out, Lib.hid (by have := HGG.out.1; rw [show (j + 1).toNat = j.toNat + 1 by omega]; exact congrArg Prod.fst this)⟩
            case measure => simp [intOf]; omega
          · obtain ⟨p, hp⟩ : ∃ p, p = j - 1 := ⟨_, rfl⟩
            have hp0 : 0 ≤ p := by omega
            have hp1 : p < (l.length : Int) := by omega
            have HW := Lib.hid (show IntKind.i64.wrap (j - 1) = p by rw [IntWalk.i64_left, IntWalk.wrap64_in _ (by omega)]; exact hp.symm)
            obtain ⟨ad2, y, hA, hy, i2, -⟩ := HC.out wr HBW.out p hp0 hp1
            obtain rfl : ad2 = ad := by injection hA with e; exact e.symm
            clear hA
            have HJP := Lib.hid (show j.toNat = p.toNat + 1 by omega)
            have HRE := Lib.hid (show rowE (lastL none (rows.take j.toNat)) (rows.getD j.toNat rz) = if leB xk y.k = true then 8 else 0 by
              rw [HXX.out, HJP.out, lastL_take rows p.toNat (by have := HNX.out; have := HJP.out; omega), hy]; unfold rowE; rw [if_pos HMN.out.symm])
            have hjp : decide ((0 : Int) < j) = true := decide_eq_true (by omega)
            obtain ⟨yk, ys, yg⟩ := y
            dsimp only at i2 HRE
            have hyz := (mayN_sz (goB_may b (rows.take j.toNat) none ms0 HG.out ⟨yk, ys, yg⟩ (by rw [HJP.out, take_snoc rows p.toNat (by have := HNX.out; have := HJP.out; omega), hy]; simp))).1
            have hxz := (mayN_sz HMN.out.symm).1
            dsimp only at hyz hxz
            have HLS := Lib.hid (fun W => Less_calls yk xk W (by unfold maxLen; omega) (by unfold maxLen; omega))
            clear hy hp hyz hxz
            by_cases hlty : ltB yk xk = true
            · have HGG := Lib.hid (goB_good b rows j.toNat HNX.out HG.out (by rw [HRE.out, ltB_leB hlty]; rfl))
              rw [hlty] at HLS
              clear hlty
              go_wp2_with (first | ((with_reducible refine gate_dst (N := 34) rfl ?_); refine wpList_load_at rfl 54 (.tmp 33) rfl (ad2.add (j.toNat * 3)) rfl [.string xk, .string xs, .bool xg] _ HCS.out Try.underlying54 rfl (by kernel_rfl) ?_) | (go_at_call 83; refine (C83.out _).mono ?_; rintro e w1 ⟨rfl, hb1⟩; have HBR := Lib.hid hb1; have HB1 := Lib.hid (HBW.out.trans (hb1.mono HBW.out.size)); clear hb1))
              have HDR := Lib.hid (HBR.out.trans ((below_drew1 (Below.refl w1.heap.size w1)).mono HBR.out.size))
              refine start_ (n := 17) (S := fun w' => w'.cell? (ad2.add (p.toNat * 3)) = some (.string yk) ∧ w'.cell? (ad2.add (j.toNat * 3)) = some (.string xk)) (ds := []) #[false, false, false, false, false, false, false, false, false, false, false, false, false, false, false, false, false] (by kernel_rfl) rfl rfl (⟨pw_cell_below HDR.out i2, pw_cell_below HDR.out i1⟩) (fun hHeld => ?_)
              refine pure_ (i := 0) (N := some 39) (v := ?_) (a' := ?_) #[true, false, false, false, false, false, false, false, false, false, false, false, false, false, false, false, false] rfl rfl (by kernel_rfl) (fun _ _ _ h => h) (Or.inl ⟨by rfl, ?_⟩) ?_ ?_
              rotate_left
              · intro w'
                go_simp
                with_reducible rfl
              rotate_left
              · simp only [Act.put, List.setIfInBounds_toArray, List.set_cons_zero, List.set_cons_succ, i64_w, i32_w]
                rfl
              refine pure_ (i := 1) (N := some 40) (v := ?_) (a' := ?_) #[true, true, false, false, false, false, false, false, false, false, false, false, false, false, false, false, false] rfl rfl (by kernel_rfl) (fun _ _ _ h => h) (Or.inl ⟨by rfl, ?_⟩) ?_ ?_
              rotate_left
              · intro w'
                go_simp
                with_reducible rfl
              rotate_left
              · simp only [Act.put, List.setIfInBounds_toArray, List.set_cons_zero, List.set_cons_succ, i64_w, i32_w]
                rfl
              refine pure_ (i := 2) (N := some 41) (v := ?_) (a' := ?_) #[true, true, true, false, false, false, false, false, false, false, false, false, false, false, false, false, false] rfl rfl (by kernel_rfl) (fun _ _ _ h => h) (Or.inl ⟨by rfl, ?_⟩) ?_ ?_
              rotate_left
              · intro w'
                go_simp
                with_reducible rfl
              rotate_left
              · simp only [Act.put, List.setIfInBounds_toArray, List.set_cons_zero, List.set_cons_succ, i64_w, i32_w]
                rfl
              refine pure_ (i := 3) (N := some 42) (v := ?_) (a' := ?_) #[true, true, true, true, false, false, false, false, false, false, false, false, false, false, false, false, false] rfl rfl (by kernel_rfl) (fun _ _ _ h => h) (Or.inl ⟨by rfl, ?_⟩) ?_ ?_
              rotate_left
              · intro w'
                go_simp
                with_reducible rfl
              rotate_left
              · simp only [Act.put, List.setIfInBounds_toArray, List.set_cons_zero, List.set_cons_succ, i64_w, i32_w]
                rfl
              refine pure_ (i := 4) (N := some 43) (v := ?_) (a' := ?_) #[true, true, true, true, true, false, false, false, false, false, false, false, false, false, false, false, false] rfl rfl (by kernel_rfl) (fun _ _ _ h => h) (Or.inl ⟨by rfl, ?_⟩) ?_ ?_
              rotate_left
              · intro w'
                go_simp
                with_reducible rfl
              rotate_left
              · simp only [Act.put, List.setIfInBounds_toArray, List.set_cons_zero, List.set_cons_succ, i64_w, i32_w]
                rfl
              refine pure_ (i := 5) (N := some 44) (v := .int .i64 p) (a' := ?_) #[true, true, true, true, true, true, false, false, false, false, false, false, false, false, false, false, false] rfl rfl (by kernel_rfl) (fun _ _ _ h => h) (Or.inl ⟨by rfl, ?_⟩) ?_ ?_
              · intro w'
                go_simp
                exact HW.out
              rotate_left
              · simp only [Act.put, List.setIfInBounds_toArray, List.set_cons_zero, List.set_cons_succ, i64_w, i32_w]
                rfl
              refine pure_ (i := 6) (N := some 45) (v := ?_) (a' := ?_) #[true, true, true, true, true, true, true, false, false, false, false, false, false, false, false, false, false] rfl rfl (by kernel_rfl) (fun _ _ _ h => h) (Or.inl ⟨by rfl, ?_⟩) ?_ ?_
              rotate_left
              · intro w'
                go_simp
                with_reducible rfl
              rotate_left
              · simp only [Act.put, List.setIfInBounds_toArray, List.set_cons_zero, List.set_cons_succ, i64_w, i32_w]
                rfl
              refine pure_ (i := 7) (N := some 46) (v := ?_) (a' := ?_) #[true, true, true, true, true, true, true, true, false, false, false, false, false, false, false, false, false] rfl rfl (by kernel_rfl) (fun _ _ _ h => h) (Or.inl ⟨by rfl, ?_⟩) ?_ ?_
              rotate_left
              · intro w'
                go_simp
                with_reducible rfl
              rotate_left
              · simp only [Act.put, List.setIfInBounds_toArray, List.set_cons_zero, List.set_cons_succ, i64_w, i32_w]
                rfl
              refine take_ (i := 8) (N := some 47) (v := ?_) (a' := ?_) #[true, true, true, true, true, true, true, true, true, false, false, false, false, false, false, false, false] rfl rfl (by kernel_rfl) (fun _ _ _ h => h) (Or.inl ⟨by rfl, ?_⟩) hHeld ?_ ?_
              rotate_left
              · rintro w' ⟨s0, s1⟩
                go_simp
                with_reducible rfl
              rotate_left
              · simp only [Act.put, List.setIfInBounds_toArray, List.set_cons_zero, List.set_cons_succ, i64_w, i32_w]
                rfl
              refine pure_ (i := 9) (N := some 48) (v := ?_) (a' := ?_) #[true, true, true, true, true, true, true, true, true, true, false, false, false, false, false, false, false] rfl rfl (by kernel_rfl) (fun _ _ _ h => h) (Or.inl ⟨by rfl, ?_⟩) ?_ ?_
              rotate_left
              · intro w'
                go_simp
                with_reducible rfl
              rotate_left
              · simp only [Act.put, List.setIfInBounds_toArray, List.set_cons_zero, List.set_cons_succ, i64_w, i32_w]
                rfl
              refine pure_ (i := 10) (N := some 49) (v := ?_) (a' := ?_) #[true, true, true, true, true, true, true, true, true, true, true, false, false, false, false, false, false] rfl rfl (by kernel_rfl) (fun _ _ _ h => h) (Or.inl ⟨by rfl, ?_⟩) ?_ ?_
              rotate_left
              · intro w'
                go_simp
                with_reducible rfl
              rotate_left
              · simp only [Act.put, List.setIfInBounds_toArray, List.set_cons_zero, List.set_cons_succ, i64_w, i32_w]
                rfl
              refine pure_ (i := 11) (N := some 50) (v := ?_) (a' := ?_) #[true, true, true, true, true, true, true, true, true, true, true, true, false, false, false, false, false] rfl rfl (by kernel_rfl) (fun _ _ _ h => h) (Or.inl ⟨by rfl, ?_⟩) ?_ ?_
              rotate_left
              · intro w'
                go_simp
                with_reducible rfl
              rotate_left
              · simp only [Act.put, List.setIfInBounds_toArray, List.set_cons_zero, List.set_cons_succ, i64_w, i32_w]
                rfl
              refine pure_ (i := 12) (N := some 51) (v := ?_) (a' := ?_) #[true, true, true, true, true, true, true, true, true, true, true, true, true, false, false, false, false] rfl rfl (by kernel_rfl) (fun _ _ _ h => h) (Or.inl ⟨by rfl, ?_⟩) ?_ ?_
              rotate_left
              · intro w'
                go_simp
                with_reducible rfl
              rotate_left
              · simp only [Act.put, List.setIfInBounds_toArray, List.set_cons_zero, List.set_cons_succ, i64_w, i32_w]
                rfl
              refine take_ (i := 13) (N := some 52) (v := ?_) (a' := ?_) #[true, true, true, true, true, true, true, true, true, true, true, true, true, true, false, false, false] rfl rfl (by kernel_rfl) (fun _ _ _ h => h) (Or.inl ⟨by rfl, ?_⟩) hHeld ?_ ?_
              rotate_left
              · rintro w' ⟨s0, s1⟩
                go_simp
                with_reducible rfl
              rotate_left
              · simp only [Act.put, List.setIfInBounds_toArray, List.set_cons_zero, List.set_cons_succ, i64_w, i32_w]
                rfl
              refine one_ (i := 14) (N := some 53) #[true, true, true, true, true, true, true, true, true, true, true, true, true, true, true, false, false] rfl rfl (by kernel_rfl) (by decide) (fun K hK => ?_)
              refine goes_ Try.func43 (by kernel_rfl) rfl #[.string yk, .string xk] (by rfl) rfl rfl (by simp only [List.map_toArray, List.map_cons, List.map_nil]; rfl) ?_
              refine (HLS.out _).mono ?_
              rintro e w3 ⟨rfl, hb3⟩
              refine ⟨_, rfl, ?_⟩
              have HB3 := Lib.hid ((HBW.out.trans (HDR.out.mono HBW.out.size)).trans (hb3.mono (by have := HBW.out.size; have := HDR.out.size; omega)))
              have hdd := hb3
              clear hb3
              refine hK.out _ _ (⟨pw_cell_below hdd hHeld.1, pw_cell_below hdd hHeld.2⟩) (fun hHeld => ?_)
              clear hK K
              refine norm_ (a' := ?_) ?_ ?_
              rotate_left
              · show Act.put _ (some 53) _ = _
                simp only [Act.put, List.setIfInBounds_toArray, List.set_cons_zero, List.set_cons_succ, i64_w, i32_w]
                rfl
              refine pure_ (i := 15) (N := some 54) (v := ?_) (a' := ?_) #[true, true, true, true, true, true, true, true, true, true, true, true, true, true, true, true, false] rfl rfl (by kernel_rfl) (fun _ _ _ h => h) (Or.inl ⟨by rfl, ?_⟩) ?_ ?_
              rotate_left
              · intro w'
                go_simp
                with_reducible rfl
              rotate_left
              · simp only [Act.put, List.setIfInBounds_toArray, List.set_cons_zero, List.set_cons_succ, i64_w, i32_w]
                rfl
              refine pure_ (i := 16) (N := some 55) (v := ?_) (a' := ?_) #[true, true, true, true, true, true, true, true, true, true, true, true, true, true, true, true, true] rfl rfl (by kernel_rfl) (fun _ _ _ h => h) (Or.inl ⟨by rfl, ?_⟩) ?_ ?_
              rotate_left
              · intro w'
                go_simp
                with_reducible rfl
              rotate_left
              · simp only [Act.put, List.setIfInBounds_toArray, List.set_cons_zero, List.set_cons_succ, i64_w, i32_w]
                rfl
              refine done_ (by kernel_rfl) ?_
              clear hHeld
              go_wp2_with fail
              go_roundw
              case rel => exact ⟨j + 1, by go_num, by omega, by omega, HB3.out, Lib.hid (by have := HGG.out.1; rw [show (j + 1).toNat = j.toNat + 1 by omega]; exact congrArg Prod.fst this)⟩
              case measure => simp [intOf]; omega
            · have hle : leB xk yk = true := by
                cases hq : leB xk yk with
                | true => rfl
                | false => exact absurd (leB_not hq) hlty
              have hltf : ltB yk xk = false := by cases hq : ltB yk xk <;> simp_all
              have HE8 := Lib.hid (HFE.out 8 (goB_err b rows j.toNat HNX.out 8 HG.out (by rw [HRE.out, if_pos hle]) (by decide)) (by decide))
              rw [hltf] at HLS
              clear hlty hle hltf
              go_wp2_with (first | ((with_reducible refine gate_dst (N := 34) rfl ?_); refine wpList_load_at rfl 54 (.tmp 33) rfl (ad2.add (j.toNat * 3)) rfl [.string xk, .string xs, .bool xg] _ HCS.out Try.underlying54 rfl (by kernel_rfl) ?_) | (go_at_call 83; refine (C83.out _).mono ?_; rintro e w1 ⟨rfl, hb1⟩; have HBR := Lib.hid hb1; have HB1 := Lib.hid (HBW.out.trans (hb1.mono HBW.out.size)); clear hb1))
              have HDR := Lib.hid (HBR.out.trans ((below_drew1 (Below.refl w1.heap.size w1)).mono HBR.out.size))
              refine start_ (n := 17) (S := fun w' => w'.cell? (ad2.add (p.toNat * 3)) = some (.string yk) ∧ w'.cell? (ad2.add (j.toNat * 3)) = some (.string xk)) (ds := []) #[false, false, false, false, false, false, false, false, false, false, false, false, false, false, false, false, false] (by kernel_rfl) rfl rfl (⟨pw_cell_below HDR.out i2, pw_cell_below HDR.out i1⟩) (fun hHeld => ?_)
              refine pure_ (i := 0) (N := some 39) (v := ?_) (a' := ?_) #[true, false, false, false, false, false, false, false, false, false, false, false, false, false, false, false, false] rfl rfl (by kernel_rfl) (fun _ _ _ h => h) (Or.inl ⟨by rfl, ?_⟩) ?_ ?_
              rotate_left
              · intro w'
                go_simp
                with_reducible rfl
              rotate_left
              · simp only [Act.put, List.setIfInBounds_toArray, List.set_cons_zero, List.set_cons_succ, i64_w, i32_w]
                rfl
              refine pure_ (i := 1) (N := some 40) (v := ?_) (a' := ?_) #[true, true, false, false, false, false, false, false, false, false, false, false, false, false, false, false, false] rfl rfl (by kernel_rfl) (fun _ _ _ h => h) (Or.inl ⟨by rfl, ?_⟩) ?_ ?_
              rotate_left
              · intro w'
                go_simp
                with_reducible rfl
              rotate_left
              · simp only [Act.put, List.setIfInBounds_toArray, List.set_cons_zero, List.set_cons_succ, i64_w, i32_w]
                rfl
              refine pure_ (i := 2) (N := some 41) (v := ?_) (a' := ?_) #[true, true, true, false, false, false, false, false, false, false, false, false, false, false, false, false, false] rfl rfl (by kernel_rfl) (fun _ _ _ h => h) (Or.inl ⟨by rfl, ?_⟩) ?_ ?_
              rotate_left
              · intro w'
                go_simp
                with_reducible rfl
              rotate_left
              · simp only [Act.put, List.setIfInBounds_toArray, List.set_cons_zero, List.set_cons_succ, i64_w, i32_w]
                rfl
              refine pure_ (i := 3) (N := some 42) (v := ?_) (a' := ?_) #[true, true, true, true, false, false, false, false, false, false, false, false, false, false, false, false, false] rfl rfl (by kernel_rfl) (fun _ _ _ h => h) (Or.inl ⟨by rfl, ?_⟩) ?_ ?_
              rotate_left
              · intro w'
                go_simp
                with_reducible rfl
              rotate_left
              · simp only [Act.put, List.setIfInBounds_toArray, List.set_cons_zero, List.set_cons_succ, i64_w, i32_w]
                rfl
              refine pure_ (i := 4) (N := some 43) (v := ?_) (a' := ?_) #[true, true, true, true, true, false, false, false, false, false, false, false, false, false, false, false, false] rfl rfl (by kernel_rfl) (fun _ _ _ h => h) (Or.inl ⟨by rfl, ?_⟩) ?_ ?_
              rotate_left
              · intro w'
                go_simp
                with_reducible rfl
              rotate_left
              · simp only [Act.put, List.setIfInBounds_toArray, List.set_cons_zero, List.set_cons_succ, i64_w, i32_w]
                rfl
              refine pure_ (i := 5) (N := some 44) (v := .int .i64 p) (a' := ?_) #[true, true, true, true, true, true, false, false, false, false, false, false, false, false, false, false, false] rfl rfl (by kernel_rfl) (fun _ _ _ h => h) (Or.inl ⟨by rfl, ?_⟩) ?_ ?_
              · intro w'
                go_simp
                exact HW.out
              rotate_left
              · simp only [Act.put, List.setIfInBounds_toArray, List.set_cons_zero, List.set_cons_succ, i64_w, i32_w]
                rfl
              refine pure_ (i := 6) (N := some 45) (v := ?_) (a' := ?_) #[true, true, true, true, true, true, true, false, false, false, false, false, false, false, false, false, false] rfl rfl (by kernel_rfl) (fun _ _ _ h => h) (Or.inl ⟨by rfl, ?_⟩) ?_ ?_
              rotate_left
              · intro w'
                go_simp
                with_reducible rfl
              rotate_left
              · simp only [Act.put, List.setIfInBounds_toArray, List.set_cons_zero, List.set_cons_succ, i64_w, i32_w]
                rfl
              refine pure_ (i := 7) (N := some 46) (v := ?_) (a' := ?_) #[true, true, true, true, true, true, true, true, false, false, false, false, false, false, false, false, false] rfl rfl (by kernel_rfl) (fun _ _ _ h => h) (Or.inl ⟨by rfl, ?_⟩) ?_ ?_
              rotate_left
              · intro w'
                go_simp
                with_reducible rfl
              rotate_left
              · simp only [Act.put, List.setIfInBounds_toArray, List.set_cons_zero, List.set_cons_succ, i64_w, i32_w]
                rfl
              refine take_ (i := 8) (N := some 47) (v := ?_) (a' := ?_) #[true, true, true, true, true, true, true, true, true, false, false, false, false, false, false, false, false] rfl rfl (by kernel_rfl) (fun _ _ _ h => h) (Or.inl ⟨by rfl, ?_⟩) hHeld ?_ ?_
              rotate_left
              · rintro w' ⟨s0, s1⟩
                go_simp
                with_reducible rfl
              rotate_left
              · simp only [Act.put, List.setIfInBounds_toArray, List.set_cons_zero, List.set_cons_succ, i64_w, i32_w]
                rfl
              refine pure_ (i := 9) (N := some 48) (v := ?_) (a' := ?_) #[true, true, true, true, true, true, true, true, true, true, false, false, false, false, false, false, false] rfl rfl (by kernel_rfl) (fun _ _ _ h => h) (Or.inl ⟨by rfl, ?_⟩) ?_ ?_
              rotate_left
              · intro w'
                go_simp
                with_reducible rfl
              rotate_left
              · simp only [Act.put, List.setIfInBounds_toArray, List.set_cons_zero, List.set_cons_succ, i64_w, i32_w]
                rfl
              refine pure_ (i := 10) (N := some 49) (v := ?_) (a' := ?_) #[true, true, true, true, true, true, true, true, true, true, true, false, false, false, false, false, false] rfl rfl (by kernel_rfl) (fun _ _ _ h => h) (Or.inl ⟨by rfl, ?_⟩) ?_ ?_
              rotate_left
              · intro w'
                go_simp
                with_reducible rfl
              rotate_left
              · simp only [Act.put, List.setIfInBounds_toArray, List.set_cons_zero, List.set_cons_succ, i64_w, i32_w]
                rfl
              refine pure_ (i := 11) (N := some 50) (v := ?_) (a' := ?_) #[true, true, true, true, true, true, true, true, true, true, true, true, false, false, false, false, false] rfl rfl (by kernel_rfl) (fun _ _ _ h => h) (Or.inl ⟨by rfl, ?_⟩) ?_ ?_
              rotate_left
              · intro w'
                go_simp
                with_reducible rfl
              rotate_left
              · simp only [Act.put, List.setIfInBounds_toArray, List.set_cons_zero, List.set_cons_succ, i64_w, i32_w]
                rfl
              refine pure_ (i := 12) (N := some 51) (v := ?_) (a' := ?_) #[true, true, true, true, true, true, true, true, true, true, true, true, true, false, false, false, false] rfl rfl (by kernel_rfl) (fun _ _ _ h => h) (Or.inl ⟨by rfl, ?_⟩) ?_ ?_
              rotate_left
              · intro w'
                go_simp
                with_reducible rfl
              rotate_left
              · simp only [Act.put, List.setIfInBounds_toArray, List.set_cons_zero, List.set_cons_succ, i64_w, i32_w]
                rfl
              refine take_ (i := 13) (N := some 52) (v := ?_) (a' := ?_) #[true, true, true, true, true, true, true, true, true, true, true, true, true, true, false, false, false] rfl rfl (by kernel_rfl) (fun _ _ _ h => h) (Or.inl ⟨by rfl, ?_⟩) hHeld ?_ ?_
              rotate_left
              · rintro w' ⟨s0, s1⟩
                go_simp
                with_reducible rfl
              rotate_left
              · simp only [Act.put, List.setIfInBounds_toArray, List.set_cons_zero, List.set_cons_succ, i64_w, i32_w]
                rfl
              refine one_ (i := 14) (N := some 53) #[true, true, true, true, true, true, true, true, true, true, true, true, true, true, true, false, false] rfl rfl (by kernel_rfl) (by decide) (fun K hK => ?_)
              refine goes_ Try.func43 (by kernel_rfl) rfl #[.string yk, .string xk] (by rfl) rfl rfl (by simp only [List.map_toArray, List.map_cons, List.map_nil]; rfl) ?_
              refine (HLS.out _).mono ?_
              rintro e w3 ⟨rfl, hb3⟩
              refine ⟨_, rfl, ?_⟩
              have HB3 := Lib.hid ((HBW.out.trans (HDR.out.mono HBW.out.size)).trans (hb3.mono (by have := HBW.out.size; have := HDR.out.size; omega)))
              have hdd := hb3
              clear hb3
              refine hK.out _ _ (⟨pw_cell_below hdd hHeld.1, pw_cell_below hdd hHeld.2⟩) (fun hHeld => ?_)
              clear hK K
              refine norm_ (a' := ?_) ?_ ?_
              rotate_left
              · show Act.put _ (some 53) _ = _
                simp only [Act.put, List.setIfInBounds_toArray, List.set_cons_zero, List.set_cons_succ, i64_w, i32_w]
                rfl
              refine pure_ (i := 15) (N := some 54) (v := ?_) (a' := ?_) #[true, true, true, true, true, true, true, true, true, true, true, true, true, true, true, true, false] rfl rfl (by kernel_rfl) (fun _ _ _ h => h) (Or.inl ⟨by rfl, ?_⟩) ?_ ?_
              rotate_left
              · intro w'
                go_simp
                with_reducible rfl
              rotate_left
              · simp only [Act.put, List.setIfInBounds_toArray, List.set_cons_zero, List.set_cons_succ, i64_w, i32_w]
                rfl
              refine pure_ (i := 16) (N := some 55) (v := ?_) (a' := ?_) #[true, true, true, true, true, true, true, true, true, true, true, true, true, true, true, true, true] rfl rfl (by kernel_rfl) (fun _ _ _ h => h) (Or.inl ⟨by rfl, ?_⟩) ?_ ?_
              rotate_left
              · intro w'
                go_simp
                with_reducible rfl
              rotate_left
              · simp only [Act.put, List.setIfInBounds_toArray, List.set_cons_zero, List.set_cons_succ, i64_w, i32_w]
                rfl
              refine done_ (by kernel_rfl) ?_
              clear hHeld
              go_wp2_with fail
              go_ret2
              rw [HE8.out]
              exact ⟨rfl, HB3.out⟩
        · have hq : ((mn : Int) != 0) = true := by simpa using hm
          have HE := Lib.hid (HER.out hm)
          clear hm HER
          go_wp2_with (first | ((with_reducible refine gate_dst (N := 34) rfl ?_); refine wpList_load_at rfl 54 (.tmp 33) rfl (ad.add (j.toNat * 3)) rfl [.string xk, .string xs, .bool xg] _ HCS.out Try.underlying54 rfl (by kernel_rfl) ?_) | (go_at_call 83; refine (C83.out _).mono ?_; rintro e w1 ⟨rfl, hb1⟩; have HBR := Lib.hid hb1; have HB1 := Lib.hid (HBW.out.trans (hb1.mono HBW.out.size)); clear hb1))
          go_ret2
          rw [HE.out]
          exact ⟨rfl, HB1.out⟩
      · have hju : j.toNat = rows.length := by have := HRL.out; omega
        have h0 : (goB b rows none ms0).1 = 0 := by have := HG.out; rwa [hju, List.take_length] at this
        obtain ⟨C, hC⟩ : ∃ C, C = closeS (rows.foldl (addS b) ms0) := ⟨_, rfl⟩
        have HCF := Lib.hid (show F = endC C by rw [hC]; exact HFG.out h0)
        have HMY := Lib.hid (fun (i : Int) (h1 : 0 ≤ i) (h2 : i < (l.length : Int)) => (goB_may b rows none ms0 h0 (rows.getD i.toNat rz) (by
          have hl : i.toNat < rows.length := by have := HRL.out; omega
          rw [List.getD_eq_getElem?_getD, List.getElem?_eq_getElem hl]; exact List.getElem_mem hl)))
        have HRB0 := Lib.hid (show RB b rows C w wr (.slice none 0 0) (.slice none 0 0) ms0 0 from ⟨⟨[], MB.zero, by simp⟩, rfl, hC.symm, OwnsM.nil _ _, OwnsM.nil _ _, fun k hk => by simp [Value.ownBlock] at hk, HBW.out⟩)
        clear HG HFE HFG hC h0 hju
        go_wp2_with fail
        go_loopw [8, 9, 10, 11] (fun ov xv mv iv W => ∃ (st : MS) (i : Int), iv = .int .i64 i ∧ 0 ≤ i ∧ i ≤ l.length ∧ mv = .int .i64 st.many ∧ Hid (RB b rows C w W ov xv st i)) (fun _ _ _ iv _ => l.length - (intOf iv).toNat)
        case atStart => exact ⟨ms0, 0, rfl, Int.le_refl _, by omega, rfl, HRB0⟩
        case round =>
          clear HRB0 HBW hj hj0 hlt
          obtain ⟨st, i, rfl, hi0, hi, rfl, HR⟩ := hrel
          have hib : i ≤ 1048576 := by have := HLB.out; omega
          obtain ⟨⟨bl, hmb, hbl⟩, hz, hc, ho, hx, hd, hbw⟩ := HR.out
          have HBW := Lib.hid hbw
          have HO := Lib.hid ho
          have HX := Lib.hid hx
          have HDJ := Lib.hid hd
          have HMY0 := hmb.many
          have hbo := hmb.bounds
          have HOL := Lib.hid (show st.out.length ≤ 68786585600 by omega)
          have HXL := Lib.hid (show st.idx.length ≤ 104857600 by omega)
          have hmany : (st.many : Int) ≤ 1048576 := by omega
          obtain ⟨ao, co, rfl⟩ := ho.slice_
          obtain ⟨ax, cx, rfl⟩ := hx.slice_
          clear hmb hbl hz hc ho hx hd hbw HMY0 hbo
          by_cases hlt : i < (l.length : Int)
          · obtain ⟨ad, x, hA, hx, i1, hcs⟩ := HC.out wr HBW.out i hi0 hlt
            subst hA
            have HM := Lib.hid (show mayN x = 0 by rw [← hx]; exact HMY.out i hi0 hlt)
            have C84 := Lib.hid (fun W => refBytes_calls x W (mayN_sz HM.out).1 (mayN_sz HM.out).2)
            have HST := Lib.hid (fun w3 => (show RI b rows C st x.k w3 w3 (rowB x) i (i + 1) by have := RI.start HBL.out.1 HR.out hi0 (by have := HRL.out; omega) (HMY.out i hi0 hlt) w3; rw [hx] at this; exact this))
            obtain ⟨LB, hLB⟩ : ∃ LB, LB = rowB x := ⟨_, rfl⟩
            rw [← hLB] at C84 HST
            clear hLB hx HM
            obtain ⟨xk, xs, xg⟩ := x
            dsimp only at i1 hcs HST
            have HCS := Lib.hid hcs
            clear hcs
            unfold rowV at C84
            dsimp only at C84
            go_wp2_with (first | ((with_reducible refine gate_dst (N := 63) rfl ?_); refine wpList_load_at rfl 54 (.tmp 62) rfl (ad.add (i.toNat * 3)) rfl [.string xk, .string xs, .bool xg] _ HCS.out Try.underlying54 rfl (by kernel_rfl) ?_) | (go_at_call 84; refine (C84.out _).mono ?_; rintro e w1 ⟨rfl, hb1⟩; have HRI0 := Lib.hid (HST.out w1); have HB1 := Lib.hid (HBW.out.trans (hb1.mono HBW.out.size)); have i1w := pw_cell_below hb1 i1; have HO1 := Lib.hid (HO.out.move (fun k hk => hb1.block k hk)); have HX1 := Lib.hid (HX.out.move (fun k hk => hb1.block k hk)); clear hb1))
            go_loopw [12, 11] (fun lv iv W => ∃ (L : ByteArray) (j : Int), lv = .string L ∧ iv = .int .i64 j ∧ i + 1 ≤ j ∧ j ≤ l.length ∧ Hid (RI b rows C st xk w1 W L i j)) (fun _ iv _ => l.length - (intOf iv).toNat)
            case atStart => exact ⟨LB, i + 1, rfl, by go_num, by omega, by omega, HRI0⟩
            case round =>
              clear HRI0 HST C84 HCS
              obtain ⟨L, j, rfl, rfl, hij, hjl, HI⟩ := hrel
              have hp := HI.out.pos
              have hL2 := hp.2.1
              have HXK := Lib.hid hp.2.2
              have hj0 : 0 ≤ j := by omega
              have hjb : j ≤ 1048576 := by have := HLB.out; omega
              have HB2 := Lib.hid HI.out.2.2
              have HBW2 := Lib.hid (HB1.out.trans (HB2.out.mono HB1.out.size))
              clear hp
              by_cases hjlt : j < (l.length : Int)
              · by_cases hLb : (L.size : Int) < b
                · obtain ⟨ad2, y, hA, hy, i2, hcs⟩ := HC.out wr HBW2.out j hj0 hjlt
                  obtain rfl : ad2 = ad := by injection hA with e; exact e.symm
                  clear hA
                  have hmy : mayN y = 0 := by rw [← hy]; exact HMY.out j hj0 hjlt
                  have C84 := Lib.hid (fun W => refBytes_calls y W (mayN_sz hmy).1 (mayN_sz hmy).2)
                  have hyz : (rowB y).size ≤ 20000 := by have := rowB_le2 y hmy; omega
                  have HSTP := Lib.hid (fun (W' : World) (hw : Below wr.heap.size wr W') => (show RI b rows C st xk w1 W' (L ++ rowB y) i (j + 1) by have := HI.out.step HBL.out.2 hj0 (by have := HRL.out; omega) hLb (HMY.out j hj0 hjlt) hw; rw [hy] at this; exact this))
                  have hd3 : decide ((L.size : Int) < b) = true := decide_eq_true hLb
                  obtain ⟨LY, hLY⟩ : ∃ LY, LY = rowB y := ⟨_, rfl⟩
                  rw [← hLY] at C84 HSTP hyz
                  have hys : L.size + LY.size ≤ 9223372036854775807 := by omega
                  clear hLY hy hmy hLb
                  obtain ⟨yk, ys, yg⟩ := y
                  dsimp only at i2 hcs
                  have HCS := Lib.hid hcs
                  clear hcs
                  unfold rowV at C84
                  dsimp only at C84
                  go_wp2_with (first | ((with_reducible refine gate_dst (N := 86) rfl ?_); refine wpList_load_at rfl 54 (.tmp 85) rfl (ad2.add (j.toNat * 3)) rfl [.string yk, .string ys, .bool yg] _ HCS.out Try.underlying54 rfl (by kernel_rfl) ?_) | (go_at_call 84; refine (C84.out _).mono ?_; rintro e w3 ⟨rfl, hb3⟩; have HB3 := Lib.hid hb3; clear hb3))
                  go_roundw
                  case rel => exact ⟨L ++ LY, j + 1, rfl, by go_num, by omega, by omega, Lib.hid (HSTP.out _ HB3.out)⟩
                  case measure => simp [intOf]; omega
                · have hd3 : decide ((L.size : Int) < b) = false := decide_eq_false hLb
                  have HFN := Lib.hid (HI.out.fin (w := w) HBL.out.1 hj0 hij (.inr (by omega)))
                  clear hLb
                  obtain ⟨h1, h2, h3, h4, h5, h6⟩ := HFN.out
                  have HF1 := Lib.hid h1
                  have HF2 := Lib.hid h2
                  have HF3 := Lib.hid h3
                  have HF4 := Lib.hid h4
                  have HF5 := Lib.hid h5
                  have HF6 := Lib.hid h6
                  clear h1 h2 h3 h4 h5 h6 HFN
                  obtain ⟨N, hN⟩ : ∃ N, N = closeS (mkI st xk L) := ⟨_, rfl⟩
                  rw [← hN] at HF1 HF2 HF3 HF4 HF5 HF6
                  have hps := putO_size L
                  have C62 := Lib.hid (fun W => refPut_calls 2 L W (by unfold maxLen; omega))
                  obtain ⟨P, hP⟩ : ∃ P, P = putO L := ⟨_, rfl⟩
                  rw [← hP] at HF4 HF5 hps
                  rw [show (putR 2 L).1 = P from hP.symm] at C62
                  obtain ⟨E, hE⟩ : ∃ E, E = (putR 2 L).2 := ⟨_, rfl⟩
                  rw [← hE] at C62
                  have C44 := Lib.hid (fun W => RUint_calls P.size W (by omega))
                  have C46 := Lib.hid (fun W => RText_calls xk W (by have := HXK.out; omega))
                  obtain ⟨EP, hEP⟩ : ∃ EP, EP = encB P.size := ⟨_, rfl⟩
                  have hepz : EP.size ≤ 10 := by have := (encB_le P.size (by omega)).1; rw [hEP]; omega
                  rw [← hEP] at C44 HF5
                  obtain ⟨EK, hEK⟩ : ∃ EK, EK = encB xk.size ++ xk := ⟨_, rfl⟩
                  have hekz : EK.size ≤ 100 := by have := HXK.out; have := (encB_le xk.size (by omega)).1; rw [hEK, ByteArray.size_append]; omega
                  rw [← hEK] at C46 HF5
                  clear hN hP hE hEP hEK
                  go_wp2_with (first | (go_at_call 62; refine (C62.out _).mono ?_; rintro e w2 ⟨rfl, hb2⟩; have HO2 := Lib.hid ((HO1.out.move (fun k hk => HB2.out.block k hk)).move (fun k hk => hb2.block k hk)); have HX2 := Lib.hid ((HX1.out.move (fun k hk => HB2.out.block k hk)).move (fun k hk => hb2.block k hk)); have HW2 := Lib.hid (HBW2.out.trans (hb2.mono HBW2.out.size)); clear hb2) | ((with_reducible refine gate_builtin (b := .append) (xs := #[.tmp 96, .tmp 97]) rfl ?_); at_builtin; refine wpList_append_M _ rfl (.tmp 96) (.tmp 97) 84 9 rfl w.heap.size Try.underlying84 Try.underlying9 infoB _ _ _ rfl HO2.out _ rfl ?c4 ?c5 ?_; (case c4 => have := HOL.out; omega); (case c5 => exact HW2.out.size); intro v3 w3 h3 hg3 hn3; have HO3 := Lib.hid h3; have HX3 := Lib.hid (HX2.out.grown hg3 (fun k hk hk2 => HDJ.out k hk2 hk)); have HW3 := Lib.hid (HW2.out.grown hg3 HW2.out.size (fun k hk => HO2.out.base_le k hk)); have HD3 := Lib.hid (dis_left HDJ.out hn3 HX2.out); obtain ⟨ao3, co3, rfl⟩ := h3.slice_; clear h3 hg3 hn3) | (go_at_call 44; refine (C44.out _).mono ?_; rintro e w4 ⟨rfl, hb4⟩; have HO4 := Lib.hid (HO3.out.move (fun k hk => hb4.block k hk)); have HX4 := Lib.hid (HX3.out.move (fun k hk => hb4.block k hk)); have HW4 := Lib.hid (HW3.out.trans (hb4.mono HW3.out.size)); clear hb4) | ((with_reducible refine gate_builtin (b := .append) (xs := #[.tmp 99, .tmp 103]) rfl ?_); at_builtin; refine wpList_append_M _ rfl (.tmp 99) (.tmp 103) 84 9 rfl w.heap.size Try.underlying84 Try.underlying9 infoB _ _ _ rfl HX4.out _ rfl ?c4 ?c5 ?_; (case c4 => have := HXL.out; omega); (case c5 => exact HW4.out.size); intro v5 w5 h5 hg5 hn5; have HX5 := Lib.hid h5; have HO5 := Lib.hid (HO4.out.grown hg5 (fun k hk hk2 => HD3.out k hk hk2)); have HW5 := Lib.hid (HW4.out.grown hg5 HW4.out.size (fun k hk => HX4.out.base_le k hk)); have HD5 := Lib.hid (dis_right HD3.out hn5 HO4.out); obtain ⟨ax5, cx5, rfl⟩ := h5.slice_; clear h5 hg5 hn5) | (go_at_call 46; refine (C46.out _).mono ?_; rintro e w6 ⟨rfl, hb6⟩; have HO6 := Lib.hid (HO5.out.move (fun k hk => hb6.block k hk)); have HX6 := Lib.hid (HX5.out.move (fun k hk => hb6.block k hk)); have HW6 := Lib.hid (HW5.out.trans (hb6.mono HW5.out.size)); clear hb6) | ((with_reducible refine gate_builtin (b := .append) (xs := #[.tmp 105, .tmp 107]) rfl ?_); at_builtin; refine wpList_append_M _ rfl (.tmp 105) (.tmp 107) 84 9 rfl w.heap.size Try.underlying84 Try.underlying9 infoB _ _ _ rfl HX6.out _ rfl ?c4 ?c5 ?_; (case c4 => have := HXL.out; omega); (case c5 => exact HW6.out.size); intro v7 w7 h7 hg7 hn7; have HX7 := Lib.hid h7; have HO7 := Lib.hid (HO6.out.grown hg7 (fun k hk hk2 => HD5.out k hk hk2)); have HW7 := Lib.hid (HW6.out.grown hg7 HW6.out.size (fun k hk => HX6.out.base_le k hk)); have HD7 := Lib.hid (dis_right HD5.out hn7 HO6.out); obtain ⟨ax7, cx7, rfl⟩ := h7.slice_; clear h7 hg7 hn7))
                  go_roundw
                  case rel => exact ⟨N, j, rfl, by omega, by omega, by have := HF6.out; go_num, Lib.hid ⟨HF1.out, HF2.out, HF3.out, by rw [HF4.out, Lib.byteCells_append, List.length_append]; exact HO7.out, by rw [HF5.out, Lib.byteCells_append, Lib.byteCells_append, List.length_append, List.length_append]; exact HX7.out, HD7.out, HW7.out⟩⟩
                  case measure => simp [intOf]; omega
              · have HFN := Lib.hid (HI.out.fin (w := w) HBL.out.1 hj0 hij (.inl (by have := HRL.out; omega)))
                obtain ⟨h1, h2, h3, h4, h5, h6⟩ := HFN.out
                have HF1 := Lib.hid h1
                have HF2 := Lib.hid h2
                have HF3 := Lib.hid h3
                have HF4 := Lib.hid h4
                have HF5 := Lib.hid h5
                have HF6 := Lib.hid h6
                clear h1 h2 h3 h4 h5 h6 HFN
                obtain ⟨N, hN⟩ : ∃ N, N = closeS (mkI st xk L) := ⟨_, rfl⟩
                rw [← hN] at HF1 HF2 HF3 HF4 HF5 HF6
                have hps := putO_size L
                have C62 := Lib.hid (fun W => refPut_calls 2 L W (by unfold maxLen; omega))
                obtain ⟨P, hP⟩ : ∃ P, P = putO L := ⟨_, rfl⟩
                rw [← hP] at HF4 HF5 hps
                rw [show (putR 2 L).1 = P from hP.symm] at C62
                obtain ⟨E, hE⟩ : ∃ E, E = (putR 2 L).2 := ⟨_, rfl⟩
                rw [← hE] at C62
                have C44 := Lib.hid (fun W => RUint_calls P.size W (by omega))
                have C46 := Lib.hid (fun W => RText_calls xk W (by have := HXK.out; omega))
                obtain ⟨EP, hEP⟩ : ∃ EP, EP = encB P.size := ⟨_, rfl⟩
                have hepz : EP.size ≤ 10 := by have := (encB_le P.size (by omega)).1; rw [hEP]; omega
                rw [← hEP] at C44 HF5
                obtain ⟨EK, hEK⟩ : ∃ EK, EK = encB xk.size ++ xk := ⟨_, rfl⟩
                have hekz : EK.size ≤ 100 := by have := HXK.out; have := (encB_le xk.size (by omega)).1; rw [hEK, ByteArray.size_append]; omega
                rw [← hEK] at C46 HF5
                clear hN hP hE hEP hEK
                go_wp2_with (first | (go_at_call 62; refine (C62.out _).mono ?_; rintro e w2 ⟨rfl, hb2⟩; have HO2 := Lib.hid ((HO1.out.move (fun k hk => HB2.out.block k hk)).move (fun k hk => hb2.block k hk)); have HX2 := Lib.hid ((HX1.out.move (fun k hk => HB2.out.block k hk)).move (fun k hk => hb2.block k hk)); have HW2 := Lib.hid (HBW2.out.trans (hb2.mono HBW2.out.size)); clear hb2) | ((with_reducible refine gate_builtin (b := .append) (xs := #[.tmp 96, .tmp 97]) rfl ?_); at_builtin; refine wpList_append_M _ rfl (.tmp 96) (.tmp 97) 84 9 rfl w.heap.size Try.underlying84 Try.underlying9 infoB _ _ _ rfl HO2.out _ rfl ?c4 ?c5 ?_; (case c4 => have := HOL.out; omega); (case c5 => exact HW2.out.size); intro v3 w3 h3 hg3 hn3; have HO3 := Lib.hid h3; have HX3 := Lib.hid (HX2.out.grown hg3 (fun k hk hk2 => HDJ.out k hk2 hk)); have HW3 := Lib.hid (HW2.out.grown hg3 HW2.out.size (fun k hk => HO2.out.base_le k hk)); have HD3 := Lib.hid (dis_left HDJ.out hn3 HX2.out); obtain ⟨ao3, co3, rfl⟩ := h3.slice_; clear h3 hg3 hn3) | (go_at_call 44; refine (C44.out _).mono ?_; rintro e w4 ⟨rfl, hb4⟩; have HO4 := Lib.hid (HO3.out.move (fun k hk => hb4.block k hk)); have HX4 := Lib.hid (HX3.out.move (fun k hk => hb4.block k hk)); have HW4 := Lib.hid (HW3.out.trans (hb4.mono HW3.out.size)); clear hb4) | ((with_reducible refine gate_builtin (b := .append) (xs := #[.tmp 99, .tmp 103]) rfl ?_); at_builtin; refine wpList_append_M _ rfl (.tmp 99) (.tmp 103) 84 9 rfl w.heap.size Try.underlying84 Try.underlying9 infoB _ _ _ rfl HX4.out _ rfl ?c4 ?c5 ?_; (case c4 => have := HXL.out; omega); (case c5 => exact HW4.out.size); intro v5 w5 h5 hg5 hn5; have HX5 := Lib.hid h5; have HO5 := Lib.hid (HO4.out.grown hg5 (fun k hk hk2 => HD3.out k hk hk2)); have HW5 := Lib.hid (HW4.out.grown hg5 HW4.out.size (fun k hk => HX4.out.base_le k hk)); have HD5 := Lib.hid (dis_right HD3.out hn5 HO4.out); obtain ⟨ax5, cx5, rfl⟩ := h5.slice_; clear h5 hg5 hn5) | (go_at_call 46; refine (C46.out _).mono ?_; rintro e w6 ⟨rfl, hb6⟩; have HO6 := Lib.hid (HO5.out.move (fun k hk => hb6.block k hk)); have HX6 := Lib.hid (HX5.out.move (fun k hk => hb6.block k hk)); have HW6 := Lib.hid (HW5.out.trans (hb6.mono HW5.out.size)); clear hb6) | ((with_reducible refine gate_builtin (b := .append) (xs := #[.tmp 105, .tmp 107]) rfl ?_); at_builtin; refine wpList_append_M _ rfl (.tmp 105) (.tmp 107) 84 9 rfl w.heap.size Try.underlying84 Try.underlying9 infoB _ _ _ rfl HX6.out _ rfl ?c4 ?c5 ?_; (case c4 => have := HXL.out; omega); (case c5 => exact HW6.out.size); intro v7 w7 h7 hg7 hn7; have HX7 := Lib.hid h7; have HO7 := Lib.hid (HO6.out.grown hg7 (fun k hk hk2 => HD5.out k hk hk2)); have HW7 := Lib.hid (HW6.out.grown hg7 HW6.out.size (fun k hk => HX6.out.base_le k hk)); have HD7 := Lib.hid (dis_right HD5.out hn7 HO6.out); obtain ⟨ax7, cx7, rfl⟩ := h7.slice_; clear h7 hg7 hn7))
                go_roundw
                case rel => exact ⟨N, j, rfl, by omega, by omega, by have := HF6.out; go_num, Lib.hid ⟨HF1.out, HF2.out, HF3.out, by rw [HF4.out, Lib.byteCells_append, List.length_append]; exact HO7.out, by rw [HF5.out, Lib.byteCells_append, Lib.byteCells_append, List.length_append, List.length_append]; exact HX7.out, HD7.out, HW7.out⟩⟩
                case measure => simp [intOf]; omega
          · have hiu : i.toNat = rows.length := by have := HRL.out; omega
            obtain rfl : st = C := by
              obtain ⟨-, hz, hc, -⟩ := HR.out
              rw [hiu, List.drop_length] at hc
              rw [← hc]; exact (closeS_again hz).symm
            have hcu := fun (W : World) (hw : Below wr.heap.size wr W) => (HX.out.move (fun k hk => hw.block k hk)).string (by have := HXL.out; omega)
            have hco := fun (W : World) (hw : Below wr.heap.size wr W) => (HO.out.move (fun k hk => hw.block k hk)).string (by have := HOL.out; omega)
            obtain ⟨IX, hIX⟩ : ∃ IX : ByteArray, IX = ⟨st.idx.toArray⟩ := ⟨_, rfl⟩
            obtain ⟨OUT, hOUT⟩ : ∃ OUT : ByteArray, OUT = ⟨st.out.toArray⟩ := ⟨_, rfl⟩
            have hiz : IX.size ≤ 104857600 := by rw [hIX]; show st.idx.toArray.size ≤ _; have := HXL.out; simpa using this
            have hoz : OUT.size = st.out.length := by rw [hOUT]; show st.out.toArray.size = _; simp
            rw [← hIX] at hcu
            rw [← hOUT] at hco
            have HCU := Lib.hid hcu
            have HCO := Lib.hid hco
            obtain ⟨EM, hEM⟩ : ∃ EM, EM = encB st.many := ⟨_, rfl⟩
            have hemz : EM.size ≤ 10 := by have := (encB_le st.many (by omega)).1; rw [hEM]; omega
            have C44 := Lib.hid (fun W => (show Calls Try.prog 44 #[.int .u64 st.many] W fun e w' => e = .returned (.string EM) ∧ Below W.heap.size W w' by rw [hEM]; exact RUint_calls st.many W (by omega)))
            have hems : EM.size + IX.size ≤ 9223372036854775807 := by omega
            have C62 := Lib.hid (fun W => refPut_calls 3 (EM ++ IX) W (by unfold maxLen; rw [ByteArray.size_append]; omega))
            have htz := putR_le (EM ++ IX)
            have hidx : idxF st = putR 3 (EM ++ IX) := by rw [hEM, hIX]; rfl
            have HCE := Lib.hid (show F = if (putR 3 (EM ++ IX)).2 ≠ 0 ∨ 1048576 < st.out.length + (putR 3 (EM ++ IX)).1.size + 4 then (⟨#[]⟩, 13) else (OUT ++ (putR 3 (EM ++ IX)).1 ++ fourB (putR 3 (EM ++ IX)).1.size, 0) by rw [HCF.out, endC, hidx, hOUT])
            generalize putR 3 (EM ++ IX) = R at HCE C62 htz
            obtain ⟨T, E⟩ := R
            dsimp only at HCE C62 htz
            have hol := HOL.out
            have hoz2 : OUT.size ≤ 68786585600 := by omega
            have HOZ := Lib.hid hoz
            have hts : OUT.size + T.size ≤ 9223372036854775807 := by omega
            have hts4 : OUT.size + T.size + 4 ≤ 9223372036854775807 := by omega
            have hx5 : ((T.size : Int) / 16777216) % 256 = (T.size : Int) / 16777216 := by omega
            have h4z := fourB_size T.size
            have HWU := Lib.hid (show IntKind.u64.wrap (st.many : Int) = st.many by rw [wrap_u64_id _ (by omega) (by omega)])
            clear hcu hco hIX hOUT hEM hidx hiu hoz
            go_wp2_with fail
            refine start_ (n := 12) (S := fun w' => (convert 84 9 (.slice ax st.idx.length cx)).run Try.prog w' = .ok (.string IX) w') (ds := []) #[false, false, false, false, false, false, false, false, false, false, false, false] (by kernel_rfl) rfl rfl (HCU.out _ (below_drew1 (Below.refl _ _))) (fun hHeld => ?_)
            refine pure_ (i := 0) (N := some 112) (v := ?_) (a' := ?_) #[true, false, false, false, false, false, false, false, false, false, false, false] rfl rfl (by kernel_rfl) (fun _ _ _ h => h) (Or.inl ⟨by rfl, ?_⟩) ?_ ?_
            rotate_left
            · intro w'
              go_simp
              with_reducible rfl
            rotate_left
            · simp only [Act.put, List.setIfInBounds_toArray, List.set_cons_zero, List.set_cons_succ, i64_w, i32_w]
              rfl
            refine pure_ (i := 1) (N := some 113) (v := .int .u64 st.many) (a' := ?_) #[true, true, false, false, false, false, false, false, false, false, false, false] rfl rfl (by kernel_rfl) (fun _ _ _ h => h) (Or.inl ⟨by rfl, ?_⟩) ?_ ?_
            · intro w'
              go_simp
              exact HWU.out
            rotate_left
            · simp only [Act.put, List.setIfInBounds_toArray, List.set_cons_zero, List.set_cons_succ, i64_w, i32_w]
              rfl
            refine pure_ (i := 3) (N := some 115) (v := ?_) (a' := ?_) #[true, true, false, true, false, false, false, false, false, false, false, false] rfl rfl (by kernel_rfl) (fun _ _ _ h => h) (Or.inl ⟨by rfl, ?_⟩) ?_ ?_
            rotate_left
            · intro w'
              go_simp
              with_reducible rfl
            rotate_left
            · simp only [Act.put, List.setIfInBounds_toArray, List.set_cons_zero, List.set_cons_succ, i64_w, i32_w]
              rfl
            refine take_ (i := 4) (N := some 116) (v := ?_) (a' := ?_) #[true, true, false, true, true, false, false, false, false, false, false, false] rfl rfl (by kernel_rfl) (fun _ _ _ h => h) (Or.inl ⟨by rfl, ?_⟩) hHeld ?_ ?_
            rotate_left
            · rintro w' s0
              go_simp
              with_reducible rfl
            rotate_left
            · simp only [Act.put, List.setIfInBounds_toArray, List.set_cons_zero, List.set_cons_succ, i64_w, i32_w]
              rfl
            refine one_ (i := 2) (N := some 114) #[true, true, true, true, true, false, false, false, false, false, false, false] rfl rfl (by kernel_rfl) (by decide) (fun K hK => ?_)
            refine goes_ Try.func44 (by kernel_rfl) rfl #[.int .u64 st.many] (by rfl) rfl rfl (by simp only [List.map_toArray, List.map_cons, List.map_nil]; rfl) ?_
            refine (C44.out _).mono ?_
            rintro e w3 ⟨rfl, hb3⟩
            refine ⟨_, rfl, ?_⟩
            have HBR3 := Lib.hid ((below_drew1 (Below.refl wr.heap.size wr)).trans (hb3.mono (below_drew1 (Below.refl wr.heap.size wr)).size))
            clear hb3
            refine hK.out _ _ (HCU.out _ HBR3.out) (fun hHeld => ?_)
            clear hK K
            refine norm_ (a' := ?_) ?_ ?_
            rotate_left
            · show Act.put _ (some 114) _ = _
              simp only [Act.put, List.setIfInBounds_toArray, List.set_cons_zero, List.set_cons_succ, i64_w, i32_w]
              rfl
            refine pure_ (i := 5) (N := some 117) (v := .string (EM ++ IX)) (a' := ?_) #[true, true, true, true, true, true, false, false, false, false, false, false] rfl rfl (by kernel_rfl) (fun _ _ _ h => h) (Or.inl ⟨by rfl, ?_⟩) ?_ ?_
            · intro w'
              go_simp
            rotate_left
            · simp only [Act.put, List.setIfInBounds_toArray, List.set_cons_zero, List.set_cons_succ, i64_w, i32_w]
              rfl
            refine one_ (i := 6) (N := some 118) #[true, true, true, true, true, true, true, false, false, false, false, false] rfl rfl (by kernel_rfl) (by decide) (fun K hK => ?_)
            refine goes_ Try.func62 (by kernel_rfl) rfl #[.int .u8 3, .string (EM ++ IX)] (by rfl) rfl rfl (by simp only [List.map_toArray, List.map_cons, List.map_nil]; rfl) ?_
            refine (C62.out _).mono ?_
            rintro e w4 ⟨rfl, hb4⟩
            refine ⟨_, rfl, ?_⟩
            have HBR4 := Lib.hid (HBR3.out.trans (hb4.mono HBR3.out.size))
            have HB4 := Lib.hid (HBW.out.trans (HBR4.out.mono HBW.out.size))
            clear hb4
            refine hK.out _ _ (HCU.out _ HBR4.out) (fun hHeld => ?_)
            clear hK K
            refine norm_ (a' := ?_) ?_ ?_
            rotate_left
            · show Act.put _ (some 118) _ = _
              simp only [Act.put, List.setIfInBounds_toArray, List.set_cons_zero, List.set_cons_succ, i64_w, i32_w]
              rfl
            refine pure_ (i := 7) (N := some 111) (v := ?_) (a' := ?_) #[true, true, true, true, true, true, true, true, false, false, false, false] rfl rfl (by kernel_rfl) (fun _ _ _ h => h) (Or.inl ⟨by rfl, ?_⟩) ?_ ?_
            rotate_left
            · intro w'
              go_simp
              with_reducible rfl
            rotate_left
            · simp only [Act.put, List.setIfInBounds_toArray, List.set_cons_zero, List.set_cons_succ, i64_w, i32_w]
              rfl
            refine pure_ (i := 8) (N := some 119) (v := ?_) (a' := ?_) #[true, true, true, true, true, true, true, true, true, false, false, false] rfl rfl (by kernel_rfl) (fun _ _ _ h => h) (Or.inl ⟨by rfl, ?_⟩) ?_ ?_
            rotate_left
            · intro w'
              go_simp
              with_reducible rfl
            rotate_left
            · simp only [Act.put, List.setIfInBounds_toArray, List.set_cons_zero, List.set_cons_succ, i64_w, i32_w]
              rfl
            refine pure_ (i := 9) (N := some 120) (v := ?_) (a' := ?_) #[true, true, true, true, true, true, true, true, true, true, false, false] rfl rfl (by kernel_rfl) (fun _ _ _ h => h) (Or.inl ⟨by rfl, ?_⟩) ?_ ?_
            rotate_left
            · intro w'
              go_simp
              with_reducible rfl
            rotate_left
            · simp only [Act.put, List.setIfInBounds_toArray, List.set_cons_zero, List.set_cons_succ, i64_w, i32_w]
              rfl
            refine pure_ (i := 10) (N := some 16) (v := ?_) (a' := ?_) #[true, true, true, true, true, true, true, true, true, true, true, false] rfl rfl (by kernel_rfl) (fun _ _ _ h => h) (Or.inl ⟨by rfl, ?_⟩) ?_ ?_
            rotate_left
            · intro w'
              go_simp
              with_reducible rfl
            rotate_left
            · simp only [Act.put, List.setIfInBounds_toArray, List.set_cons_zero, List.set_cons_succ, i64_w, i32_w]
              rfl
            refine pure_ (i := 11) (N := some 17) (v := ?_) (a' := ?_) #[true, true, true, true, true, true, true, true, true, true, true, true] rfl rfl (by kernel_rfl) (fun _ _ _ h => h) (Or.inl ⟨by rfl, ?_⟩) ?_ ?_
            rotate_left
            · intro w'
              go_simp
              with_reducible rfl
            rotate_left
            · simp only [Act.put, List.setIfInBounds_toArray, List.set_cons_zero, List.set_cons_succ, i64_w, i32_w]
              rfl
            refine done_ (by kernel_rfl) ?_
            clear hHeld
            by_cases hE : E = 0
            · subst hE
              have hq0 : (((0 : Nat) : Int) != 0) = false := rfl
              have hsum1 : IntKind.i64.wrap ((st.out.length : Int) + (T.size : Int)) = (st.out.length : Int) + (T.size : Int) := by rw [IntWalk.i64_left, IntWalk.wrap64_in _ (by omega)]
              have hsum2 : IntKind.i64.wrap ((st.out.length : Int) + (T.size : Int) + 4) = (st.out.length : Int) + (T.size : Int) + 4 := by rw [IntWalk.i64_left, IntWalk.wrap64_in _ (by omega)]
              by_cases hbig : 1048576 < st.out.length + T.size + 4
              · have hFn := HCE.out
                rw [if_pos (.inr hbig)] at hFn
                have HFN := Lib.hid hFn
                have hd4 : decide ((1048576 : Int) < (st.out.length : Int) + (T.size : Int) + 4) = true := decide_eq_true (by omega)
                clear hFn hbig
                go_wp2_with fail
                go_ret2
                rw [HFN.out]
                exact ⟨rfl, HB4.out⟩
              · have hFn := HCE.out
                rw [if_neg (by rintro (h | h); exact h rfl; exact hbig h)] at hFn
                have HFN := Lib.hid hFn
                have hd4 : decide ((1048576 : Int) < (st.out.length : Int) + (T.size : Int) + 4) = false := decide_eq_false (by omega)
                have hcv := HCO.out w4 HBR4.out
                have hc4 := conv4 w4 ((T.size : Int) % 256) ((T.size : Int) / 256 % 256) ((T.size : Int) / 65536 % 256) ((T.size : Int) / 16777216)
                rw [four_str] at hc4
                clear hFn hbig
                go_wp2_with fail
                go_ret2
                rw [HFN.out]
                exact ⟨rfl, below_alloc HB4.out _⟩
            · have hFn := HCE.out
              rw [if_pos (.inl hE)] at hFn
              have HFN := Lib.hid hFn
              have hq : ((E : Int) != 0) = true := by simpa using hE
              clear hFn hE
              go_wp2_with fail
              go_ret2
              rw [HFN.out]
              exact ⟨rfl, HB4.out⟩

set_option maxRecDepth 100000 in
set_option maxHeartbeats 4000000 in
theorem runBuilds_fin (b : Int) (A : Option Addr) (c : Nat) (l : List S54) (w : World) (h : Kd.C k54 w A l.length l) (hl : l.length ≤ 1048576) :
    Calls Try.prog 21 #[.int .i64 b, .slice A l.length c] w fun e w' => e = .returned (.bool true) ∧ Below w.heap.size w w' := by
  have HC := Lib.hid (fun (W : World) (hb : Below w.heap.size w W) => Kd.C_below h hb)
  have HA := Lib.hid (fun (W : World) (hb : Below w.heap.size w W) => built_calls b A c l W (HC.out W hb) hl)
  have HB := Lib.hid (fun (W : World) (hb : Below w.heap.size w W) => RefBuild_calls b A c l W (HC.out W hb) hl)
  obtain ⟨S, hS⟩ : ∃ x, x = buildF b (l.map toR) := ⟨_, rfl⟩
  rw [← hS] at HA HB
  obtain ⟨s, e⟩ := S
  dsimp only at HA HB
  clear hS h hl
  have h1 : ((e : Int) == (e : Int)) = true := beq_self_eq_true _
  have h2 : (s.toList == s.toList) = true := beq_self_eq_true _
  go_enter Try.func21, Try.ntmps21
  go_wp2_with (first | (go_at_call 34; refine (shown7_calls _).mono ?_; rintro e w1 ⟨rfl, hb1⟩; have HB1 := Lib.hid hb1; clear hb1) | (go_at_call 41; refine (HA.out _ HB1.out).mono ?_; rintro e w2 ⟨rfl, hb2⟩; have HB2 := Lib.hid (HB1.out.trans (hb2.mono HB1.out.size)); clear hb2) | (go_at_call 38; refine (HB.out _ HB2.out).mono ?_; rintro e w3 ⟨rfl, hb3⟩; have HB3 := Lib.hid (HB2.out.trans (hb3.mono HB2.out.size)); clear hb3))
  go_ret
  exact ⟨rfl, HB3.out⟩
end Go.Proofs.Ytfemjlhfgmbcmaa

namespace Go.Proofs.Ytfemjlhfgmbcmaa
open Go.RowKit Go.Shelf Go.Proofs.YtfemjlhfgmbcmaaW.PrintWords Go.Proofs.YtfemjlhfgmbcmaaW.PrintLast Go.Proofs.YtfemjlhfgmbcmaaW.PrintMore
open Go.Proofs.Ytfemjlhfgmbcmaa.PRunBuilds
set_option linter.unusedVariables false
set_option linter.unusedSimpArgs false
attribute [local go_sem] Oper.semAt_some
attribute [local go_sem ↓] Go.wp_at_zero Go.wp_at_succ

/-- What From gives: a func value over the run and the key. -/
theorem From_calls (q : Option Addr) (k : ByteArray) (w : World) : Calls Try.prog 36 #[.pointer q, .string k] w fun e w' => ∃ rb kb, e = .returned (.func (.func 75) #[] #[.pointer (some ⟨rb, 0, none⟩), .pointer (some ⟨kb, 0, none⟩)]) ∧ w'.heap[rb]? = some (.cells #[.pointer q] 36 (0, 0)) ∧ w'.heap[kb]? = some (.cells #[.string k] 9 (0, 0)) ∧ Below w.heap.size w w' ∧ rb = w.heap.size ∧ kb = w.heap.size + 1 ∧ w'.heap.size = w.heap.size + 2 := by
  have HB := Lib.hid (below_alloc (below_alloc (Below.refl w.heap.size w) (.cells #[.pointer q] 36)) (.cells #[.string k] 9))
  have HZ := Lib.hid (show ((w.alloc (.cells #[.pointer q] 36)).alloc (.cells #[.string k] 9)).heap.size = w.heap.size + 2 by rw [World.size_alloc, World.size_alloc])
  have H1 := Lib.hid (show ((w.alloc (.cells #[.pointer q] 36)).alloc (.cells #[.string k] 9)).heap[w.heap.size]? = some (.cells #[.pointer q] 36 (0, 0)) from blk_alloc (blk_new w _) _)
  have H2 := Lib.hid (show ((w.alloc (.cells #[.pointer q] 36)).alloc (.cells #[.string k] 9)).heap[w.heap.size + 1]? = some (.cells #[.string k] 9 (0, 0)) from heap_alloc2_new w _ _)
  go_enter Try.func36, Try.ntmps36
  go_wp2_with fail
  go_ret
  exact ⟨w.heap.size, w.heap.size + 1, rfl, H1.out, H2.out, HB.out, rfl, rfl, HZ.out⟩
theorem FromNil_in (n l rb kb : Nat) (hn : 1 ≤ n) (W : World) (h1 : W.heap[rb]? = some (.cells #[.pointer none] 36 (0, 0))) : CallsIn Fence.wide n Try.prog 75 #[.func (.yield l) #[] #[], .pointer (some ⟨rb, 0, none⟩), .pointer (some ⟨kb, 0, none⟩)] W fun e W' => (∃ v, e = .returned v) ∧ W' = W := by
  have i1 : W.cell? ⟨rb, 0, none⟩ = some (.pointer none) := (blk_cell h1 0).trans rfl
  refine callsIn_of_wp Try.func75 rfl trivial ?_ rfl
  simp only [Try.ntmps75, List.size_toArray, List.length_cons, List.length_nil, Nat.reduceAdd, Nat.reduceSub, Array.replicate_succ, Array.replicate_zero, List.push_toArray, List.append_toArray, List.nil_append, List.cons_append]
  gi_wp2
  refine bodyPost_ret (results_none rfl _ _ _) rfl ?_
  exact ⟨⟨_, rfl⟩, rfl⟩
end Go.Proofs.Ytfemjlhfgmbcmaa

namespace Go.Proofs.Ytfemjlhfgmbcmaa
open Go.RowKit Go.Shelf Go.Proofs.YtfemjlhfgmbcmaaW.PrintWords Go.Proofs.YtfemjlhfgmbcmaaW.PrintLast Go.Proofs.YtfemjlhfgmbcmaaW.PrintMore
open Go.Proofs.Ytfemjlhfgmbcmaa.PRunBuilds
set_option linter.unusedVariables false
set_option linter.unusedSimpArgs false
attribute [local go_sem] Oper.semAt_some
attribute [local go_sem ↓] Go.wp_at_zero Go.wp_at_succ

set_option maxRecDepth 100000 in
set_option maxHeartbeats 8000000 in
theorem runNil_fin (k : ByteArray) (b : Int) (w : World) :
    Calls Try.prog 5 #[.string k, .int .i64 b] w fun e w' => e = .returned (.bool true) ∧ Below w.heap.size w w' := by
  have HB37 := Lib.hid (fun W => (show Calls Try.prog 37 #[.int .i64 b, .nilFunc] W fun e w' => e = .returned (.tuple #[.string (buildF b []).1, .int .i64 (buildF b []).2]) ∧ Below W.heap.size W w' by
    by_cases hb : b < 64 ∨ 4096 < b
    · have h := BuildArg_calls b .nilFunc W hb
      rw [show buildF b [] = (⟨#[]⟩, 1) by unfold buildF; rw [if_pos hb]]
      exact h
    · exact BuildNil_calls b W (by omega) (by omega)))
  have HB38 := Lib.hid (fun W => (show Calls Try.prog 38 #[.int .i64 b, .slice none 0 0] W fun e w' => e = .returned (.tuple #[.string (buildF b []).1, .int .i64 (buildF b []).2]) ∧ Below W.heap.size W w' from RefBuild_calls b none 0 [] W ⟨rfl, by simp, fun h => by simp at h⟩ (by simp)))
  have HG35 := Lib.hid (fun W => (show Calls Try.prog 35 #[.pointer none, .string k] W fun e w' => e = .returned (.tuple #[.agg #[.string ⟨#[]⟩, .bool false], .bool false]) ∧ Below W.heap.size W w' from Get_calls0 k W))
  generalize buildF b [] = S at HB37 HB38
  obtain ⟨s, e⟩ := S
  dsimp only at HB37 HB38
  refine (callsIn_wide (n := 6)).1 ?_
  refine callsIn_of_wp_marks Try.func5 rfl trivial ?_ rfl
  simp only [Try.ntmps5, List.size_toArray, List.length_cons, List.length_nil, Nat.reduceAdd, Nat.reduceSub, Array.replicate_succ, Array.replicate_zero, List.push_toArray, List.append_toArray, List.nil_append, List.cons_append]
  refine wpIn_mono ?_ (noPanic_le _)
  refine wpIn_wide.2 ?_
  go_wp2_with (first | (go_at_call 34; refine (shown7_calls _).mono ?_; rintro e w1 ⟨rfl, hb1⟩; have HB1 := Lib.hid hb1; clear hb1) | (go_at_call 35; refine (HG35.out _).mono ?_; rintro e w2 ⟨rfl, hb2⟩; have HB2 := Lib.hid (HB1.out.trans (hb2.mono HB1.out.size)); clear hb2) | (go_at_call 36; refine (From_calls none k _).mono ?_; rintro e V6 ⟨rb, kb, rfl, hr1, hr2, hb6, hrb, hkb, hsz6⟩; have HR1 := Lib.hid hr1; have HB6 := Lib.hid hb6; have HRK := Lib.hid hrb; have HZ6 := Lib.hid hsz6; have H7 := Lib.hid (blk_below (blk_alloc (blk_new w2 _) _) hb6); have H9 := Lib.hid (blk_below (heap_alloc2_new w2 _ _) hb6); have HB3 := Lib.hid ((below_alloc (below_alloc HB2.out (.cells #[.string ⟨#[]⟩, .bool false] 38)) (.cells #[.int .i64 0] 3)).trans (hb6.mono (by have := HB2.out.size; rw [World.size_alloc, World.size_alloc]; omega))); clear hr1 hr2 hb6 hrb hkb hsz6))
  refine (wpIn_wide (n := 6)).1 ?_
  refine range_enter (n := 5) 75 #[.pointer (some ⟨rb, 0, none⟩), .pointer (some ⟨kb, 0, none⟩)] rfl (enters_of Try.func75 (by kernel_rfl) rfl) ?_
  intro r W1 hr hpn hps has hbd htm hl hD hbw1 hs1
  refine (FromNil_in 5 _ rb kb (by decide) W1 (blk_below HR1.out hbw1)).mono ?_
  rintro e W4 ⟨⟨ve, rfl⟩, rfl⟩
  refine ⟨⟨_, rfl⟩, r, hl, by rw [hr]; decide, ?_⟩
  intro W5 hW5
  rw [hpn]
  dsimp only
  have hv7 := blk_lt H7.out
  have hv9 := blk_lt H9.out
  have X7 := Lib.hid (show W5.heap[w2.heap.size]? = some (.cells #[.string ⟨#[]⟩, .bool false] 38 (0, 0)) by rw [hW5]; exact (World.putObj_heap_other (by omega)).trans (blk_below H7.out hbw1))
  have X9 := Lib.hid (show W5.heap[w2.heap.size + 1]? = some (.cells #[.int .i64 0] 3 (0, 0)) by rw [hW5]; exact (World.putObj_heap_other (by omega)).trans (blk_below H9.out hbw1))
  have XK := Lib.hid (show W5.heap[V6.heap.size]? = some (.deferred (some [])) by rw [hW5]; exact (World.putObj_heap_other (by omega)).trans hD)
  have XB := Lib.hid (show Below w.heap.size w W5 by rw [hW5]; exact Below.grown (HB3.out.trans (hbw1.mono HB3.out.size)) (grownBy_put _ _ _) (by have := HB3.out.size; have := hbw1.size; omega) (fun b e => by injection e with e; have := HB3.out.size; omega))
  have h38 : ∀ W, Sem.run Try.prog (binOp BinOp.eql 38 (.agg #[.string ⟨#[]⟩, .bool false]) (.agg #[.string ⟨#[]⟩, .bool false])) W = .ok (.bool true) W := fun W => by rw [eq38, (cellEq_iff _ _ _ _).2 ⟨rfl, rfl⟩]
  have h1 : ((e : Int) == (e : Int)) = true := beq_self_eq_true _
  have h2 : (s.toList == s.toList) = true := beq_self_eq_true _
  clear hr hpn hps has hbd htm hl hD hbw1 hs1 hW5 hv7 hv9
  go_wp2_with (first | (go_at_call 37; refine (HB37.out _).mono ?_; rintro e w7 ⟨rfl, hb7⟩; have HB7 := Lib.hid hb7; clear hb7) | (go_at_call 38; refine (HB38.out _).mono ?_; rintro e w8 ⟨rfl, hb8⟩; have HB8 := Lib.hid (HB7.out.trans (hb8.mono HB7.out.size)); have Y7 := Lib.hid (blk_below (blk_below X7.out HB7.out) hb8); have c9 := (blk_cell (blk_below (blk_below X9.out HB7.out) hb8) 0).trans rfl; clear hb8) | (go_at_call 39; refine (Len_calls0 _).mono ?_; rintro e w' ⟨rfl, rfl⟩) | (go_at_call 40; refine (Blocks_calls0 _).mono ?_; rintro e w' ⟨rfl, rfl⟩) | ((with_reducible refine gate_dst (N := 40) rfl ?_); refine wpList_load_row rfl 38 (.tmp 7) rfl w2.heap.size rfl [.string ⟨#[]⟩, .bool false] 38 _ Y7.out Try.underlying38 rfl (by kernel_rfl) ?_))
  show bodyPostM _ _ _ _ _ Exit.ret _ _
  have hk8 := blk_below XK.out HB8.out
  have hx8 : Below w.heap.size w w8 := XB.out.trans (HB8.out.mono XB.out.size)
  have hb3 := HB3.out.size
  refine ⟨by simp, .inl ⟨_, _, rfl, run_takeDeferred hk8, ?_⟩⟩
  refine ⟨.bool true, ?_, rfl, ?_⟩
  · simp [results, Try.f5, go_sem]
  · exact Below.grown hx8 (grownBy_put w8 _ _) hx8.size (fun b e => by injection e with e; omega)
end Go.Proofs.Ytfemjlhfgmbcmaa
