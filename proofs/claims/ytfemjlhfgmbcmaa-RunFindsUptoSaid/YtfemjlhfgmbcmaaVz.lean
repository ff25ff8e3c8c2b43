/- The reference's order of texts; a run's range. Laid by gen_sq.py. · Plain facts of rows, for the reference's Build and for told. Laid by gen_sv.py. · From, and From of no run. Laid by gen_ss.py. · A run from a key on: its iterator. Laid by gen_sr.py. · RunBlocks and RunSizes walked. Laid by gen_so.py. -/
import Derived.Test.YtfemjlhfgmbcmaaVe
namespace Go.Proofs.Ytfemjlhfgmbcmaa
open Go.RowKit Go.Shelf Go.Proofs.YtfemjlhfgmbcmaaW.PrintWords Go.Proofs.YtfemjlhfgmbcmaaW.PrintLast Go.Proofs.YtfemjlhfgmbcmaaW.PrintMore
open Go.Proofs.Ytfemjlhfgmbcmaa.PRunBuilds
set_option linter.unusedVariables false
set_option linter.unusedSimpArgs false
attribute [local go_sem ↓] Go.wp_at_zero Go.wp_at_succ

theorem bl_cons (a b : UInt8) (x y : List UInt8) : Op.bytesLess (a :: x) (b :: y) = (decide (a < b) || (a == b && Op.bytesLess x y)) := rfl
theorem u8_ne {a b : UInt8} (h : a.toNat ≠ b.toNat) : (a == b) = false := beq_eq_false_iff_ne.2 (fun e => h (by rw [e]))
theorem u8_lt (a b : UInt8) : decide (a < b) = decide (a.toNat < b.toNat) := by congr 1

set_option maxRecDepth 100000 in
set_option maxHeartbeats 2000000 in
theorem Less_calls (x y : ByteArray) (w : World) (hx : x.size ≤ maxLen) (hy : y.size ≤ maxLen) :
    Calls Try.prog 43 #[.string x, .string y] w fun e w' => e = .returned (.bool (ltB x y)) ∧ Below w.heap.size w w' := by
  unfold maxLen at hx hy
  obtain ⟨R, hR⟩ : ∃ R, R = ltB x y := ⟨_, rfl⟩
  rw [← hR]
  have HR := Lib.hid (show Op.bytesLess x.data.toList y.data.toList = R by rw [hR]; unfold ltB; rw [Lib.toList_data, Lib.toList_data])
  clear hR
  have HB0 := Lib.hid (Below.refl w.heap.size w)
  go_enter Try.func43, Try.ntmps43
  go_wp2_with fail
  go_loopw [5] (fun iv W => ∃ k : Nat, iv = .int .i64 k ∧ k ≤ x.size ∧ k ≤ y.size ∧ Below w.heap.size w W ∧ Hid (Op.bytesLess (x.data.toList.drop k) (y.data.toList.drop k) = R)) (fun iv _ => x.size - (intOf iv).toNat)
  case atStart => exact ⟨0, rfl, Nat.zero_le _, Nat.zero_le _, HB0.out, HR⟩
  case round =>
    obtain ⟨k, rfl, hkx, hky, hbw, HN⟩ := hrel
    have HBW := Lib.hid hbw
    have hdr := below_drew1 (Below.refl wr.heap.size wr)
    have HD := Lib.hid (HBW.out.trans (hdr.mono HBW.out.size))
    have HD2 := Lib.hid (HD.out.trans ((below_drew1 (Below.refl wr.drew.heap.size wr.drew)).mono HD.out.size))
    clear hbw HR HB0 hdr
    by_cases hlx : k < x.size
    · by_cases hly : k < y.size
      · have hN := HN.out
        rw [drop_at x k hlx, drop_at y k hly, bl_cons] at hN
        by_cases hab : x[k].toNat = y[k].toNat
        · have e : x[k] = y[k] := UInt8.toNat_inj.1 hab
          have hq : (((x[k].toNat : Nat) : Int) != ((y[k].toNat : Nat) : Int)) = false := by rw [hab]; simp
          have HN2 := Lib.hid (show Op.bytesLess (x.data.toList.drop (k + 1)) (y.data.toList.drop (k + 1)) = R by
            rw [← hN, e, decide_eq_false (UInt8.lt_irrefl _)]; simp)
          clear hN HN e hab
          go_wp2_with fail
          refine start_ (n := 7) (S := fun _ => True) (ds := []) #[false, false, false, false, false, false, false] (by kernel_rfl) rfl rfl (trivial) (fun hHeld => ?_)
          refine pure_ (i := 0) (N := some 18) (v := ?_) (a' := ?_) #[true, false, false, false, false, false, false] rfl rfl (by kernel_rfl) (fun _ _ _ h => h) (Or.inl ⟨by rfl, ?_⟩) ?_ ?_
          rotate_left
          · intro w'
            go_simp
            with_reducible rfl
          rotate_left
          · simp only [Act.put, List.setIfInBounds_toArray, List.set_cons_zero, List.set_cons_succ, i64_w, i32_w]
            rfl
          refine pure_ (i := 1) (N := some 19) (v := ?_) (a' := ?_) #[true, true, false, false, false, false, false] rfl rfl (by kernel_rfl) (fun _ _ _ h => h) (Or.inl ⟨by rfl, ?_⟩) ?_ ?_
          rotate_left
          · intro w'
            go_simp
            with_reducible rfl
          rotate_left
          · simp only [Act.put, List.setIfInBounds_toArray, List.set_cons_zero, List.set_cons_succ, i64_w, i32_w]
            rfl
          refine pure_ (i := 2) (N := some 20) (v := ?_) (a' := ?_) #[true, true, true, false, false, false, false] rfl rfl (by kernel_rfl) (fun _ _ _ h => h) (Or.inl ⟨by rfl, ?_⟩) ?_ ?_
          rotate_left
          · intro w'
            go_simp
            with_reducible rfl
          rotate_left
          · simp only [Act.put, List.setIfInBounds_toArray, List.set_cons_zero, List.set_cons_succ, i64_w, i32_w]
            rfl
          refine pure_ (i := 3) (N := some 21) (v := ?_) (a' := ?_) #[true, true, true, true, false, false, false] rfl rfl (by kernel_rfl) (fun _ _ _ h => h) (Or.inl ⟨by rfl, ?_⟩) ?_ ?_
          rotate_left
          · intro w'
            go_simp
            with_reducible rfl
          rotate_left
          · simp only [Act.put, List.setIfInBounds_toArray, List.set_cons_zero, List.set_cons_succ, i64_w, i32_w]
            rfl
          refine pure_ (i := 4) (N := some 22) (v := ?_) (a' := ?_) #[true, true, true, true, true, false, false] rfl rfl (by kernel_rfl) (fun _ _ _ h => h) (Or.inl ⟨by rfl, ?_⟩) ?_ ?_
          rotate_left
          · intro w'
            go_simp
            with_reducible rfl
          rotate_left
          · simp only [Act.put, List.setIfInBounds_toArray, List.set_cons_zero, List.set_cons_succ, i64_w, i32_w]
            rfl
          refine pure_ (i := 5) (N := some 23) (v := ?_) (a' := ?_) #[true, true, true, true, true, true, false] rfl rfl (by kernel_rfl) (fun _ _ _ h => h) (Or.inl ⟨by rfl, ?_⟩) ?_ ?_
          rotate_left
          · intro w'
            go_simp
            with_reducible rfl
          rotate_left
          · simp only [Act.put, List.setIfInBounds_toArray, List.set_cons_zero, List.set_cons_succ, i64_w, i32_w]
            rfl
          refine pure_ (i := 6) (N := some 24) (v := ?_) (a' := ?_) #[true, true, true, true, true, true, true] rfl rfl (by kernel_rfl) (fun _ _ _ h => h) (Or.inl ⟨by rfl, ?_⟩) ?_ ?_
          rotate_left
          · intro w'
            go_simp
            with_reducible rfl
          rotate_left
          · simp only [Act.put, List.setIfInBounds_toArray, List.set_cons_zero, List.set_cons_succ, i64_w, i32_w]
            rfl
          refine done_ (by kernel_rfl) ?_
          clear hHeld
          go_wp2_with fail
          go_roundw
          case rel => exact ⟨k + 1, by go_num, by omega, by omega, HD.out, HN2⟩
          case measure => simp [intOf]; omega
        · have hq : (((x[k].toNat : Nat) : Int) != ((y[k].toNat : Nat) : Int)) = true := by simp; omega
          have HN2 := Lib.hid (show decide (x[k].toNat < y[k].toNat) = R by
            rw [← hN, u8_ne hab, u8_lt]; simp)
          clear hN HN hab
          go_wp2_with fail
          refine start_ (n := 7) (S := fun _ => True) (ds := []) #[false, false, false, false, false, false, false] (by kernel_rfl) rfl rfl (trivial) (fun hHeld => ?_)
          refine pure_ (i := 0) (N := some 18) (v := ?_) (a' := ?_) #[true, false, false, false, false, false, false] rfl rfl (by kernel_rfl) (fun _ _ _ h => h) (Or.inl ⟨by rfl, ?_⟩) ?_ ?_
          rotate_left
          · intro w'
            go_simp
            with_reducible rfl
          rotate_left
          · simp only [Act.put, List.setIfInBounds_toArray, List.set_cons_zero, List.set_cons_succ, i64_w, i32_w]
            rfl
          refine pure_ (i := 1) (N := some 19) (v := ?_) (a' := ?_) #[true, true, false, false, false, false, false] rfl rfl (by kernel_rfl) (fun _ _ _ h => h) (Or.inl ⟨by rfl, ?_⟩) ?_ ?_
          rotate_left
          · intro w'
            go_simp
            with_reducible rfl
          rotate_left
          · simp only [Act.put, List.setIfInBounds_toArray, List.set_cons_zero, List.set_cons_succ, i64_w, i32_w]
            rfl
          refine pure_ (i := 2) (N := some 20) (v := ?_) (a' := ?_) #[true, true, true, false, false, false, false] rfl rfl (by kernel_rfl) (fun _ _ _ h => h) (Or.inl ⟨by rfl, ?_⟩) ?_ ?_
          rotate_left
          · intro w'
            go_simp
            with_reducible rfl
          rotate_left
          · simp only [Act.put, List.setIfInBounds_toArray, List.set_cons_zero, List.set_cons_succ, i64_w, i32_w]
            rfl
          refine pure_ (i := 3) (N := some 21) (v := ?_) (a' := ?_) #[true, true, true, true, false, false, false] rfl rfl (by kernel_rfl) (fun _ _ _ h => h) (Or.inl ⟨by rfl, ?_⟩) ?_ ?_
          rotate_left
          · intro w'
            go_simp
            with_reducible rfl
          rotate_left
          · simp only [Act.put, List.setIfInBounds_toArray, List.set_cons_zero, List.set_cons_succ, i64_w, i32_w]
            rfl
          refine pure_ (i := 4) (N := some 22) (v := ?_) (a' := ?_) #[true, true, true, true, true, false, false] rfl rfl (by kernel_rfl) (fun _ _ _ h => h) (Or.inl ⟨by rfl, ?_⟩) ?_ ?_
          rotate_left
          · intro w'
            go_simp
            with_reducible rfl
          rotate_left
          · simp only [Act.put, List.setIfInBounds_toArray, List.set_cons_zero, List.set_cons_succ, i64_w, i32_w]
            rfl
          refine pure_ (i := 5) (N := some 23) (v := ?_) (a' := ?_) #[true, true, true, true, true, true, false] rfl rfl (by kernel_rfl) (fun _ _ _ h => h) (Or.inl ⟨by rfl, ?_⟩) ?_ ?_
          rotate_left
          · intro w'
            go_simp
            with_reducible rfl
          rotate_left
          · simp only [Act.put, List.setIfInBounds_toArray, List.set_cons_zero, List.set_cons_succ, i64_w, i32_w]
            rfl
          refine pure_ (i := 6) (N := some 24) (v := ?_) (a' := ?_) #[true, true, true, true, true, true, true] rfl rfl (by kernel_rfl) (fun _ _ _ h => h) (Or.inl ⟨by rfl, ?_⟩) ?_ ?_
          rotate_left
          · intro w'
            go_simp
            with_reducible rfl
          rotate_left
          · simp only [Act.put, List.setIfInBounds_toArray, List.set_cons_zero, List.set_cons_succ, i64_w, i32_w]
            rfl
          refine done_ (by kernel_rfl) ?_
          clear hHeld
          go_wp2_with fail
          refine start_ (n := 8) (S := fun _ => True) (ds := []) #[false, false, false, false, false, false, false, false] (by kernel_rfl) rfl rfl (trivial) (fun hHeld => ?_)
          refine pure_ (i := 0) (N := some 25) (v := ?_) (a' := ?_) #[true, false, false, false, false, false, false, false] rfl rfl (by kernel_rfl) (fun _ _ _ h => h) (Or.inl ⟨by rfl, ?_⟩) ?_ ?_
          rotate_left
          · intro w'
            go_simp
            with_reducible rfl
          rotate_left
          · simp only [Act.put, List.setIfInBounds_toArray, List.set_cons_zero, List.set_cons_succ, i64_w, i32_w]
            rfl
          refine pure_ (i := 1) (N := some 26) (v := ?_) (a' := ?_) #[true, true, false, false, false, false, false, false] rfl rfl (by kernel_rfl) (fun _ _ _ h => h) (Or.inl ⟨by rfl, ?_⟩) ?_ ?_
          rotate_left
          · intro w'
            go_simp
            with_reducible rfl
          rotate_left
          · simp only [Act.put, List.setIfInBounds_toArray, List.set_cons_zero, List.set_cons_succ, i64_w, i32_w]
            rfl
          refine pure_ (i := 2) (N := some 27) (v := ?_) (a' := ?_) #[true, true, true, false, false, false, false, false] rfl rfl (by kernel_rfl) (fun _ _ _ h => h) (Or.inl ⟨by rfl, ?_⟩) ?_ ?_
          rotate_left
          · intro w'
            go_simp
            with_reducible rfl
          rotate_left
          · simp only [Act.put, List.setIfInBounds_toArray, List.set_cons_zero, List.set_cons_succ, i64_w, i32_w]
            rfl
          refine pure_ (i := 3) (N := some 28) (v := ?_) (a' := ?_) #[true, true, true, true, false, false, false, false] rfl rfl (by kernel_rfl) (fun _ _ _ h => h) (Or.inl ⟨by rfl, ?_⟩) ?_ ?_
          rotate_left
          · intro w'
            go_simp
            with_reducible rfl
          rotate_left
          · simp only [Act.put, List.setIfInBounds_toArray, List.set_cons_zero, List.set_cons_succ, i64_w, i32_w]
            rfl
          refine pure_ (i := 4) (N := some 29) (v := ?_) (a' := ?_) #[true, true, true, true, true, false, false, false] rfl rfl (by kernel_rfl) (fun _ _ _ h => h) (Or.inl ⟨by rfl, ?_⟩) ?_ ?_
          rotate_left
          · intro w'
            go_simp
            with_reducible rfl
          rotate_left
          · simp only [Act.put, List.setIfInBounds_toArray, List.set_cons_zero, List.set_cons_succ, i64_w, i32_w]
            rfl
          refine pure_ (i := 5) (N := some 30) (v := ?_) (a' := ?_) #[true, true, true, true, true, true, false, false] rfl rfl (by kernel_rfl) (fun _ _ _ h => h) (Or.inl ⟨by rfl, ?_⟩) ?_ ?_
          rotate_left
          · intro w'
            go_simp
            with_reducible rfl
          rotate_left
          · simp only [Act.put, List.setIfInBounds_toArray, List.set_cons_zero, List.set_cons_succ, i64_w, i32_w]
            rfl
          refine pure_ (i := 6) (N := some 31) (v := ?_) (a' := ?_) #[true, true, true, true, true, true, true, false] rfl rfl (by kernel_rfl) (fun _ _ _ h => h) (Or.inl ⟨by rfl, ?_⟩) ?_ ?_
          rotate_left
          · intro w'
            go_simp
            with_reducible rfl
          rotate_left
          · simp only [Act.put, List.setIfInBounds_toArray, List.set_cons_zero, List.set_cons_succ, i64_w, i32_w]
            rfl
          refine pure_ (i := 7) (N := some 4) (v := ?_) (a' := ?_) #[true, true, true, true, true, true, true, true] rfl rfl (by kernel_rfl) (fun _ _ _ h => h) (Or.inl ⟨by rfl, ?_⟩) ?_ ?_
          rotate_left
          · intro w'
            go_simp
            with_reducible rfl
          rotate_left
          · simp only [Act.put, List.setIfInBounds_toArray, List.set_cons_zero, List.set_cons_succ, i64_w, i32_w]
            rfl
          refine done_ (by kernel_rfl) ?_
          clear hHeld
          go_wp2_with fail
          go_ret
          rw [HN2.out]
          exact ⟨rfl, HD2.out⟩
      · have HN2 := Lib.hid (show decide (x.size < y.size) = R by
          rw [← HN.out, List.drop_of_length_le (l := y.data.toList) (by rw [← Lib.size_eq]; omega)]
          rw [decide_eq_false (by omega)]
          cases List.drop k x.data.toList <;> rfl)
        clear HN
        go_wp2_with fail
        go_ret
        rw [HN2.out]
        exact ⟨rfl, HBW.out⟩
    · have HN2 := Lib.hid (show decide (x.size < y.size) = R by
        rw [← HN.out, List.drop_of_length_le (l := x.data.toList) (by rw [← Lib.size_eq]; omega)]
        by_cases hly : k < y.size
        · rw [drop_at y k hly, decide_eq_true (by omega)]; rfl
        · rw [List.drop_of_length_le (l := y.data.toList) (by rw [← Lib.size_eq]; omega), decide_eq_false (by omega)]; rfl)
      clear HN
      go_wp2_with fail
      go_ret
      rw [HN2.out]
      exact ⟨rfl, HBW.out⟩
end Go.Proofs.Ytfemjlhfgmbcmaa

namespace Go.Proofs.Ytfemjlhfgmbcmaa
open Go.RowKit Go.Shelf Go.Proofs.YtfemjlhfgmbcmaaW.PrintWords Go.Proofs.YtfemjlhfgmbcmaaW.PrintLast Go.Proofs.YtfemjlhfgmbcmaaW.PrintMore
open Go.Proofs.Ytfemjlhfgmbcmaa.PRunBuilds
set_option linter.unusedVariables false
set_option linter.unusedSimpArgs false
attribute [local go_sem ↓] Go.wp_at_zero Go.wp_at_succ

theorem row54 {w : World} {A : Option Addr} {n : Nat} {xs : List S54} (h : Kd.C k54 w A n xs) (i : Int) (h0 : 0 ≤ i) (h1 : i < n) : ∃ ad, A = some ad ∧ w.cell? (ad.add (i.toNat * 3)) = some (.string (rd_T54 xs i).f0) ∧ ∀ t u, [Value.string (rd_T54 xs i).f0, .string (rd_T54 xs i).f1.f0, .bool (rd_T54 xs i).f1.f1][t]? = some u → w.cell? ((ad.add (i.toNat * 3)).add t) = some u := by
  obtain ⟨ad, c, e, _, hK, hc0⟩ := Kd.C_get h z54 i h0 h1
  have hc : ∀ j u, c[j]? = some u → w.cell? (ad.add (i.toNat * 3 + j)) = some u := hc0
  obtain rfl := k54_open hK
  refine ⟨ad, e, hc 0 _ rfl, fun t u hu => ?_⟩
  rw [show (ad.add (i.toNat * 3)).add t = ad.add (i.toNat * 3 + t) by rw [Addr.add_add]]
  exact hc t u hu
theorem rd_toR (l : List S54) (j : Int) (h0 : 0 ≤ j) (h1 : j < l.length) : toR (rd_T54 l j) = (l.map toR).getD j.toNat rz := by
  unfold rd_T54
  rw [List.getD_eq_getElem?_getD, List.getD_eq_getElem?_getD, List.getElem?_map, List.getElem?_eq_getElem (show j.toNat < l.length by omega)]; rfl
theorem row54r {w : World} {A : Option Addr} {l : List S54} (h : Kd.C k54 w A l.length l) (i : Int) (h0 : 0 ≤ i) (h1 : i < l.length) : ∃ ad x, A = some ad ∧ (l.map toR).getD i.toNat rz = x ∧ w.cell? (ad.add (i.toNat * 3)) = some (.string x.k) ∧ ∀ t u, [Value.string x.k, .string x.s, .bool x.gone][t]? = some u → w.cell? ((ad.add (i.toNat * 3)).add t) = some u := by
  obtain ⟨ad, h2, h3, h4⟩ := row54 h i h0 h1
  exact ⟨ad, _, h2, rfl, by rw [← rd_toR l i h0 h1]; exact h3, by rw [← rd_toR l i h0 h1]; exact h4⟩
theorem goB_fold (b : Int) : ∀ (l : List RRow) (last : Option ByteArray) (m : MS), (goB b l last m).1 = 0 → (goB b l last m).2 = l.foldl (addS b) m := by
  intro l
  induction l with
  | nil => intro last m _; rfl
  | cons x r ih =>
    intro last m h
    by_cases hx : rowE last x = 0
    · have e : goB b (x :: r) last m = goB b r (some x.k) (addS b m x) := by show (if rowE last x = 0 then _ else _) = _; rw [if_pos hx]
      rw [e] at h ⊢
      exact ih _ _ h
    · have e : goB b (x :: r) last m = (rowE last x, m) := by show (if rowE last x = 0 then _ else _) = _; rw [if_neg hx]
      rw [e] at h
      exact absurd h hx
theorem goB_may (b : Int) : ∀ (l : List RRow) (last : Option ByteArray) (m : MS), (goB b l last m).1 = 0 → ∀ x ∈ l, mayN x = 0 := by
  intro l
  induction l with
  | nil => intro last m _ x hx; cases hx
  | cons y r ih =>
    intro last m h
    by_cases hy : rowE last y = 0
    · have e : goB b (y :: r) last m = goB b r (some y.k) (addS b m y) := by show (if rowE last y = 0 then _ else _) = _; rw [if_pos hy]
      rw [e] at h
      intro x hx
      rcases List.mem_cons.1 hx with rfl | hx
      · unfold rowE at hy
        by_cases hm : mayN x = 0
        · exact hm
        · rw [if_neg hm] at hy; exact absurd hy hm
      · exact ih _ _ h x hx
    · have e : goB b (y :: r) last m = (rowE last y, m) := by show (if rowE last y = 0 then _ else _) = _; rw [if_neg hy]
      rw [e] at h
      exact absurd h hy
theorem mayN_sz {x : RRow} (h : mayN x = 0) : x.k.size ≤ 64 ∧ x.s.size ≤ 16384 := by
  unfold mayN at h
  by_cases h1 : 64 < x.k.size ∨ 16384 < x.s.size
  · rw [if_pos h1] at h; cases h
  · omega
theorem lastL_take (rows : List RRow) (j : Nat) (h : j < rows.length) : lastL none (rows.take (j + 1)) = some (rows.getD j rz).k := by
  rw [take_snoc rows j h, lastL_snoc]
theorem closeS_again {m : MS} (h : m.load.size = 0) : closeS m = m := by unfold closeS; rw [if_pos h]
theorem fold_close {b : Int} (hb : 64 ≤ b) (m : MS) (rows : List RRow) (j : Nat) (h : rows.length ≤ j ∨ b ≤ m.load.size) : closeS ((rows.drop j).foldl (addS b) (closeS m)) = closeS ((rows.drop j).foldl (addS b) m) := by
  rcases h with h | h
  · rw [List.drop_of_length_le h]; exact closeS_again (closeS_load m)
  · cases hd : rows.drop j with
    | nil => exact closeS_again (closeS_load m)
    | cons x r =>
      show closeS (r.foldl (addS b) (addS b (closeS m) x)) = closeS (r.foldl (addS b) (addS b m x))
      have e : addS b (closeS m) x = addS b m x := by
        unfold addS; rw [if_pos h, if_neg (by rw [closeS_load]; omega)]
      rw [e]
theorem drop_getD' (rows : List RRow) (j : Nat) (h : j < rows.length) : rows.drop j = rows.getD j rz :: rows.drop (j + 1) := by
  rw [List.drop_eq_getElem_cons h, List.getD_eq_getElem?_getD, List.getElem?_eq_getElem h]; rfl
theorem OwnsM.grown {W W' : World} {base n : Nat} {v : Value} {xs : List Value} {o : Option Nat} (h : OwnsM W base v n xs) (hg : W.grownBy W' o) (hne : ∀ k, v.ownBlock = some k → o ≠ some k) : OwnsM W' base v n xs := by
  refine ⟨h.1, ?_⟩
  rcases h.2 with hn | ⟨g, cap, cur, fz, rfl, hb, hg2, rest⟩
  · exact .inl hn
  · exact .inr ⟨g, cap, cur, fz, rfl, hb, (hg.block g (Array.getElem?_eq_some_iff.1 hg2).1 (fun e => hne g rfl e.symm)).trans hg2, rest⟩
theorem OwnsM.lt {W : World} {base n : Nat} {v : Value} {xs : List Value} (h : OwnsM W base v n xs) (k : Nat) (hk : v.ownBlock = some k) : k < W.heap.size := by
  rcases h.2 with ⟨rfl, _⟩ | ⟨g, cap, cur, fz, rfl, hb, hg, _⟩
  · simp [Value.ownBlock] at hk
  · simp [Value.ownBlock] at hk
    subst hk
    exact (Array.getElem?_eq_some_iff.1 hg).1
theorem dis_left {W : World} {base n : Nat} {v v2 u : Value} {xs : List Value} (h : ∀ k, v.ownBlock = some k → u.ownBlock ≠ some k) (hn : v2.ownBlock = v.ownBlock ∨ ∃ b, v2.ownBlock = some b ∧ W.heap.size ≤ b) (hu : OwnsM W base u n xs) : ∀ k, v2.ownBlock = some k → u.ownBlock ≠ some k := by
  intro k hk hk2
  rcases hn with e | ⟨b, e, hb⟩
  · exact h k (e ▸ hk) hk2
  · have := hu.lt k hk2
    rw [e] at hk
    injection hk with hk
    omega
theorem dis_right {W : World} {base n : Nat} {v u u2 : Value} {xs : List Value} (h : ∀ k, v.ownBlock = some k → u.ownBlock ≠ some k) (hn : u2.ownBlock = u.ownBlock ∨ ∃ b, u2.ownBlock = some b ∧ W.heap.size ≤ b) (hv : OwnsM W base v n xs) : ∀ k, v.ownBlock = some k → u2.ownBlock ≠ some k := by
  intro k hk hk2
  rcases hn with e | ⟨b, e, hb⟩
  · exact h k hk (e ▸ hk2)
  · have := hv.lt k hk
    rw [e] at hk2
    injection hk2 with hk2
    omega
theorem rowB_le2 (x : RRow) (h : mayN x = 0) : (rowB x).size ≤ 16600 := by
  have h1 := mayN_sz h
  have h2 := (encB_le x.k.size (by omega)).1
  have h3 := (encB_le x.s.size (by omega)).1
  rw [rowB_size]
  omega
theorem putR_le (t : ByteArray) : (putR 3 t).1.size ≤ 65600 := by
  unfold putR
  by_cases h : 65536 < t.size
  · rw [if_pos h]; show (0 : Nat) ≤ _; omega
  · rw [if_neg h]
    have h1 := (encB_le t.size (by omega)).1
    have h2 : (fourB (sumN (bodyB 3 t))).size = 4 := rfl
    have h3 : (bodyB 3 t).size = 1 + ((encB t.size).size + t.size) := by unfold bodyB; rw [ByteArray.size_append, ByteArray.size_append]; rfl
    show (fourB (sumN (bodyB 3 t)) ++ bodyB 3 t).size ≤ _
    rw [ByteArray.size_append, h2, h3]
    omega
theorem OwnsM.nil (W : World) (base : Nat) : OwnsM W base (.slice none 0 0) 0 [] := ⟨rfl, .inl ⟨rfl, rfl⟩⟩
end Go.Proofs.Ytfemjlhfgmbcmaa

namespace Go.Proofs.Ytfemjlhfgmbcmaa
open Go.RowKit Go.Shelf Go.Proofs.YtfemjlhfgmbcmaaW.PrintWords Go.Proofs.YtfemjlhfgmbcmaaW.PrintLast Go.Proofs.YtfemjlhfgmbcmaaW.PrintMore
open Go.Proofs.Ytfemjlhfgmbcmaa.PRunBuilds
set_option linter.unusedVariables false
set_option linter.unusedSimpArgs false
attribute [local go_sem] Oper.semAt_some
attribute [local go_sem ↓] Go.wp_at_zero Go.wp_at_succ

/-- What From gives: a func value over the run and the key. -/
theorem From_calls (q : Option Addr) (k : ByteArray) (w : World) : Calls Try.prog 36 #[.pointer q, .string k] w fun e w' => ∃ rb kb, e = .returned (.func (.func 75) #[] #[.pointer (some ⟨rb, 0, none⟩), .pointer (some ⟨kb, 0, none⟩)]) ∧ w'.heap[rb]? = some (.cells #[.pointer q] 36 (0, 0)) ∧ w'.heap[kb]? = some (.cells #[.string k] 9 (0, 0)) ∧ Below w.heap.size w w' ∧ rb = w.heap.size ∧ kb = w.heap.size + 1 ∧ w'.heap.size = w.heap.size + 2 := by
  have HB := Lib.hid (below_alloc (below_alloc (Below.refl w.heap.size w) (.cells #[.pointer q] 36)) (.cells #[.string k] 9))
  have HZ := Lib.hid (show ((w.alloc (.cells #[.pointer q] 36)).alloc (.cells #[.string k] 9)).heap.size = w.heap.size + 2 by rw [World.size_alloc, World.size_alloc])
  have H1 := Lib.hid (show ((w.alloc (.cells #[.pointer q] 36)).alloc (.cells #[.string k] 9)).heap[w.heap.size]? = some (.cells #[.pointer q] 36 (0, 0)) from blk_alloc (blk_new w _) _)
  have H2 := Lib.hid (show ((w.alloc (.cells #[.pointer q] 36)).alloc (.cells #[.string k] 9)).heap[w.heap.size + 1]? = some (.cells #[.string k] 9 (0, 0)) from heap_alloc2_new w _ _)
  go_enter Try.func36, Try.ntmps36
  go_wp2_with fail
  go_ret
  exact ⟨w.heap.size, w.heap.size + 1, rfl, H1.out, H2.out, HB.out, rfl, rfl, HZ.out⟩
theorem FromNil_in (n l rb kb : Nat) (hn : 1 ≤ n) (W : World) (h1 : W.heap[rb]? = some (.cells #[.pointer none] 36 (0, 0))) : CallsIn Fence.wide n Try.prog 75 #[.func (.yield l) #[] #[], .pointer (some ⟨rb, 0, none⟩), .pointer (some ⟨kb, 0, none⟩)] W fun e W' => (∃ v, e = .returned v) ∧ W' = W := by
  have i1 : W.cell? ⟨rb, 0, none⟩ = some (.pointer none) := (blk_cell h1 0).trans rfl
  refine callsIn_of_wp Try.func75 rfl trivial ?_ rfl
  simp only [Try.ntmps75, List.size_toArray, List.length_cons, List.length_nil, Nat.reduceAdd, Nat.reduceSub, Array.replicate_succ, Array.replicate_zero, List.push_toArray, List.append_toArray, List.nil_append, List.cons_append]
  gi_wp2
  refine bodyPost_ret (results_none rfl _ _ _) rfl ?_
  exact ⟨⟨_, rfl⟩, rfl⟩
end Go.Proofs.Ytfemjlhfgmbcmaa

namespace Go.Proofs.Ytfemjlhfgmbcmaa
open Go.RowKit Go.Shelf Go.Proofs.YtfemjlhfgmbcmaaW.PrintWords Go.Proofs.YtfemjlhfgmbcmaaW.PrintLast Go.Proofs.YtfemjlhfgmbcmaaW.PrintMore
open Go.Proofs.Ytfemjlhfgmbcmaa.PRunBuilds
set_option linter.unusedVariables false
set_option linter.unusedSimpArgs false
set_option linter.unnecessarySimpa false
attribute [local go_sem] Oper.semAt_some
attribute [local go_sem ↓] Go.wp_at_zero Go.wp_at_succ

/-- A call of a func value that carries what it saw. -/
theorem goesV_ {P : Program} {ops : Array Oper} {Q : Exit → Act → World → Prop} {oi : Oper} {N : Option Tmp} {a : Act} {w : World} {K : Act → World → Prop} {f : FuncId} {fn : Func} {as_ : Array Operand} {ts : Array TypeId} (hf : P.funcs[f]? = some fn) (hname : (fn.name == "runtime.NumGoroutine") = false) (hb : fn.body.isSome = true) (args caps : Array Value) (x : Operand)
    (hw : Region.wanted oi (yielded ops a.tmps) = true) (hN : oi.dst = N) (hop : oi.op = .call { callee := .value x, args := as_, argTypes := ts }) (hx : a.eval x = .func (.func f) #[] caps) (hargs : as_.map a.eval = args)
    (h : Calls P f (args ++ caps) w fun e w' => ∃ v, e = .returned v ∧ K (a.put N v) w') : if Region.wanted oi (yielded ops a.tmps) = true then Oper.wp P oi a w K Q else K (a.put N undef) w := by
  refine call_ f (args ++ caps) hw hN ?_ h
  have he := enters_ hf hname hb (args ++ caps) w
  unfold execOp
  simp [hop, resolve, Deferred.ofValue, invoke, hx, hargs, he]

theorem one3 {a b c : Value} (h1 : a.oneCell' = true) (h2 : b.oneCell' = true) (h3 : c.oneCell' = true) : ∀ q ∈ (#[a, b, c] : Array Value).toList, q.oneCell' = true := by
  intro q hq
  simp only [List.mem_cons, List.not_mem_nil, or_false] at hq
  rcases hq with rfl | rfl | rfl <;> assumption
set_option maxRecDepth 100000 in
set_option maxHeartbeats 8000000 in
theorem From1_in (n l rb kb g bx : Nat) (hn : 1 ≤ n) (rows : List RRow) (hmax : rows.length ≤ 1048576) (A : Option Addr) (cA base : Nat) (bn : Value) (k : ByteArray) (S : Nat → Prop) (W : World)
    (h1 : W.heap[rb]? = some (.cells #[.pointer (some ⟨g, 0, none⟩)] 36 (0, 0))) (h2 : W.heap[kb]? = some (.cells #[.string k] 9 (0, 0)))
    (hg : W.heap[g]? = some (.cells #[.slice A rows.length cA, bn, .func (.func 88) #[] #[.pointer (some ⟨bx, 0, none⟩)]] 121 (0, 0))) (hbx : W.heap[bx]? = some (.cells #[.pointer (some ⟨g, 0, none⟩)] 36 (0, 0)))
    (hF : Kd.F kR W (fun q => ¬ S q) A rows.length rows) (hso : sortedB rows = true) (hcap : rows.length ≤ cA)
    (J : Nat → World → Prop) (Jx : World → Prop) (hJ : ∀ j W1 W2, J j W1 → Below W1.heap.size W1 W2 → J j W2)
    (hY : ∀ (j : Nat) (W1 : World), J j W1 → findI rows k ≤ j → j < rows.length → W.heap.size ≤ W1.heap.size → YieldAt Fence.wide (n - 1) Try.prog l #[.string (rows.getD j rz).k, .agg #[.string (rows.getD j rz).s, .bool (rows.getD j rz).gone]] W1 fun e W' =>
      (e = .returned (.bool true) ∧ J (j + 1) W' ∧ Kept W1 W' S) ∨ (e = .returned (.bool false) ∧ Jx W'))
    (h0 : J (findI rows k) W) : CallsIn Fence.wide n Try.prog 75 #[.func (.yield l) #[] #[], .pointer (some ⟨rb, 0, none⟩), .pointer (some ⟨kb, 0, none⟩)] W fun e W' => (∃ v, e = .returned v) ∧ (J rows.length W' ∨ Jx W') := by
  have i1 : W.cell? ⟨rb, 0, none⟩ = some (.pointer (some ⟨g, 0, none⟩)) := (blk_cell h1 0).trans rfl
  have i2 : W.cell? ⟨kb, 0, none⟩ = some (.string k) := (blk_cell h2 0).trans rfl
  have i3 : W.cell? ⟨g, 0, none⟩ = some (.slice A rows.length cA) := (blk_cell hg 0).trans rfl
  have i4 : W.cell? ⟨g, 2, none⟩ = some (.func (.func 88) #[] #[.pointer (some ⟨bx, 0, none⟩)]) := (blk_cell hg 2).trans rfl
  have HI := Lib.hid (⟨i1, i2, i3, i4⟩ : _ ∧ _ ∧ _ ∧ _)
  have HC := Lib.hid (fun (W1 : World) (hb : Below W.heap.size W W1) => find_calls g base 0 bx rows k W1 A cA _ _ (blk_below hg hb) (blk_below hbx hb) (Kd.C_below (Kd.F_now hF) hb) hmax hso)
  have HY := Lib.hid hY
  have H0 := Lib.hid h0
  have HJ := Lib.hid hJ
  have HF := Lib.hid hF
  have HX := Lib.hid hmax
  have HCA := Lib.hid hcap
  obtain ⟨F, hFi⟩ : ∃ F, F = findI rows k := ⟨_, rfl⟩
  have HFL := Lib.hid (show F ≤ rows.length by rw [hFi]; exact findI_le rows k)
  rw [← hFi] at HY H0 HC
  obtain ⟨m, hm⟩ : ∃ m, m = rows.length - F := ⟨_, rfl⟩
  have HM := Lib.hid hm
  obtain ⟨B, hB⟩ : ∃ B, B = if cA = F then A else A.map (fun x => x.add (F * 3)) := ⟨_, rfl⟩
  have HBD := Lib.hid hB
  clear hm hB
  clear hY h0 h1 h2 hg hbx hF hso hmax hcap hJ hFi
  refine callsIn_of_wp Try.func75 rfl trivial ?_ rfl
  simp only [Try.ntmps75, List.size_toArray, List.length_cons, List.length_nil, Nat.reduceAdd, Nat.reduceSub, Array.replicate_succ, Array.replicate_zero, List.push_toArray, List.append_toArray, List.nil_append, List.cons_append]
  gi_wp2
  refine wpIn_wide.2 ?_
  refine start_ (n := 13) (S := fun w' => w'.cell? ⟨rb, 0, none⟩ = some (.pointer (some ⟨g, 0, none⟩)) ∧ w'.cell? ⟨kb, 0, none⟩ = some (.string k) ∧ w'.cell? ⟨g, 0, none⟩ = some (.slice A rows.length cA) ∧ w'.cell? ⟨g, 2, none⟩ = some (.func (.func 88) #[] #[.pointer (some ⟨bx, 0, none⟩)])) (ds := []) #[false, false, false, false, false, false, false, false, false, false, false, false, false] (by kernel_rfl) rfl rfl (HI.out) (fun hHeld => ?_)
  refine take_ (i := 0) (N := some 8) (v := ?_) (a' := ?_) #[true, false, false, false, false, false, false, false, false, false, false, false, false] rfl rfl (by kernel_rfl) (fun _ _ _ h => h) (Or.inl ⟨by rfl, ?_⟩) hHeld ?_ ?_
  rotate_left
  · rintro w' ⟨s0, s1, s2, s3⟩
    go_simp
    with_reducible rfl
  rotate_left
  · simp only [Act.put, List.setIfInBounds_toArray, List.set_cons_zero, List.set_cons_succ, i64_w, i32_w]
    rfl
  refine pure_ (i := 1) (N := some 9) (v := ?_) (a' := ?_) #[true, true, false, false, false, false, false, false, false, false, false, false, false] rfl rfl (by kernel_rfl) (fun _ _ _ h => h) (Or.inl ⟨by rfl, ?_⟩) ?_ ?_
  rotate_left
  · intro w'
    go_simp
    with_reducible rfl
  rotate_left
  · simp only [Act.put, List.setIfInBounds_toArray, List.set_cons_zero, List.set_cons_succ, i64_w, i32_w]
    rfl
  refine pure_ (i := 2) (N := some 10) (v := ?_) (a' := ?_) #[true, true, true, false, false, false, false, false, false, false, false, false, false] rfl rfl (by kernel_rfl) (fun _ _ _ h => h) (Or.inl ⟨by rfl, ?_⟩) ?_ ?_
  rotate_left
  · intro w'
    go_simp
    with_reducible rfl
  rotate_left
  · simp only [Act.put, List.setIfInBounds_toArray, List.set_cons_zero, List.set_cons_succ, i64_w, i32_w]
    rfl
  refine take_ (i := 3) (N := some 11) (v := ?_) (a' := ?_) #[true, true, true, true, false, false, false, false, false, false, false, false, false] rfl rfl (by kernel_rfl) (fun _ _ _ h => h) (Or.inl ⟨by rfl, ?_⟩) hHeld ?_ ?_
  rotate_left
  · rintro w' ⟨s0, s1, s2, s3⟩
    go_simp
    with_reducible rfl
  rotate_left
  · simp only [Act.put, List.setIfInBounds_toArray, List.set_cons_zero, List.set_cons_succ, i64_w, i32_w]
    rfl
  refine take_ (i := 4) (N := some 12) (v := ?_) (a' := ?_) #[true, true, true, true, true, false, false, false, false, false, false, false, false] rfl rfl (by kernel_rfl) (fun _ _ _ h => h) (Or.inl ⟨by rfl, ?_⟩) hHeld ?_ ?_
  rotate_left
  · rintro w' ⟨s0, s1, s2, s3⟩
    go_simp
    with_reducible rfl
  rotate_left
  · simp only [Act.put, List.setIfInBounds_toArray, List.set_cons_zero, List.set_cons_succ, i64_w, i32_w]
    rfl
  refine pure_ (i := 5) (N := some 13) (v := ?_) (a' := ?_) #[true, true, true, true, true, true, false, false, false, false, false, false, false] rfl rfl (by kernel_rfl) (fun _ _ _ h => h) (Or.inl ⟨by rfl, ?_⟩) ?_ ?_
  rotate_left
  · intro w'
    go_simp
    with_reducible rfl
  rotate_left
  · simp only [Act.put, List.setIfInBounds_toArray, List.set_cons_zero, List.set_cons_succ, i64_w, i32_w]
    rfl
  refine pure_ (i := 6) (N := some 14) (v := ?_) (a' := ?_) #[true, true, true, true, true, true, true, false, false, false, false, false, false] rfl rfl (by kernel_rfl) (fun _ _ _ h => h) (Or.inl ⟨by rfl, ?_⟩) ?_ ?_
  rotate_left
  · intro w'
    go_simp
    with_reducible rfl
  rotate_left
  · simp only [Act.put, List.setIfInBounds_toArray, List.set_cons_zero, List.set_cons_succ, i64_w, i32_w]
    rfl
  refine take_ (i := 7) (N := some 15) (v := ?_) (a' := ?_) #[true, true, true, true, true, true, true, true, false, false, false, false, false] rfl rfl (by kernel_rfl) (fun _ _ _ h => h) (Or.inl ⟨by rfl, ?_⟩) hHeld ?_ ?_
  rotate_left
  · rintro w' ⟨s0, s1, s2, s3⟩
    go_simp
    with_reducible rfl
  rotate_left
  · simp only [Act.put, List.setIfInBounds_toArray, List.set_cons_zero, List.set_cons_succ, i64_w, i32_w]
    rfl
  refine take_ (i := 8) (N := some 16) (v := ?_) (a' := ?_) #[true, true, true, true, true, true, true, true, true, false, false, false, false] rfl rfl (by kernel_rfl) (fun _ _ _ h => h) (Or.inl ⟨by rfl, ?_⟩) hHeld ?_ ?_
  rotate_left
  · rintro w' ⟨s0, s1, s2, s3⟩
    go_simp
    with_reducible rfl
  rotate_left
  · simp only [Act.put, List.setIfInBounds_toArray, List.set_cons_zero, List.set_cons_succ, i64_w, i32_w]
    rfl
  refine pure_ (i := 12) (N := some 20) (v := ?_) (a' := ?_) #[true, true, true, true, true, true, true, true, true, false, false, false, true] rfl rfl (by kernel_rfl) (fun _ _ _ h => h) (Or.inl ⟨by rfl, ?_⟩) ?_ ?_
  rotate_left
  · intro w'
    go_simp
    with_reducible rfl
  rotate_left
  · simp only [Act.put, List.setIfInBounds_toArray, List.set_cons_zero, List.set_cons_succ, i64_w, i32_w]
    rfl
  refine one_ (i := 9) (N := some 17) #[true, true, true, true, true, true, true, true, true, true, false, false, true] rfl rfl (by kernel_rfl) (by decide) (fun K hK => ?_)
  refine goesV_ Try.func88 (by kernel_rfl) rfl #[.string k] #[.pointer (some ⟨bx, 0, none⟩)] (.tmp 15) (by rfl) rfl rfl rfl (by simp only [List.map_toArray, List.map_cons, List.map_nil]; rfl) ?_
  refine (HC.out _ (below_drew1 (Below.refl _ _))).mono ?_
  rintro e w3 ⟨rfl, hb3⟩
  refine ⟨_, rfl, ?_⟩
  have HB3 := Lib.hid ((below_drew1 (Below.refl W.heap.size W)).trans (hb3.mono (below_drew1 (Below.refl W.heap.size W)).size))
  clear hb3
  refine hK.out _ _ (⟨pw_cell_below HB3.out HI.out.1, pw_cell_below HB3.out HI.out.2.1, pw_cell_below HB3.out HI.out.2.2.1, pw_cell_below HB3.out HI.out.2.2.2⟩) (fun hHeld => ?_)
  clear hK K
  refine norm_ (a' := ?_) ?_ ?_
  rotate_left
  · show Act.put _ (some 17) _ = _
    simp only [Act.put, List.setIfInBounds_toArray, List.set_cons_zero, List.set_cons_succ, i64_w, i32_w]
    rfl
  refine pure_ (i := 10) (N := some 18) (v := .slice B m (cA - F)) (a' := ?_) #[true, true, true, true, true, true, true, true, true, true, true, false, true] rfl rfl (by kernel_rfl) (fun _ _ _ h => h) (Or.inl ⟨by rfl, ?_⟩) ?_ ?_
  · intro w'
    go_simp
    rw [if_pos HFL.out, HBD.out, HM.out]
  rotate_left
  · simp only [Act.put, List.setIfInBounds_toArray, List.set_cons_zero, List.set_cons_succ, i64_w, i32_w]
    rfl
  refine pure_ (i := 11) (N := some 19) (v := ?_) (a' := ?_) #[true, true, true, true, true, true, true, true, true, true, true, true, true] rfl rfl (by kernel_rfl) (fun _ _ _ h => h) (Or.inl ⟨by rfl, ?_⟩) ?_ ?_
  rotate_left
  · intro w'
    go_simp
    with_reducible rfl
  rotate_left
  · simp only [Act.put, List.setIfInBounds_toArray, List.set_cons_zero, List.set_cons_succ, i64_w, i32_w]
    rfl
  refine done_ (by kernel_rfl) ?_
  clear hHeld
  gi_wp2
  have hmb : m ≤ 1048576 := by have := HM.out; have := HX.out; omega
  gi_loopw [20] (fun iv W1 => ∃ j : Int, iv = .int .i64 j ∧ 0 ≤ j ∧ j ≤ m ∧ J (F + j.toNat) W1 ∧ W.heap.size ≤ W1.heap.size ∧ Kd.F kR W1 (fun q => ¬ S q) A rows.length rows) (fun iv _ => m - (intOf iv).toNat)
  case atStart => exact ⟨0, rfl, Int.le_refl _, by omega, HJ.out _ _ _ H0.out HB3.out, HB3.out.size, Kd.F_below HF.out HB3.out⟩
  case round =>
    clear H0 HC HI HB3
    obtain ⟨j, rfl, hj0, hj, hjj, hws, hfa⟩ := hrel
    have HJJ := Lib.hid hjj
    have HWS := Lib.hid hws
    have HFA := Lib.hid hfa
    by_cases hlt : j < (m : Int)
    · have hjl : F + j.toNat < rows.length := by have := HM.out; omega
      obtain ⟨ad, c1, hA2, _, hK1, hc1, _⟩ := Kd.F_get hfa rz ((F : Int) + j) (by omega) (by omega)
      obtain rfl := kR_open (Kd.FK_now hK1)
      rw [show ((F : Int) + j).toNat = F + j.toNat by omega] at hc1
      have hBs : B = some (ad.add (F * 3)) := by
        rw [HBD.out, if_neg (by have := HCA.out; omega), hA2]; rfl
      obtain ⟨D, hD⟩ : ∃ D, D = ad.add (F * 3) := ⟨_, rfl⟩
      rw [← hD] at hBs
      subst hBs
      obtain ⟨x, hx⟩ : ∃ x, x = rows.getD (F + j.toNat) rz := ⟨_, rfl⟩
      rw [← hx] at hc1
      have HCS := Lib.hid (fun t u h => (by rw [hD, add_add, add_add, show F * 3 + (j.toNat * 3 + t) = (F + j.toNat) * kR.sz + t by show _ = (F + j.toNat) * 3 + t; omega]; exact hc1 t u h) : ∀ t u, [Value.string x.k, .string x.s, .bool x.gone][t]? = some u → wr.cell? ((D.add (j.toNat * 3)).add t) = some u)
      have HYJ := Lib.hid (fun W1 hJ1 hw1 => HY.out (F + j.toNat) W1 hJ1 (Nat.le_add_right _ _) hjl hw1)
      rw [← hx] at HYJ
      have hjb : j ≤ 1048576 := by omega
      clear hjj hws hfa hc1 hK1 hx hA2 hD hj hjl
      obtain ⟨xk, xs, xg⟩ := x
      dsimp only at HCS HYJ
      gi_wp2_with (first | ((with_reducible refine gate_dstIn (N := 23) rfl ?_); refine wpListIn_load_at rfl 123 (.tmp 22) rfl (D.add (j.toNat * 3)) rfl _ _ HCS.out Try.underlying123 rfl (by kernel_rfl) ?_) | ((with_reducible refine gate_dstIn (N := 5) rfl ?_); refine box_eventIn ?hg (N := 5) ?hd (cs := #[.string ⟨#[]⟩, .string ⟨#[]⟩, .bool false]) (t := 123) ?ha ?hdf ?hr ?_; (case hd => rfl); (case hg => rfl); (case ha => rfl); (case hdf => intro c hc; cases hc); (case hr => first | (go_simp; done) | (go_simp; rfl)); intro gb hgb w5 hz5 hb5 _; have HZ5 := Lib.hid hz5; have HB5 := Lib.hid hb5; have HGB := Lib.hid hgb; clear hgb hz5 hb5) | (refine wpListIn_store_row rfl rfl 123 (.tmp 5) (.tmp 23) rfl (g := gb) rfl rfl HZ5.out (by kernel_rfl) rfl (one3 rfl rfl rfl) ?_; intro w6 hz6 hg6; have HZ6 := Lib.hid hz6; have HG6 := Lib.hid hg6; have c60 := (blk_cell hz6 0).trans rfl; have HC6 := Lib.hid (fun t u h => (by rw [add_at]; exact (blk_cell hz6 (1 + t)).trans (by rcases t with _ | _ | t <;> simpa using h)) : ∀ t u, [Value.string xs, .bool xg][t]? = some u → w6.cell? ((⟨gb, 1, none⟩ : Addr).add t) = some u); have hb6 := HB5.out.grown hg6 HB5.out.size (fun q e => by have := HGB.out; injection e with e; omega); have HB6 := Lib.hid hb6; have HF6 := Lib.hid (Kd.F_below HFA.out hb6); obtain ⟨fn, tmps, assign, body, hy, hR⟩ := HYJ.out w6 (HJ.out _ _ _ HJJ.out hb6) (by have := HWS.out; have := hb6.size; omega); clear hz6 hg6 hb6) | ((with_reducible refine gate_dstIn (N := 28) rfl ?_); refine wpListIn_load_at rfl 38 (.tmp 27) rfl ⟨gb, 1, none⟩ rfl _ _ HC6.out Try.underlying38 rfl (by kernel_rfl) ?_))
      refine hR.mono ?_
      rintro e W3 (⟨rfl, hJ3, hk3⟩ | ⟨rfl, hJx3⟩)
      · have hf3 := Kd.F_kept HF6.out hk3 (fun k hk => hk)
        have HF3 := Lib.hid hf3
        have HS3 := Lib.hid (show W.heap.size ≤ W3.heap.size by have := HWS.out; have := HB6.out.size; have := hk3.1; omega)
        have HJ3 := Lib.hid hJ3
        clear hf3 hk3 hJ3
        gi_wp2
        go_roundw
        case rel => exact ⟨j + 1, by go_num, by omega, by omega, by rw [show F + (j + 1).toNat = F + j.toNat + 1 by omega]; exact HJ3.out, HS3.out, HF3.out⟩
        case measure => simp [intOf]; omega
      · have HJX := Lib.hid hJx3
        clear hJx3
        gi_wp2
        refine bodyPost_ret (results_none rfl _ _ _) rfl ?_
        exact ⟨⟨_, rfl⟩, .inr HJX.out⟩
    · obtain rfl : j = m := by omega
      rw [Int.toNat_natCast] at hjj
      have HJE := Lib.hid (show J rows.length wr by rwa [show F + m = rows.length by have := HM.out; have := HFL.out; omega] at hjj)
      clear hjj hws hfa hj HJJ HWS
      gi_wp2
      go_end0
      exact ⟨⟨_, rfl⟩, .inl HJE.out⟩
end Go.Proofs.Ytfemjlhfgmbcmaa

namespace Go.Proofs.Ytfemjlhfgmbcmaa
open Go.RowKit Go.Shelf Go.Proofs.YtfemjlhfgmbcmaaW.PrintWords Go.Proofs.YtfemjlhfgmbcmaaW.PrintLast Go.Proofs.YtfemjlhfgmbcmaaW.PrintMore
open Go.Proofs.Ytfemjlhfgmbcmaa.PRunBuilds
set_option linter.unusedVariables false
set_option linter.unusedSimpArgs false
attribute [local go_sem ↓] Go.wp_at_zero Go.wp_at_succ

/-- What was built opens as it was. -/
structure BuiltOk (b : Int) (rows : List RRow) (n : Nat) : Prop where
  opens : openF (buildF b rows).1 = some (rows, n)
  size : (buildF b rows).1.size ≤ maxLen
  many : n = (closeS (goB b rows none ms0).2).many
  le : n ≤ rows.length
  zero : rows.length = 0 ↔ n = 0
  sorted : sortedB rows = true
  lo : 64 ≤ b
  hi : b ≤ 4096
  good : (goB b rows none ms0).1 = 0
theorem built_ok (b : Int) (rows : List RRow) (h : (buildF b rows).2 = 0) : ∃ n, BuiltOk b rows n := by
  obtain ⟨bl, hf, hok, hs, hm, h1, h2, h3⟩ := buildF_ok b rows h
  have ho := openF_run bl hok
  have hn := BlkOk.len hok.ok
  have hso := hok.ord
  rw [hf] at ho hn hso
  refine ⟨bl.length, by rw [hs]; exact ho, by rw [hs]; have := hok.sz; unfold maxLen; omega, hm.symm, hn, ⟨fun h => by omega, fun h => ?_⟩, hso, h1, h2, h3⟩
  have e : bl = [] := List.length_eq_zero_iff.1 h
  rw [← hf, e]; rfl
theorem OB {rows : List RRow} {s : ByteArray} {n : Nat} {W : World} (h : openF s = some (rows, n) ∧ s.size ≤ maxLen) : Calls Try.prog 42 #[.string s] W fun e w' => ∃ g, e = .returned (.tuple #[.pointer (some ⟨g, 0, none⟩), .int .i64 0]) ∧ Below W.heap.size W w' ∧ RunIs w' g W.heap.size rows n := by
  have h1 := Open_calls s W h.2
  rw [h.1] at h1
  exact h1
theorem blocks_le (rows : List RRow) {n m : Nat} (h1 : BuiltOk 64 rows n) (h2 : BuiltOk 4096 rows m) : m ≤ n := by
  rw [h1.many, h2.many]
  exact (LeM.go (by decide) (by decide) rows none ms0 ms0 (.inr ⟨rfl, Nat.le_refl _⟩) h1.good h2.good).close

set_option maxRecDepth 100000 in
set_option maxHeartbeats 4000000 in
theorem runBlocks_fin (A : Option Addr) (c : Nat) (l : List S54) (w : World) (h : Kd.C k54 w A l.length l) (hl : l.length ≤ 1048576) :
    Calls Try.prog 23 #[.slice A l.length c] w fun e w' => e = .returned (.bool true) ∧ Below w.heap.size w w' := by
  have HC := Lib.hid (fun (W : World) (hb : Below w.heap.size w W) => Kd.C_below h hb)
  have HL := Lib.hid hl
  obtain ⟨rows, hrows⟩ : ∃ rows, rows = l.map toR := ⟨_, rfl⟩
  have hrl : rows.length ≤ 1048576 := by rw [hrows, List.length_map]; exact hl
  have HA := Lib.hid (fun (W : World) (hb : Below w.heap.size w W) => (show Calls Try.prog 41 #[.int .i64 64, .slice A l.length c] W fun e w' => e = .returned (.tuple #[.string (buildF 64 rows).1, .int .i64 (buildF 64 rows).2]) ∧ Below W.heap.size W w' by rw [hrows]; exact built_calls 64 A c l W (HC.out W hb) hl))
  have HB := Lib.hid (fun (W : World) (hb : Below w.heap.size w W) => (show Calls Try.prog 41 #[.int .i64 4096, .slice A l.length c] W fun e w' => e = .returned (.tuple #[.string (buildF 4096 rows).1, .int .i64 (buildF 4096 rows).2]) ∧ Below W.heap.size W w' by rw [hrows]; exact built_calls 4096 A c l W (HC.out W hb) hl))
  have hoA := built_ok 64 rows
  have hoB := built_ok 4096 rows
  obtain ⟨SA, hSA⟩ : ∃ x, x = buildF 64 rows := ⟨_, rfl⟩
  obtain ⟨SB, hSB⟩ : ∃ x, x = buildF 4096 rows := ⟨_, rfl⟩
  have HSA := Lib.hid hSA
  have HSB := Lib.hid hSB
  rw [← hSA] at HA hoA
  rw [← hSB] at HB hoB
  clear hSA hSB hrows h hl
  obtain ⟨sA, eA⟩ := SA
  obtain ⟨sB, eB⟩ := SB
  dsimp only at HA HB hoA hoB
  have HF1 : True := trivial
  have HF2 : True := trivial
  by_cases hA : eA = 0
  · subst hA
    obtain ⟨n, hn⟩ := hoA rfl
    have HOA := Lib.hid hn
    have hq : (((0 : Nat) : Int) != 0) = false := rfl
    have HXA := Lib.hid (show openF sA = some (rows, n) ∧ sA.size ≤ maxLen from ⟨by have := hn.opens; rwa [← HSA.out] at this, by have := hn.size; rwa [← HSA.out] at this⟩)
    clear hoA hn
    by_cases hB : eB = 0
    · subst hB
      obtain ⟨m, hm⟩ := hoB rfl
      have HXB := Lib.hid (show openF sB = some (rows, m) ∧ sB.size ≤ maxLen from ⟨by have := hm.opens; rwa [← HSB.out] at this, by have := hm.size; rwa [← HSB.out] at this⟩)
      have h1 : decide ((n : Int) ≤ (rows.length : Int)) = true := decide_eq_true (by have := HOA.out.le; omega)
      have h2 : decide ((m : Int) ≤ (n : Int)) = true := decide_eq_true (by have := blocks_le rows HOA.out hm; omega)
      have h1n : decide (n ≤ rows.length) = true := decide_eq_true HOA.out.le
      have h2n : decide (m ≤ n) = true := decide_eq_true (blocks_le rows HOA.out hm)
      have h1p := HOA.out.le
      have h2p := blocks_le rows HOA.out hm
      have h3 : ((rows.length : Int) == (rows.length : Int)) = true := by simp
      have e1 : ((rows.length : Int) == 0) = ((n : Int) == 0) := by
        have hz := HOA.out.zero
        rw [Bool.eq_iff_iff, beq_iff_eq, beq_iff_eq]
        omega
      have h4 : (((rows.length : Int) == 0) == ((n : Int) == 0)) = true := by rw [e1]; exact beq_self_eq_true _
      clear e1
      clear hoB hm
      go_enter Try.func23, Try.ntmps23
      go_wp2_with (first | (go_at_call 34; refine (shown7_calls _).mono ?_; rintro e w1 ⟨rfl, hb1⟩; have HB1 := Lib.hid hb1; clear hb1) | (go_at_call 41; clear HF1; refine (HA.out _ HB1.out).mono ?_; rintro e w2 ⟨rfl, hb2⟩; have HB2 := Lib.hid (HB1.out.trans (hb2.mono HB1.out.size)); clear hb2) | (go_at_call 41; refine (HB.out _ HB2.out).mono ?_; rintro e w3 ⟨rfl, hb3⟩; have HB3 := Lib.hid (HB2.out.trans (hb3.mono HB2.out.size)); clear hb3) | (go_at_call 42; clear HF2; refine (OB HXA.out).mono ?_; rintro e w4 ⟨g1, rfl, hb4, hr4⟩; have HB4 := Lib.hid (HB3.out.trans (hb4.mono HB3.out.size)); have HR4 := Lib.hid hr4; clear hb4 hr4) | (go_at_call 42; refine (OB HXB.out).mono ?_; rintro e w5 ⟨g2, rfl, hb5, hr5⟩; have HB5 := Lib.hid (HB4.out.trans (hb5.mono HB4.out.size)); have HR45 := Lib.hid (HR4.out.below hb5); have HR5 := Lib.hid hr5; clear hb5 hr5) | (go_at_call 39; refine (RLen_calls (by first | exact HR45.out | exact HR5.out)).mono ?_; rintro e w' ⟨rfl, rfl⟩) | (go_at_call 40; refine (RBlocks_calls (by first | exact HR45.out | exact HR5.out)).mono ?_; rintro e w' ⟨rfl, rfl⟩))
      go_ret
      exact ⟨rfl, HB5.out⟩
    · have hq2 : ((eB : Int) != 0) = true := by simpa using hB
      clear hoB hB
      go_enter Try.func23, Try.ntmps23
      go_wp2_with (first | (go_at_call 34; refine (shown7_calls _).mono ?_; rintro e w1 ⟨rfl, hb1⟩; have HB1 := Lib.hid hb1; clear hb1) | (go_at_call 41; clear HF1; refine (HA.out _ HB1.out).mono ?_; rintro e w2 ⟨rfl, hb2⟩; have HB2 := Lib.hid (HB1.out.trans (hb2.mono HB1.out.size)); clear hb2) | (go_at_call 41; refine (HB.out _ HB2.out).mono ?_; rintro e w3 ⟨rfl, hb3⟩; have HB3 := Lib.hid (HB2.out.trans (hb3.mono HB2.out.size)); clear hb3))
      go_ret
      exact ⟨rfl, HB3.out⟩
  · have hq : ((eA : Int) != 0) = true := by simpa using hA
    clear hoA hoB hA
    go_enter Try.func23, Try.ntmps23
    go_wp2_with (first | (go_at_call 34; refine (shown7_calls _).mono ?_; rintro e w1 ⟨rfl, hb1⟩; have HB1 := Lib.hid hb1; clear hb1) | (go_at_call 41; clear HF1; refine (HA.out _ HB1.out).mono ?_; rintro e w2 ⟨rfl, hb2⟩; have HB2 := Lib.hid (HB1.out.trans (hb2.mono HB1.out.size)); clear hb2) | (go_at_call 41; refine (HB.out _ HB2.out).mono ?_; rintro e w3 ⟨rfl, hb3⟩; have HB3 := Lib.hid (HB2.out.trans (hb3.mono HB2.out.size)); clear hb3))
    go_ret
    exact ⟨rfl, HB3.out⟩
end Go.Proofs.Ytfemjlhfgmbcmaa
