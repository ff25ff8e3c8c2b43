/- The reference's order of texts; a run's range. Laid by gen_sq.py. · Plain facts of rows, for the reference's Build and for told. Laid by gen_sv.py. · From, and From of no run. Laid by gen_ss.py. · A run from a key on: its iterator. Laid by gen_sr.py. · A run from a key on; told. Laid by gen_ss.py. · RunBlocks and RunSizes walked. Laid by gen_so.py. · RunBack walked. Laid by gen_st.py. -/
import Derived.Test.YtfemjlhfgmbcmaaVe
namespace Go.Proofs.Ytfemjlhfgmbcmaa
open Go.RowKit Go.Shelf Go.Proofs.YtfemjlhfgmbcmaaW.PrintWords Go.Proofs.YtfemjlhfgmbcmaaW.PrintLast Go.Proofs.YtfemjlhfgmbcmaaW.PrintMore
open Go.Proofs.Ytfemjlhfgmbcmaa.PRunBuilds
set_option linter.unusedVariables false
set_option linter.unusedSimpArgs false
attribute [local go_sem ↓] Go.wp_at_zero Go.wp_at_succ

theorem bl_cons (a b : UInt8) (x y : List UInt8) : Op.bytesLess (a :: x) (b :: y) = (decide (a < b) || (a == b && Op.bytesLess x y)) := rfl
theorem u8_ne {a b : UInt8} (h : a.toNat ≠ b.toNat) : (a == b) = false := beq_eq_false_iff_ne.2 (fun e => h (by rw [e]))
theorem u8_lt (a b : UInt8) : decide (a < b) = decide (a.toNat < b.toNat) := by congr 1

set_option maxRecDepth 100000 in
set_option maxHeartbeats 2000000 in
theorem Less_calls (x y : ByteArray) (w : World) (hx : x.size ≤ maxLen) (hy : y.size ≤ maxLen) :
    Calls Try.prog 43 #[.string x, .string y] w fun e w' => e = .returned (.bool (ltB x y)) ∧ Below w.heap.size w w' := by
  unfold maxLen at hx hy
  obtain ⟨R, hR⟩ : ∃ R, R = ltB x y := ⟨_, rfl⟩
  rw [← hR]
  have HR := Lib.hid (show Op.bytesLess x.data.toList y.data.toList = R by rw [hR]; unfold ltB; rw [Lib.toList_data, Lib.toList_data])
  clear hR
  have HB0 := Lib.hid (Below.refl w.heap.size w)
  go_enter Try.func43, Try.ntmps43
  go_wp2_with fail
  go_loopw [5] (fun iv W => ∃ k : Nat, iv = .int .i64 k ∧ k ≤ x.size ∧ k ≤ y.size ∧ Below w.heap.size w W ∧ Hid (Op.bytesLess (x.data.toList.drop k) (y.data.toList.drop k) = R)) (fun iv _ => x.size - (intOf iv).toNat)
  case atStart => exact ⟨0, rfl, Nat.zero_le _, Nat.zero_le _, HB0.out, HR⟩
  case round =>
    obtain ⟨k, rfl, hkx, hky, hbw, HN⟩ := hrel
    have HBW := Lib.hid hbw
    have hdr := below_drew1 (Below.refl wr.heap.size wr)
    have HD := Lib.hid (HBW.out.trans (hdr.mono HBW.out.size))
    have HD2 := Lib.hid (HD.out.trans ((below_drew1 (Below.refl wr.drew.heap.size wr.drew)).mono HD.out.size))
    clear hbw HR HB0 hdr
    by_cases hlx : k < x.size
    · by_cases hly : k < y.size
      · have hN := HN.out
        rw [drop_at x k hlx, drop_at y k hly, bl_cons] at hN
        by_cases hab : x[k].toNat = y[k].toNat
        · have e : x[k] = y[k] := UInt8.toNat_inj.1 hab
          have hq : (((x[k].toNat : Nat) : Int) != ((y[k].toNat : Nat) : Int)) = false := by rw [hab]; simp
          have HN2 := Lib.hid (show Op.bytesLess (x.data.toList.drop (k + 1)) (y.data.toList.drop (k + 1)) = R by
            rw [← hN, e, decide_eq_false (UInt8.lt_irrefl _)]; simp)
          clear hN HN e hab
          go_wp2_with fail
          refine start_ (n := 7) (S := fun _ => True) (ds := []) #[false, false, false, false, false, false, false] (by kernel_rfl) rfl rfl (trivial) (fun hHeld => ?_)
          refine pure_ (i := 0) (N := some 18) (v := ?_) (a' := ?_) #[true, false, false, false, false, false, false] rfl rfl (by kernel_rfl) (fun _ _ _ h => h) (Or.inl ⟨by rfl, ?_⟩) ?_ ?_
          rotate_left
          · intro w'
            go_simp
            with_reducible rfl
          rotate_left
          · simp only [Act.put, List.setIfInBounds_toArray, List.set_cons_zero, List.set_cons_succ, i64_w, i32_w]
            rfl
          refine pure_ (i := 1) (N := some 19) (v := ?_) (a' := ?_) #[true, true, false, false, false, false, false] rfl rfl (by kernel_rfl) (fun _ _ _ h => h) (Or.inl ⟨by rfl, ?_⟩) ?_ ?_
          rotate_left
          · intro w'
            go_simp
            with_reducible rfl
          rotate_left
          · simp only [Act.put, List.setIfInBounds_toArray, List.set_cons_zero, List.set_cons_succ, i64_w, i32_w]
            rfl
          refine pure_ (i := 2) (N := some 20) (v := ?_) (a' := ?_) #[true, true, true, false, false, false, false] rfl rfl (by kernel_rfl) (fun _ _ _ h => h) (Or.inl ⟨by rfl, ?_⟩) ?_ ?_
          rotate_left
          · intro w'
            go_simp
            with_reducible rfl
          rotate_left
          · simp only [Act.put, List.setIfInBounds_toArray, List.set_cons_zero, List.set_cons_succ, i64_w, i32_w]
            rfl
          refine pure_ (i := 3) (N := some 21) (v := ?_) (a' := ?_) #[true, true, true, true, false, false, false] rfl rfl (by kernel_rfl) (fun _ _ _ h => h) (Or.inl ⟨by rfl, ?_⟩) ?_ ?_
          rotate_left
          · intro w'
            go_simp
            with_reducible rfl
          rotate_left
          · simp only [Act.put, List.setIfInBounds_toArray, List.set_cons_zero, List.set_cons_succ, i64_w, i32_w]
            rfl
          refine pure_ (i := 4) (N := some 22) (v := ?_) (a' := ?_) #[true, true, true, true, true, false, false] rfl rfl (by kernel_rfl) (fun _ _ _ h => h) (Or.inl ⟨by rfl, ?_⟩) ?_ ?_
          rotate_left
          · intro w'
            go_simp
            with_reducible rfl
          rotate_left
          · simp only [Act.put, List.setIfInBounds_toArray, List.set_cons_zero, List.set_cons_succ, i64_w, i32_w]
            rfl
          refine pure_ (i := 5) (N := some 23) (v := ?_) (a' := ?_) #[true, true, true, true, true, true, false] rfl rfl (by kernel_rfl) (fun _ _ _ h => h) (Or.inl ⟨by rfl, ?_⟩) ?_ ?_
          rotate_left
          · intro w'
            go_simp
            with_reducible rfl
          rotate_left
          · simp only [Act.put, List.setIfInBounds_toArray, List.set_cons_zero, List.set_cons_succ, i64_w, i32_w]
            rfl
          refine pure_ (i := 6) (N := some 24) (v := ?_) (a' := ?_) #[true, true, true, true, true, true, true] rfl rfl (by kernel_rfl) (fun _ _ _ h => h) (Or.inl ⟨by rfl, ?_⟩) ?_ ?_
          rotate_left
          · intro w'
            go_simp
            with_reducible rfl
          rotate_left
          · simp only [Act.put, List.setIfInBounds_toArray, List.set_cons_zero, List.set_cons_succ, i64_w, i32_w]
            rfl
          refine done_ (by kernel_rfl) ?_
          clear hHeld
          go_wp2_with fail
          go_roundw
          case rel => exact ⟨k + 1, by go_num, by omega, by omega, HD.out, HN2⟩
          case measure => simp [intOf]; omega
        · have hq : (((x[k].toNat : Nat) : Int) != ((y[k].toNat : Nat) : Int)) = true := by simp; omega
          have HN2 := Lib.hid (show decide (x[k].toNat < y[k].toNat) = R by
            rw [← hN, u8_ne hab, u8_lt]; simp)
          clear hN HN hab
          go_wp2_with fail
          refine start_ (n := 7) (S := fun _ => True) (ds := []) #[false, false, false, false, false, false, false] (by kernel_rfl) rfl rfl (trivial) (fun hHeld => ?_)
          refine pure_ (i := 0) (N := some 18) (v := ?_) (a' := ?_) #[true, false, false, false, false, false, false] rfl rfl (by kernel_rfl) (fun _ _ _ h => h) (Or.inl ⟨by rfl, ?_⟩) ?_ ?_
          rotate_left
          · intro w'
            go_simp
            with_reducible rfl
          rotate_left
          · simp only [Act.put, List.setIfInBounds_toArray, List.set_cons_zero, List.set_cons_succ, i64_w, i32_w]
            rfl
          refine pure_ (i := 1) (N := some 19) (v := ?_) (a' := ?_) #[true, true, false, false, false, false, false] rfl rfl (by kernel_rfl) (fun _ _ _ h => h) (Or.inl ⟨by rfl, ?_⟩) ?_ ?_
          rotate_left
          · intro w'
            go_simp
            with_reducible rfl
          rotate_left
          · simp only [Act.put, List.setIfInBounds_toArray, List.set_cons_zero, List.set_cons_succ, i64_w, i32_w]
            rfl
          refine pure_ (i := 2) (N := some 20) (v := ?_) (a' := ?_) #[true, true, true, false, false, false, false] rfl rfl (by kernel_rfl) (fun _ _ _ h => h) (Or.inl ⟨by rfl, ?_⟩) ?_ ?_
          rotate_left
          · intro w'
            go_simp
            with_reducible rfl
          rotate_left
          · simp only [Act.put, List.setIfInBounds_toArray, List.set_cons_zero, List.set_cons_succ, i64_w, i32_w]
            rfl
          refine pure_ (i := 3) (N := some 21) (v := ?_) (a' := ?_) #[true, true, true, true, false, false, false] rfl rfl (by kernel_rfl) (fun _ _ _ h => h) (Or.inl ⟨by rfl, ?_⟩) ?_ ?_
          rotate_left
          · intro w'
            go_simp
            with_reducible rfl
          rotate_left
          · simp only [Act.put, List.setIfInBounds_toArray, List.set_cons_zero, List.set_cons_succ, i64_w, i32_w]
            rfl
          refine pure_ (i := 4) (N := some 22) (v := ?_) (a' := ?_) #[true, true, true, true, true, false, false] rfl rfl (by kernel_rfl) (fun _ _ _ h => h) (Or.inl ⟨by rfl, ?_⟩) ?_ ?_
          rotate_left
          · intro w'
            go_simp
            with_reducible rfl
          rotate_left
          · simp only [Act.put, List.setIfInBounds_toArray, List.set_cons_zero, List.set_cons_succ, i64_w, i32_w]
            rfl
          refine pure_ (i := 5) (N := some 23) (v := ?_) (a' := ?_) #[true, true, true, true, true, true, false] rfl rfl (by kernel_rfl) (fun _ _ _ h => h) (Or.inl ⟨by rfl, ?_⟩) ?_ ?_
          rotate_left
          · intro w'
            go_simp
            with_reducible rfl
          rotate_left
          · simp only [Act.put, List.setIfInBounds_toArray, List.set_cons_zero, List.set_cons_succ, i64_w, i32_w]
            rfl
          refine pure_ (i := 6) (N := some 24) (v := ?_) (a' := ?_) #[true, true, true, true, true, true, true] rfl rfl (by kernel_rfl) (fun _ _ _ h => h) (Or.inl ⟨by rfl, ?_⟩) ?_ ?_
          rotate_left
          · intro w'
            go_simp
            with_reducible rfl
          rotate_left
          · simp only [Act.put, List.setIfInBounds_toArray, List.set_cons_zero, List.set_cons_succ, i64_w, i32_w]
            rfl
          refine done_ (by kernel_rfl) ?_
          clear hHeld
          go_wp2_with fail
          refine start_ (n := 8) (S := fun _ => True) (ds := []) #[false, false, false, false, false, false, false, false] (by kernel_rfl) rfl rfl (trivial) (fun hHeld => ?_)
          refine pure_ (i := 0) (N := some 25) (v := ?_) (a' := ?_) #[true, false, false, false, false, false, false, false] rfl rfl (by kernel_rfl) (fun _ _ _ h => h) (Or.inl ⟨by rfl, ?_⟩) ?_ ?_
          rotate_left
          · intro w'
            go_simp
            with_reducible rfl
          rotate_left
          · simp only [Act.put, List.setIfInBounds_toArray, List.set_cons_zero, List.set_cons_succ, i64_w, i32_w]
            rfl
          refine pure_ (i := 1) (N := some 26) (v := ?_) (a' := ?_) #[true, true, false, false, false, false, false, false] rfl rfl (by kernel_rfl) (fun _ _ _ h => h) (Or.inl ⟨by rfl, ?_⟩) ?_ ?_
          rotate_left
          · intro w'
            go_simp
            with_reducible rfl
          rotate_left
          · simp only [Act.put, List.setIfInBounds_toArray, List.set_cons_zero, List.set_cons_succ, i64_w, i32_w]
            rfl
          refine pure_ (i := 2) (N := some 27) (v := ?_) (a' := ?_) #[true, true, true, false, false, false, false, false] rfl rfl (by kernel_rfl) (fun _ _ _ h => h) (Or.inl ⟨by rfl, ?_⟩) ?_ ?_
          rotate_left
          · intro w'
            go_simp
            with_reducible rfl
          rotate_left
          · simp only [Act.put, List.setIfInBounds_toArray, List.set_cons_zero, List.set_cons_succ, i64_w, i32_w]
            rfl
          refine pure_ (i := 3) (N := some 28) (v := ?_) (a' := ?_) #[true, true, true, true, false, false, false, false] rfl rfl (by kernel_rfl) (fun _ _ _ h => h) (Or.inl ⟨by rfl, ?_⟩) ?_ ?_
          rotate_left
          · intro w'
            go_simp
            with_reducible rfl
          rotate_left
          · simp only [Act.put, List.setIfInBounds_toArray, List.set_cons_zero, List.set_cons_succ, i64_w, i32_w]
            rfl
          refine pure_ (i := 4) (N := some 29) (v := ?_) (a' := ?_) #[true, true, true, true, true, false, false, false] rfl rfl (by kernel_rfl) (fun _ _ _ h => h) (Or.inl ⟨by rfl, ?_⟩) ?_ ?_
          rotate_left
          · intro w'
            go_simp
            with_reducible rfl
          rotate_left
          · simp only [Act.put, List.setIfInBounds_toArray, List.set_cons_zero, List.set_cons_succ, i64_w, i32_w]
            rfl
          refine pure_ (i := 5) (N := some 30) (v := ?_) (a' := ?_) #[true, true, true, true, true, true, false, false] rfl rfl (by kernel_rfl) (fun _ _ _ h => h) (Or.inl ⟨by rfl, ?_⟩) ?_ ?_
          rotate_left
          · intro w'
            go_simp
            with_reducible rfl
          rotate_left
          · simp only [Act.put, List.setIfInBounds_toArray, List.set_cons_zero, List.set_cons_succ, i64_w, i32_w]
            rfl
          refine pure_ (i := 6) (N := some 31) (v := ?_) (a' := ?_) #[true, true, true, true, true, true, true, false] rfl rfl (by kernel_rfl) (fun _ _ _ h => h) (Or.inl ⟨by rfl, ?_⟩) ?_ ?_
          rotate_left
          · intro w'
            go_simp
            with_reducible rfl
          rotate_left
          · simp only [Act.put, List.setIfInBounds_toArray, List.set_cons_zero, List.set_cons_succ, i64_w, i32_w]
            rfl
          refine pure_ (i := 7) (N := some 4) (v := ?_) (a' := ?_) #[true, true, true, true, true, true, true, true] rfl rfl (by kernel_rfl) (fun _ _ _ h => h) (Or.inl ⟨by rfl, ?_⟩) ?_ ?_
          rotate_left
          · intro w'
            go_simp
            with_reducible rfl
          rotate_left
          · simp only [Act.put, List.setIfInBounds_toArray, List.set_cons_zero, List.set_cons_succ, i64_w, i32_w]
            rfl
          refine done_ (by kernel_rfl) ?_
          clear hHeld
          go_wp2_with fail
          go_ret
          rw [HN2.out]
          exact ⟨rfl, HD2.out⟩
      · have HN2 := Lib.hid (show decide (x.size < y.size) = R by
          rw [← HN.out, List.drop_of_length_le (l := y.data.toList) (by rw [← Lib.size_eq]; omega)]
          rw [decide_eq_false (by omega)]
          cases List.drop k x.data.toList <;> rfl)
        clear HN
        go_wp2_with fail
        go_ret
        rw [HN2.out]
        exact ⟨rfl, HBW.out⟩
    · have HN2 := Lib.hid (show decide (x.size < y.size) = R by
        rw [← HN.out, List.drop_of_length_le (l := x.data.toList) (by rw [← Lib.size_eq]; omega)]
        by_cases hly : k < y.size
        · rw [drop_at y k hly, decide_eq_true (by omega)]; rfl
        · rw [List.drop_of_length_le (l := y.data.toList) (by rw [← Lib.size_eq]; omega), decide_eq_false (by omega)]; rfl)
      clear HN
      go_wp2_with fail
      go_ret
      rw [HN2.out]
      exact ⟨rfl, HBW.out⟩
end Go.Proofs.Ytfemjlhfgmbcmaa

namespace Go.Proofs.Ytfemjlhfgmbcmaa
open Go.RowKit Go.Shelf Go.Proofs.YtfemjlhfgmbcmaaW.PrintWords Go.Proofs.YtfemjlhfgmbcmaaW.PrintLast Go.Proofs.YtfemjlhfgmbcmaaW.PrintMore
open Go.Proofs.Ytfemjlhfgmbcmaa.PRunBuilds
set_option linter.unusedVariables false
set_option linter.unusedSimpArgs false
attribute [local go_sem ↓] Go.wp_at_zero Go.wp_at_succ

theorem row54 {w : World} {A : Option Addr} {n : Nat} {xs : List S54} (h : Kd.C k54 w A n xs) (i : Int) (h0 : 0 ≤ i) (h1 : i < n) : ∃ ad, A = some ad ∧ w.cell? (ad.add (i.toNat * 3)) = some (.string (rd_T54 xs i).f0) ∧ ∀ t u, [Value.string (rd_T54 xs i).f0, .string (rd_T54 xs i).f1.f0, .bool (rd_T54 xs i).f1.f1][t]? = some u → w.cell? ((ad.add (i.toNat * 3)).add t) = some u := by
  obtain ⟨ad, c, e, _, hK, hc0⟩ := Kd.C_get h z54 i h0 h1
  have hc : ∀ j u, c[j]? = some u → w.cell? (ad.add (i.toNat * 3 + j)) = some u := hc0
  obtain rfl := k54_open hK
  refine ⟨ad, e, hc 0 _ rfl, fun t u hu => ?_⟩
  rw [show (ad.add (i.toNat * 3)).add t = ad.add (i.toNat * 3 + t) by rw [Addr.add_add]]
  exact hc t u hu
theorem rd_toR (l : List S54) (j : Int) (h0 : 0 ≤ j) (h1 : j < l.length) : toR (rd_T54 l j) = (l.map toR).getD j.toNat rz := by
  unfold rd_T54
  rw [List.getD_eq_getElem?_getD, List.getD_eq_getElem?_getD, List.getElem?_map, List.getElem?_eq_getElem (show j.toNat < l.length by omega)]; rfl
theorem row54r {w : World} {A : Option Addr} {l : List S54} (h : Kd.C k54 w A l.length l) (i : Int) (h0 : 0 ≤ i) (h1 : i < l.length) : ∃ ad x, A = some ad ∧ (l.map toR).getD i.toNat rz = x ∧ w.cell? (ad.add (i.toNat * 3)) = some (.string x.k) ∧ ∀ t u, [Value.string x.k, .string x.s, .bool x.gone][t]? = some u → w.cell? ((ad.add (i.toNat * 3)).add t) = some u := by
  obtain ⟨ad, h2, h3, h4⟩ := row54 h i h0 h1
  exact ⟨ad, _, h2, rfl, by rw [← rd_toR l i h0 h1]; exact h3, by rw [← rd_toR l i h0 h1]; exact h4⟩
theorem goB_fold (b : Int) : ∀ (l : List RRow) (last : Option ByteArray) (m : MS), (goB b l last m).1 = 0 → (goB b l last m).2 = l.foldl (addS b) m := by
  intro l
  induction l with
  | nil => intro last m _; rfl
  | cons x r ih =>
    intro last m h
    by_cases hx : rowE last x = 0
    · have e : goB b (x :: r) last m = goB b r (some x.k) (addS b m x) := by show (if rowE last x = 0 then _ else _) = _; rw [if_pos hx]
      rw [e] at h ⊢
      exact ih _ _ h
    · have e : goB b (x :: r) last m = (rowE last x, m) := by show (if rowE last x = 0 then _ else _) = _; rw [if_neg hx]
      rw [e] at h
      exact absurd h hx
theorem goB_may (b : Int) : ∀ (l : List RRow) (last : Option ByteArray) (m : MS), (goB b l last m).1 = 0 → ∀ x ∈ l, mayN x = 0 := by
  intro l
  induction l with
  | nil => intro last m _ x hx; cases hx
  | cons y r ih =>
    intro last m h
    by_cases hy : rowE last y = 0
    · have e : goB b (y :: r) last m = goB b r (some y.k) (addS b m y) := by show (if rowE last y = 0 then _ else _) = _; rw [if_pos hy]
      rw [e] at h
      intro x hx
      rcases List.mem_cons.1 hx with rfl | hx
      · unfold rowE at hy
        by_cases hm : mayN x = 0
        · exact hm
        · rw [if_neg hm] at hy; exact absurd hy hm
      · exact ih _ _ h x hx
    · have e : goB b (y :: r) last m = (rowE last y, m) := by show (if rowE last y = 0 then _ else _) = _; rw [if_neg hy]
      rw [e] at h
      exact absurd h hy
theorem mayN_sz {x : RRow} (h : mayN x = 0) : x.k.size ≤ 64 ∧ x.s.size ≤ 16384 := by
  unfold mayN at h
  by_cases h1 : 64 < x.k.size ∨ 16384 < x.s.size
  · rw [if_pos h1] at h; cases h
  · omega
theorem lastL_take (rows : List RRow) (j : Nat) (h : j < rows.length) : lastL none (rows.take (j + 1)) = some (rows.getD j rz).k := by
  rw [take_snoc rows j h, lastL_snoc]
theorem closeS_again {m : MS} (h : m.load.size = 0) : closeS m = m := by unfold closeS; rw [if_pos h]
theorem fold_close {b : Int} (hb : 64 ≤ b) (m : MS) (rows : List RRow) (j : Nat) (h : rows.length ≤ j ∨ b ≤ m.load.size) : closeS ((rows.drop j).foldl (addS b) (closeS m)) = closeS ((rows.drop j).foldl (addS b) m) := by
  rcases h with h | h
  · rw [List.drop_of_length_le h]; exact closeS_again (closeS_load m)
  · cases hd : rows.drop j with
    | nil => exact closeS_again (closeS_load m)
    | cons x r =>
      show closeS (r.foldl (addS b) (addS b (closeS m) x)) = closeS (r.foldl (addS b) (addS b m x))
      have e : addS b (closeS m) x = addS b m x := by
        unfold addS; rw [if_pos h, if_neg (by rw [closeS_load]; omega)]
      rw [e]
theorem drop_getD' (rows : List RRow) (j : Nat) (h : j < rows.length) : rows.drop j = rows.getD j rz :: rows.drop (j + 1) := by
  rw [List.drop_eq_getElem_cons h, List.getD_eq_getElem?_getD, List.getElem?_eq_getElem h]; rfl
theorem OwnsM.grown {W W' : World} {base n : Nat} {v : Value} {xs : List Value} {o : Option Nat} (h : OwnsM W base v n xs) (hg : W.grownBy W' o) (hne : ∀ k, v.ownBlock = some k → o ≠ some k) : OwnsM W' base v n xs := by
  refine ⟨h.1, ?_⟩
  rcases h.2 with hn | ⟨g, cap, cur, fz, rfl, hb, hg2, rest⟩
  · exact .inl hn
  · exact .inr ⟨g, cap, cur, fz, rfl, hb, (hg.block g (Array.getElem?_eq_some_iff.1 hg2).1 (fun e => hne g rfl e.symm)).trans hg2, rest⟩
theorem OwnsM.lt {W : World} {base n : Nat} {v : Value} {xs : List Value} (h : OwnsM W base v n xs) (k : Nat) (hk : v.ownBlock = some k) : k < W.heap.size := by
  rcases h.2 with ⟨rfl, _⟩ | ⟨g, cap, cur, fz, rfl, hb, hg, _⟩
  · simp [Value.ownBlock] at hk
  · simp [Value.ownBlock] at hk
    subst hk
    exact (Array.getElem?_eq_some_iff.1 hg).1
theorem dis_left {W : World} {base n : Nat} {v v2 u : Value} {xs : List Value} (h : ∀ k, v.ownBlock = some k → u.ownBlock ≠ some k) (hn : v2.ownBlock = v.ownBlock ∨ ∃ b, v2.ownBlock = some b ∧ W.heap.size ≤ b) (hu : OwnsM W base u n xs) : ∀ k, v2.ownBlock = some k → u.ownBlock ≠ some k := by
  intro k hk hk2
  rcases hn with e | ⟨b, e, hb⟩
  · exact h k (e ▸ hk) hk2
  · have := hu.lt k hk2
    rw [e] at hk
    injection hk with hk
    omega
theorem dis_right {W : World} {base n : Nat} {v u u2 : Value} {xs : List Value} (h : ∀ k, v.ownBlock = some k → u.ownBlock ≠ some k) (hn : u2.ownBlock = u.ownBlock ∨ ∃ b, u2.ownBlock = some b ∧ W.heap.size ≤ b) (hv : OwnsM W base v n xs) : ∀ k, v.ownBlock = some k → u2.ownBlock ≠ some k := by
  intro k hk hk2
  rcases hn with e | ⟨b, e, hb⟩
  · exact h k hk (e ▸ hk2)
  · have := hv.lt k hk
    rw [e] at hk2
    injection hk2 with hk2
    omega
theorem rowB_le2 (x : RRow) (h : mayN x = 0) : (rowB x).size ≤ 16600 := by
  have h1 := mayN_sz h
  have h2 := (encB_le x.k.size (by omega)).1
  have h3 := (encB_le x.s.size (by omega)).1
  rw [rowB_size]
  omega
theorem putR_le (t : ByteArray) : (putR 3 t).1.size ≤ 65600 := by
  unfold putR
  by_cases h : 65536 < t.size
  · rw [if_pos h]; show (0 : Nat) ≤ _; omega
  · rw [if_neg h]
    have h1 := (encB_le t.size (by omega)).1
    have h2 : (fourB (sumN (bodyB 3 t))).size = 4 := rfl
    have h3 : (bodyB 3 t).size = 1 + ((encB t.size).size + t.size) := by unfold bodyB; rw [ByteArray.size_append, ByteArray.size_append]; rfl
    show (fourB (sumN (bodyB 3 t)) ++ bodyB 3 t).size ≤ _
    rw [ByteArray.size_append, h2, h3]
    omega
theorem OwnsM.nil (W : World) (base : Nat) : OwnsM W base (.slice none 0 0) 0 [] := ⟨rfl, .inl ⟨rfl, rfl⟩⟩
end Go.Proofs.Ytfemjlhfgmbcmaa

namespace Go.Proofs.Ytfemjlhfgmbcmaa
open Go.RowKit Go.Shelf Go.Proofs.YtfemjlhfgmbcmaaW.PrintWords Go.Proofs.YtfemjlhfgmbcmaaW.PrintLast Go.Proofs.YtfemjlhfgmbcmaaW.PrintMore
open Go.Proofs.Ytfemjlhfgmbcmaa.PRunBuilds
set_option linter.unusedVariables false
set_option linter.unusedSimpArgs false
attribute [local go_sem] Oper.semAt_some
attribute [local go_sem ↓] Go.wp_at_zero Go.wp_at_succ

/-- What From gives: a func value over the run and the key. -/
theorem From_calls (q : Option Addr) (k : ByteArray) (w : World) : Calls Try.prog 36 #[.pointer q, .string k] w fun e w' => ∃ rb kb, e = .returned (.func (.func 75) #[] #[.pointer (some ⟨rb, 0, none⟩), .pointer (some ⟨kb, 0, none⟩)]) ∧ w'.heap[rb]? = some (.cells #[.pointer q] 36 (0, 0)) ∧ w'.heap[kb]? = some (.cells #[.string k] 9 (0, 0)) ∧ Below w.heap.size w w' ∧ rb = w.heap.size ∧ kb = w.heap.size + 1 ∧ w'.heap.size = w.heap.size + 2 := by
  have HB := Lib.hid (below_alloc (below_alloc (Below.refl w.heap.size w) (.cells #[.pointer q] 36)) (.cells #[.string k] 9))
  have HZ := Lib.hid (show ((w.alloc (.cells #[.pointer q] 36)).alloc (.cells #[.string k] 9)).heap.size = w.heap.size + 2 by rw [World.size_alloc, World.size_alloc])
  have H1 := Lib.hid (show ((w.alloc (.cells #[.pointer q] 36)).alloc (.cells #[.string k] 9)).heap[w.heap.size]? = some (.cells #[.pointer q] 36 (0, 0)) from blk_alloc (blk_new w _) _)
  have H2 := Lib.hid (show ((w.alloc (.cells #[.pointer q] 36)).alloc (.cells #[.string k] 9)).heap[w.heap.size + 1]? = some (.cells #[.string k] 9 (0, 0)) from heap_alloc2_new w _ _)
  go_enter Try.func36, Try.ntmps36
  go_wp2_with fail
  go_ret
  exact ⟨w.heap.size, w.heap.size + 1, rfl, H1.out, H2.out, HB.out, rfl, rfl, HZ.out⟩
theorem FromNil_in (n l rb kb : Nat) (hn : 1 ≤ n) (W : World) (h1 : W.heap[rb]? = some (.cells #[.pointer none] 36 (0, 0))) : CallsIn Fence.wide n Try.prog 75 #[.func (.yield l) #[] #[], .pointer (some ⟨rb, 0, none⟩), .pointer (some ⟨kb, 0, none⟩)] W fun e W' => (∃ v, e = .returned v) ∧ W' = W := by
  have i1 : W.cell? ⟨rb, 0, none⟩ = some (.pointer none) := (blk_cell h1 0).trans rfl
  refine callsIn_of_wp Try.func75 rfl trivial ?_ rfl
  simp only [Try.ntmps75, List.size_toArray, List.length_cons, List.length_nil, Nat.reduceAdd, Nat.reduceSub, Array.replicate_succ, Array.replicate_zero, List.push_toArray, List.append_toArray, List.nil_append, List.cons_append]
  gi_wp2
  refine bodyPost_ret (results_none rfl _ _ _) rfl ?_
  exact ⟨⟨_, rfl⟩, rfl⟩
end Go.Proofs.Ytfemjlhfgmbcmaa

namespace Go.Proofs.Ytfemjlhfgmbcmaa
open Go.RowKit Go.Shelf Go.Proofs.YtfemjlhfgmbcmaaW.PrintWords Go.Proofs.YtfemjlhfgmbcmaaW.PrintLast Go.Proofs.YtfemjlhfgmbcmaaW.PrintMore
open Go.Proofs.Ytfemjlhfgmbcmaa.PRunBuilds
set_option linter.unusedVariables false
set_option linter.unusedSimpArgs false
set_option linter.unnecessarySimpa false
attribute [local go_sem] Oper.semAt_some
attribute [local go_sem ↓] Go.wp_at_zero Go.wp_at_succ

/-- A call of a func value that carries what it saw. -/
theorem goesV_ {P : Program} {ops : Array Oper} {Q : Exit → Act → World → Prop} {oi : Oper} {N : Option Tmp} {a : Act} {w : World} {K : Act → World → Prop} {f : FuncId} {fn : Func} {as_ : Array Operand} {ts : Array TypeId} (hf : P.funcs[f]? = some fn) (hname : (fn.name == "runtime.NumGoroutine") = false) (hb : fn.body.isSome = true) (args caps : Array Value) (x : Operand)
    (hw : Region.wanted oi (yielded ops a.tmps) = true) (hN : oi.dst = N) (hop : oi.op = .call { callee := .value x, args := as_, argTypes := ts }) (hx : a.eval x = .func (.func f) #[] caps) (hargs : as_.map a.eval = args)
    (h : Calls P f (args ++ caps) w fun e w' => ∃ v, e = .returned v ∧ K (a.put N v) w') : if Region.wanted oi (yielded ops a.tmps) = true then Oper.wp P oi a w K Q else K (a.put N undef) w := by
  refine call_ f (args ++ caps) hw hN ?_ h
  have he := enters_ hf hname hb (args ++ caps) w
  unfold execOp
  simp [hop, resolve, Deferred.ofValue, invoke, hx, hargs, he]

theorem one3 {a b c : Value} (h1 : a.oneCell' = true) (h2 : b.oneCell' = true) (h3 : c.oneCell' = true) : ∀ q ∈ (#[a, b, c] : Array Value).toList, q.oneCell' = true := by
  intro q hq
  simp only [List.mem_cons, List.not_mem_nil, or_false] at hq
  rcases hq with rfl | rfl | rfl <;> assumption
set_option maxRecDepth 100000 in
set_option maxHeartbeats 8000000 in
theorem From1_in (n l rb kb g bx : Nat) (hn : 1 ≤ n) (rows : List RRow) (hmax : rows.length ≤ 1048576) (A : Option Addr) (cA base : Nat) (bn : Value) (k : ByteArray) (S : Nat → Prop) (W : World)
    (h1 : W.heap[rb]? = some (.cells #[.pointer (some ⟨g, 0, none⟩)] 36 (0, 0))) (h2 : W.heap[kb]? = some (.cells #[.string k] 9 (0, 0)))
    (hg : W.heap[g]? = some (.cells #[.slice A rows.length cA, bn, .func (.func 88) #[] #[.pointer (some ⟨bx, 0, none⟩)]] 121 (0, 0))) (hbx : W.heap[bx]? = some (.cells #[.pointer (some ⟨g, 0, none⟩)] 36 (0, 0)))
    (hF : Kd.F kR W (fun q => ¬ S q) A rows.length rows) (hso : sortedB rows = true) (hcap : rows.length ≤ cA)
    (J : Nat → World → Prop) (Jx : World → Prop) (hJ : ∀ j W1 W2, J j W1 → Below W1.heap.size W1 W2 → J j W2)
    (hY : ∀ (j : Nat) (W1 : World), J j W1 → findI rows k ≤ j → j < rows.length → W.heap.size ≤ W1.heap.size → YieldAt Fence.wide (n - 1) Try.prog l #[.string (rows.getD j rz).k, .agg #[.string (rows.getD j rz).s, .bool (rows.getD j rz).gone]] W1 fun e W' =>
      (e = .returned (.bool true) ∧ J (j + 1) W' ∧ Kept W1 W' S) ∨ (e = .returned (.bool false) ∧ Jx W'))
    (h0 : J (findI rows k) W) : CallsIn Fence.wide n Try.prog 75 #[.func (.yield l) #[] #[], .pointer (some ⟨rb, 0, none⟩), .pointer (some ⟨kb, 0, none⟩)] W fun e W' => (∃ v, e = .returned v) ∧ (J rows.length W' ∨ Jx W') := by
  have i1 : W.cell? ⟨rb, 0, none⟩ = some (.pointer (some ⟨g, 0, none⟩)) := (blk_cell h1 0).trans rfl
  have i2 : W.cell? ⟨kb, 0, none⟩ = some (.string k) := (blk_cell h2 0).trans rfl
  have i3 : W.cell? ⟨g, 0, none⟩ = some (.slice A rows.length cA) := (blk_cell hg 0).trans rfl
  have i4 : W.cell? ⟨g, 2, none⟩ = some (.func (.func 88) #[] #[.pointer (some ⟨bx, 0, none⟩)]) := (blk_cell hg 2).trans rfl
  have HI := Lib.hid (⟨i1, i2, i3, i4⟩ : _ ∧ _ ∧ _ ∧ _)
  have HC := Lib.hid (fun (W1 : World) (hb : Below W.heap.size W W1) => find_calls g base 0 bx rows k W1 A cA _ _ (blk_below hg hb) (blk_below hbx hb) (Kd.C_below (Kd.F_now hF) hb) hmax hso)
  have HY := Lib.hid hY
  have H0 := Lib.hid h0
  have HJ := Lib.hid hJ
  have HF := Lib.hid hF
  have HX := Lib.hid hmax
  have HCA := Lib.hid hcap
  obtain ⟨F, hFi⟩ : ∃ F, F = findI rows k := ⟨_, rfl⟩
  have HFL := Lib.hid (show F ≤ rows.length by rw [hFi]; exact findI_le rows k)
  rw [← hFi] at HY H0 HC
  obtain ⟨m, hm⟩ : ∃ m, m = rows.length - F := ⟨_, rfl⟩
  have HM := Lib.hid hm
  obtain ⟨B, hB⟩ : ∃ B, B = if cA = F then A else A.map (fun x => x.add (F * 3)) := ⟨_, rfl⟩
  have HBD := Lib.hid hB
  clear hm hB
  clear hY h0 h1 h2 hg hbx hF hso hmax hcap hJ hFi
  refine callsIn_of_wp Try.func75 rfl trivial ?_ rfl
  simp only [Try.ntmps75, List.size_toArray, List.length_cons, List.length_nil, Nat.reduceAdd, Nat.reduceSub, Array.replicate_succ, Array.replicate_zero, List.push_toArray, List.append_toArray, List.nil_append, List.cons_append]
  gi_wp2
  refine wpIn_wide.2 ?_
  refine start_ (n := 13) (S := fun w' => w'.cell? ⟨rb, 0, none⟩ = some (.pointer (some ⟨g, 0, none⟩)) ∧ w'.cell? ⟨kb, 0, none⟩ = some (.string k) ∧ w'.cell? ⟨g, 0, none⟩ = some (.slice A rows.length cA) ∧ w'.cell? ⟨g, 2, none⟩ = some (.func (.func 88) #[] #[.pointer (some ⟨bx, 0, none⟩)])) (ds := []) #[false, false, false, false, false, false, false, false, false, false, false, false, false] (by kernel_rfl) rfl rfl (HI.out) (fun hHeld => ?_)
  refine take_ (i := 0) (N := some 8) (v := ?_) (a' := ?_) #[true, false, false, false, false, false, false, false, false, false, false, false, false] rfl rfl (by kernel_rfl) (fun _ _ _ h => h) (Or.inl ⟨by rfl, ?_⟩) hHeld ?_ ?_
  rotate_left
  · rintro w' ⟨s0, s1, s2, s3⟩
    go_simp
    with_reducible rfl
  rotate_left
  · simp only [Act.put, List.setIfInBounds_toArray, List.set_cons_zero, List.set_cons_succ, i64_w, i32_w]
    rfl
  refine pure_ (i := 1) (N := some 9) (v := ?_) (a' := ?_) #[true, true, false, false, false, false, false, false, false, false, false, false, false] rfl rfl (by kernel_rfl) (fun _ _ _ h => h) (Or.inl ⟨by rfl, ?_⟩) ?_ ?_
  rotate_left
  · intro w'
    go_simp
    with_reducible rfl
  rotate_left
  · simp only [Act.put, List.setIfInBounds_toArray, List.set_cons_zero, List.set_cons_succ, i64_w, i32_w]
    rfl
  refine pure_ (i := 2) (N := some 10) (v := ?_) (a' := ?_) #[true, true, true, false, false, false, false, false, false, false, false, false, false] rfl rfl (by kernel_rfl) (fun _ _ _ h => h) (Or.inl ⟨by rfl, ?_⟩) ?_ ?_
  rotate_left
  · intro w'
    go_simp
    with_reducible rfl
  rotate_left
  · simp only [Act.put, List.setIfInBounds_toArray, List.set_cons_zero, List.set_cons_succ, i64_w, i32_w]
    rfl
  refine take_ (i := 3) (N := some 11) (v := ?_) (a' := ?_) #[true, true, true, true, false, false, false, false, false, false, false, false, false] rfl rfl (by kernel_rfl) (fun _ _ _ h => h) (Or.inl ⟨by rfl, ?_⟩) hHeld ?_ ?_
  rotate_left
  · rintro w' ⟨s0, s1, s2, s3⟩
    go_simp
    with_reducible rfl
  rotate_left
  · simp only [Act.put, List.setIfInBounds_toArray, List.set_cons_zero, List.set_cons_succ, i64_w, i32_w]
    rfl
  refine take_ (i := 4) (N := some 12) (v := ?_) (a' := ?_) #[true, true, true, true, true, false, false, false, false, false, false, false, false] rfl rfl (by kernel_rfl) (fun _ _ _ h => h) (Or.inl ⟨by rfl, ?_⟩) hHeld ?_ ?_
  rotate_left
  · rintro w' ⟨s0, s1, s2, s3⟩
    go_simp
    with_reducible rfl
  rotate_left
  · simp only [Act.put, List.setIfInBounds_toArray, List.set_cons_zero, List.set_cons_succ, i64_w, i32_w]
    rfl
  refine pure_ (i := 5) (N := some 13) (v := ?_) (a' := ?_) #[true, true, true, true, true, true, false, false, false, false, false, false, false] rfl rfl (by kernel_rfl) (fun _ _ _ h => h) (Or.inl ⟨by rfl, ?_⟩) ?_ ?_
  rotate_left
  · intro w'
    go_simp
    with_reducible rfl
  rotate_left
  · simp only [Act.put, List.setIfInBounds_toArray, List.set_cons_zero, List.set_cons_succ, i64_w, i32_w]
    rfl
  refine pure_ (i := 6) (N := some 14) (v := ?_) (a' := ?_) #[true, true, true, true, true, true, true, false, false, false, false, false, false] rfl rfl (by kernel_rfl) (fun _ _ _ h => h) (Or.inl ⟨by rfl, ?_⟩) ?_ ?_
  rotate_left
  · intro w'
    go_simp
    with_reducible rfl
  rotate_left
  · simp only [Act.put, List.setIfInBounds_toArray, List.set_cons_zero, List.set_cons_succ, i64_w, i32_w]
    rfl
  refine take_ (i := 7) (N := some 15) (v := ?_) (a' := ?_) #[true, true, true, true, true, true, true, true, false, false, false, false, false] rfl rfl (by kernel_rfl) (fun _ _ _ h => h) (Or.inl ⟨by rfl, ?_⟩) hHeld ?_ ?_
  rotate_left
  · rintro w' ⟨s0, s1, s2, s3⟩
    go_simp
    with_reducible rfl
  rotate_left
  · simp only [Act.put, List.setIfInBounds_toArray, List.set_cons_zero, List.set_cons_succ, i64_w, i32_w]
    rfl
  refine take_ (i := 8) (N := some 16) (v := ?_) (a' := ?_) #[true, true, true, true, true, true, true, true, true, false, false, false, false] rfl rfl (by kernel_rfl) (fun _ _ _ h => h) (Or.inl ⟨by rfl, ?_⟩) hHeld ?_ ?_
  rotate_left
  · rintro w' ⟨s0, s1, s2, s3⟩
    go_simp
    with_reducible rfl
  rotate_left
  · simp only [Act.put, List.setIfInBounds_toArray, List.set_cons_zero, List.set_cons_succ, i64_w, i32_w]
    rfl
  refine pure_ (i := 12) (N := some 20) (v := ?_) (a' := ?_) #[true, true, true, true, true, true, true, true, true, false, false, false, true] rfl rfl (by kernel_rfl) (fun _ _ _ h => h) (Or.inl ⟨by rfl, ?_⟩) ?_ ?_
  rotate_left
  · intro w'
    go_simp
    with_reducible rfl
  rotate_left
  · simp only [Act.put, List.setIfInBounds_toArray, List.set_cons_zero, List.set_cons_succ, i64_w, i32_w]
    rfl
  refine one_ (i := 9) (N := some 17) #[true, true, true, true, true, true, true, true, true, true, false, false, true] rfl rfl (by kernel_rfl) (by decide) (fun K hK => ?_)
  refine goesV_ Try.func88 (by kernel_rfl) rfl #[.string k] #[.pointer (some ⟨bx, 0, none⟩)] (.tmp 15) (by rfl) rfl rfl rfl (by simp only [List.map_toArray, List.map_cons, List.map_nil]; rfl) ?_
  refine (HC.out _ (below_drew1 (Below.refl _ _))).mono ?_
  rintro e w3 ⟨rfl, hb3⟩
  refine ⟨_, rfl, ?_⟩
  have HB3 := Lib.hid ((below_drew1 (Below.refl W.heap.size W)).trans (hb3.mono (below_drew1 (Below.refl W.heap.size W)).size))
  clear hb3
  refine hK.out _ _ (⟨pw_cell_below HB3.out HI.out.1, pw_cell_below HB3.out HI.out.2.1, pw_cell_below HB3.out HI.out.2.2.1, pw_cell_below HB3.out HI.out.2.2.2⟩) (fun hHeld => ?_)
  clear hK K
  refine norm_ (a' := ?_) ?_ ?_
  rotate_left
  · show Act.put _ (some 17) _ = _
    simp only [Act.put, List.setIfInBounds_toArray, List.set_cons_zero, List.set_cons_succ, i64_w, i32_w]
    rfl
  refine pure_ (i := 10) (N := some 18) (v := .slice B m (cA - F)) (a' := ?_) #[true, true, true, true, true, true, true, true, true, true, true, false, true] rfl rfl (by kernel_rfl) (fun _ _ _ h => h) (Or.inl ⟨by rfl, ?_⟩) ?_ ?_
  · intro w'
    go_simp
    rw [if_pos HFL.out, HBD.out, HM.out]
  rotate_left
  · simp only [Act.put, List.setIfInBounds_toArray, List.set_cons_zero, List.set_cons_succ, i64_w, i32_w]
    rfl
  refine pure_ (i := 11) (N := some 19) (v := ?_) (a' := ?_) #[true, true, true, true, true, true, true, true, true, true, true, true, true] rfl rfl (by kernel_rfl) (fun _ _ _ h => h) (Or.inl ⟨by rfl, ?_⟩) ?_ ?_
  rotate_left
  · intro w'
    go_simp
    with_reducible rfl
  rotate_left
  · simp only [Act.put, List.setIfInBounds_toArray, List.set_cons_zero, List.set_cons_succ, i64_w, i32_w]
    rfl
  refine done_ (by kernel_rfl) ?_
  clear hHeld
  gi_wp2
  have hmb : m ≤ 1048576 := by have := HM.out; have := HX.out; omega
  gi_loopw [20] (fun iv W1 => ∃ j : Int, iv = .int .i64 j ∧ 0 ≤ j ∧ j ≤ m ∧ J (F + j.toNat) W1 ∧ W.heap.size ≤ W1.heap.size ∧ Kd.F kR W1 (fun q => ¬ S q) A rows.length rows) (fun iv _ => m - (intOf iv).toNat)
  case atStart => exact ⟨0, rfl, Int.le_refl _, by omega, HJ.out _ _ _ H0.out HB3.out, HB3.out.size, Kd.F_below HF.out HB3.out⟩
  case round =>
    clear H0 HC HI HB3
    obtain ⟨j, rfl, hj0, hj, hjj, hws, hfa⟩ := hrel
    have HJJ := Lib.hid hjj
    have HWS := Lib.hid hws
    have HFA := Lib.hid hfa
    by_cases hlt : j < (m : Int)
    · have hjl : F + j.toNat < rows.length := by have := HM.out; omega
      obtain ⟨ad, c1, hA2, _, hK1, hc1, _⟩ := Kd.F_get hfa rz ((F : Int) + j) (by omega) (by omega)
      obtain rfl := kR_open (Kd.FK_now hK1)
      rw [show ((F : Int) + j).toNat = F + j.toNat by omega] at hc1
      have hBs : B = some (ad.add (F * 3)) := by
        rw [HBD.out, if_neg (by have := HCA.out; omega), hA2]; rfl
      obtain ⟨D, hD⟩ : ∃ D, D = ad.add (F * 3) := ⟨_, rfl⟩
      rw [← hD] at hBs
      subst hBs
      obtain ⟨x, hx⟩ : ∃ x, x = rows.getD (F + j.toNat) rz := ⟨_, rfl⟩
      rw [← hx] at hc1
      have HCS := Lib.hid (fun t u h => (by rw [hD, add_add, add_add, show F * 3 + (j.toNat * 3 + t) = (F + j.toNat) * kR.sz + t by show _ = (F + j.toNat) * 3 + t; omega]; exact hc1 t u h) : ∀ t u, [Value.string x.k, .string x.s, .bool x.gone][t]? = some u → wr.cell? ((D.add (j.toNat * 3)).add t) = some u)
      have HYJ := Lib.hid (fun W1 hJ1 hw1 => HY.out (F + j.toNat) W1 hJ1 (Nat.le_add_right _ _) hjl hw1)
      rw [← hx] at HYJ
      have hjb : j ≤ 1048576 := by omega
      clear hjj hws hfa hc1 hK1 hx hA2 hD hj hjl
      obtain ⟨xk, xs, xg⟩ := x
      dsimp only at HCS HYJ
      gi_wp2_with (first | ((with_reducible refine gate_dstIn (N := 23) rfl ?_); refine wpListIn_load_at rfl 123 (.tmp 22) rfl (D.add (j.toNat * 3)) rfl _ _ HCS.out Try.underlying123 rfl (by kernel_rfl) ?_) | ((with_reducible refine gate_dstIn (N := 5) rfl ?_); refine box_eventIn ?hg (N := 5) ?hd (cs := #[.string ⟨#[]⟩, .string ⟨#[]⟩, .bool false]) (t := 123) ?ha ?hdf ?hr ?_; (case hd => rfl); (case hg => rfl); (case ha => rfl); (case hdf => intro c hc; cases hc); (case hr => first | (go_simp; done) | (go_simp; rfl)); intro gb hgb w5 hz5 hb5 _; have HZ5 := Lib.hid hz5; have HB5 := Lib.hid hb5; have HGB := Lib.hid hgb; clear hgb hz5 hb5) | (refine wpListIn_store_row rfl rfl 123 (.tmp 5) (.tmp 23) rfl (g := gb) rfl rfl HZ5.out (by kernel_rfl) rfl (one3 rfl rfl rfl) ?_; intro w6 hz6 hg6; have HZ6 := Lib.hid hz6; have HG6 := Lib.hid hg6; have c60 := (blk_cell hz6 0).trans rfl; have HC6 := Lib.hid (fun t u h => (by rw [add_at]; exact (blk_cell hz6 (1 + t)).trans (by rcases t with _ | _ | t <;> simpa using h)) : ∀ t u, [Value.string xs, .bool xg][t]? = some u → w6.cell? ((⟨gb, 1, none⟩ : Addr).add t) = some u); have hb6 := HB5.out.grown hg6 HB5.out.size (fun q e => by have := HGB.out; injection e with e; omega); have HB6 := Lib.hid hb6; have HF6 := Lib.hid (Kd.F_below HFA.out hb6); obtain ⟨fn, tmps, assign, body, hy, hR⟩ := HYJ.out w6 (HJ.out _ _ _ HJJ.out hb6) (by have := HWS.out; have := hb6.size; omega); clear hz6 hg6 hb6) | ((with_reducible refine gate_dstIn (N := 28) rfl ?_); refine wpListIn_load_at rfl 38 (.tmp 27) rfl ⟨gb, 1, none⟩ rfl _ _ HC6.out Try.underlying38 rfl (by kernel_rfl) ?_))
      refine hR.mono ?_
      rintro e W3 (⟨rfl, hJ3, hk3⟩ | ⟨rfl, hJx3⟩)
      · have hf3 := Kd.F_kept HF6.out hk3 (fun k hk => hk)
        have HF3 := Lib.hid hf3
        have HS3 := Lib.hid (show W.heap.size ≤ W3.heap.size by have := HWS.out; have := HB6.out.size; have := hk3.1; omega)
        have HJ3 := Lib.hid hJ3
        clear hf3 hk3 hJ3
        gi_wp2
        go_roundw
        case rel => exact ⟨j + 1, by go_num, by omega, by omega, by rw [show F + (j + 1).toNat = F + j.toNat + 1 by omega]; exact HJ3.out, HS3.out, HF3.out⟩
        case measure => simp [intOf]; omega
      · have HJX := Lib.hid hJx3
        clear hJx3
        gi_wp2
        refine bodyPost_ret (results_none rfl _ _ _) rfl ?_
        exact ⟨⟨_, rfl⟩, .inr HJX.out⟩
    · obtain rfl : j = m := by omega
      rw [Int.toNat_natCast] at hjj
      have HJE := Lib.hid (show J rows.length wr by rwa [show F + m = rows.length by have := HM.out; have := HFL.out; omega] at hjj)
      clear hjj hws hfa hj HJJ HWS
      gi_wp2
      go_end0
      exact ⟨⟨_, rfl⟩, .inl HJE.out⟩
end Go.Proofs.Ytfemjlhfgmbcmaa

namespace Go.Proofs.Ytfemjlhfgmbcmaa
open Go.RowKit Go.Shelf Go.Proofs.YtfemjlhfgmbcmaaW.PrintWords Go.Proofs.YtfemjlhfgmbcmaaW.PrintLast Go.Proofs.YtfemjlhfgmbcmaaW.PrintMore
open Go.Proofs.Ytfemjlhfgmbcmaa.PRunBuilds
set_option linter.unusedVariables false
set_option linter.unusedSimpArgs false
attribute [local go_sem] Oper.semAt_some
attribute [local go_sem ↓] Go.wp_at_zero Go.wp_at_succ

/-- What told keeps: the list, the result, how far it is. -/
def TB (w W : World) (q1 q2 : Nat) (A : Option Addr) (n c : Nat) (j : Int) : Prop := Below w.heap.size w W ∧ W.heap[w.heap.size]? = some (.cells #[.slice A n c] 49 (0, 0)) ∧ W.heap[q1]? = some (.cells #[.bool false] 4 (0, 0)) ∧ W.heap[q2]? = some (.cells #[.int .i64 j] 3 (0, 0)) ∧ w.heap.size + 3 ≤ W.heap.size
def cellN (W : World) (g : Nat) : Nat := match W.cell? ⟨g, 0, none⟩ with | some v => (intOf v).toNat | none => 0
theorem TB.below {w W W' : World} {q1 q2 : Nat} {A : Option Addr} {n c : Nat} {j : Int} (h : TB w W q1 q2 A n c j) (hb : Below W.heap.size W W') : TB w W' q1 q2 A n c j := by
  obtain ⟨h1, h2, h3, h4, h5⟩ := h
  exact ⟨h1.trans (hb.mono h1.size), blk_below h2 hb, blk_below h3 hb, blk_below h4 hb, by have := hb.size; omega⟩
theorem TB.set {w W : World} {q1 q2 : Nat} {A : Option Addr} {n c : Nat} {j : Int} (h : TB w W q1 q2 A n c j) (hq : q1 = w.heap.size + 1 ∧ q2 = w.heap.size + 1 + 1) (i : Int) : TB w (W.setCell ⟨q2, 0, none⟩ (.int .i64 i)) q1 q2 A n c i := by
  obtain ⟨h1, h2, h3, h4, h5⟩ := h
  exact ⟨h1.setCell (p := ⟨q2, 0, none⟩) (by show w.heap.size ≤ q2; omega) _, blk_far h2 (p := ⟨q2, 0, none⟩) (by show w.heap.size ≠ q2; omega) _, blk_far h3 (p := ⟨q2, 0, none⟩) (by show q1 ≠ q2; omega) _, blk_set h4 0 _, by rw [World.size_setCell]; exact h5⟩
theorem TB.put {w W : World} {q1 q2 : Nat} {A : Option Addr} {n c : Nat} {j : Int} (h : TB w W q1 q2 A n c j) (hq : q1 = w.heap.size + 1 ∧ q2 = w.heap.size + 1 + 1) {l2 : Nat} (hl : w.heap.size + 6 ≤ l2) (o : Obj) : TB w (W.putObj l2 o) q1 q2 A n c j := by
  obtain ⟨h1, h2, h3, h4, h5⟩ := h
  exact ⟨Below.grown h1 (grownBy_put W l2 _) h1.size (fun b e => by injection e with e; omega), (World.putObj_heap_other (by omega)).trans h2, (World.putObj_heap_other (by omega)).trans h3, (World.putObj_heap_other (by omega)).trans h4, by simp only [World.putObj, Array.size_setIfInBounds]; exact h5⟩
theorem cellN_of {W : World} {g : Nat} {n : Int} (h : W.cell? ⟨g, 0, none⟩ = some (.int .i64 n)) : cellN W g = n.toNat := by unfold cellN; rw [h]; rfl

set_option maxRecDepth 100000 in
set_option maxHeartbeats 16000000 in
theorem told_calls (g base bn c : Nat) (A : Option Addr) (l : List S54) (k : ByteArray) (w : World) (h : Kd.C k54 w A l.length l) (hl : l.length ≤ 1048576) (hr : RunIs w g base (l.map toR) bn) (hso : sortedB (l.map toR) = true) (hmy : ∀ x ∈ l.map toR, x.k.size ≤ maxLen) (hk : k.size ≤ maxLen) :
    Calls Try.prog 70 #[.pointer (some ⟨g, 0, none⟩), .slice A l.length c, .string k] w fun e w' => e = .returned (.bool true) ∧ Below w.heap.size w w' := by
  obtain ⟨rows, hrows⟩ : ∃ rows, rows = l.map toR := ⟨_, rfl⟩
  have hrl : rows.length = l.length := by rw [hrows, List.length_map]
  have HC := Lib.hid (fun (W : World) (hb : Below w.heap.size w W) (i : Int) (h0 : 0 ≤ i) (h1 : i < l.length) => (show ∃ ad x, A = some ad ∧ rows.getD i.toNat rz = x ∧ W.cell? (ad.add (i.toNat * 3)) = some (.string x.k) ∧ ∀ t u, [Value.string x.k, .string x.s, .bool x.gone][t]? = some u → W.cell? ((ad.add (i.toNat * 3)).add t) = some u by rw [hrows]; exact row54r (Kd.C_below h hb) i h0 h1))
  rw [← hrows] at hr hso hmy
  clear hrows h
  have HRL := Lib.hid hrl
  have HR := Lib.hid hr
  have HSO := Lib.hid hso
  have HMY := Lib.hid hmy
  have HKZ := Lib.hid hk
  have HLB := Lib.hid hl
  clear hrl hr hso hmy hk hl
  obtain ⟨F, hF⟩ : ∃ F, F = findI rows k := ⟨_, rfl⟩
  have HFM := Lib.hid (fun (j : Nat) (hj : j < rows.length) => (show ltB (rows.getD j rz).k k = !decide (F ≤ j) by rw [hF]; exact find_mono HSO.out k j hj))
  have HFL := Lib.hid (show F ≤ l.length by rw [hF, ← HRL.out]; exact findI_le rows k)
  have HFK := Lib.hid hF
  clear hF
  refine (callsIn_wide (n := 6)).1 ?_
  refine callsIn_of_wp_marks Try.func70 rfl trivial ?_ rfl
  simp only [Try.ntmps70, List.size_toArray, List.length_cons, List.length_nil, Nat.reduceAdd, Nat.reduceSub, Array.replicate_succ, Array.replicate_zero, List.push_toArray, List.append_toArray, List.nil_append, List.cons_append]
  refine wpIn_mono ?_ (noPanic_le _)
  refine wpIn_wide.2 ?_
  go_wp2_with fail
  obtain ⟨q2, hq2⟩ : ∃ q2, q2 = w.heap.size + 1 + 1 := ⟨_, rfl⟩
  rw [← hq2]
  obtain ⟨q1, hq1⟩ : ∃ q1, q1 = w.heap.size + 1 := ⟨_, rfl⟩
  rw [← hq1]
  obtain ⟨W0, hW0⟩ : ∃ W0, W0 = ((w.alloc (.cells #[.slice A l.length c] 49)).alloc (.cells #[.bool false] 4)).alloc (.cells #[.int .i64 0] 3) := ⟨_, rfl⟩
  rw [← hW0]
  have HT0 := Lib.hid (show TB w W0 q1 q2 A l.length c 0 by
    rw [hW0, hq2, hq1]
    exact ⟨below_alloc (below_alloc (below_alloc (Below.refl _ _) _) _) _, blk_alloc (blk_alloc (blk_new w _) _) _, blk_alloc (heap_alloc2_new w _ _) _, heap_alloc2_new _ _ _ |> fun h => by rwa [World.size_alloc] at h, by simp⟩)
  have HQ := Lib.hid (⟨hq1, hq2⟩ : q1 = w.heap.size + 1 ∧ q2 = w.heap.size + 1 + 1)
  clear hW0 hq1 hq2
  go_loopw [] (fun W => ∃ j : Int, 0 ≤ j ∧ j ≤ l.length ∧ j ≤ F ∧ Hid (TB w W q1 q2 A l.length c j)) (fun W => l.length - cellN W q2)
  case atStart => exact ⟨0, Int.le_refl _, by omega, by omega, HT0⟩
  case round =>
    clear HT0
    obtain ⟨j, hj0, hj, hjF, HT⟩ := hrel
    have hjb : j ≤ 1048576 := by have := HLB.out; omega
    obtain ⟨hbw, t0, t1, t2, tz⟩ := HT.out
    have HBW := Lib.hid hbw
    have c0 := (blk_cell t0 0).trans rfl
    have c2 := (blk_cell t2 0).trans rfl
    clear hbw t0 t1 t2 tz
    by_cases hlt : j < (l.length : Int)
    · obtain ⟨ad, x, hA, hx, i1, -⟩ := HC.out wr HBW.out j hj0 hlt
      subst hA
      have HXZ := Lib.hid (show x.k.size ≤ maxLen by
        refine HMY.out x ?_
        have hjl : j.toNat < rows.length := by have := HRL.out; omega
        rw [← hx, List.getD_eq_getElem?_getD, List.getElem?_eq_getElem hjl]; exact List.getElem_mem hjl)
      have C43 := Lib.hid (fun W => Less_calls x.k k W HXZ.out HKZ.out)
      have HLE := Lib.hid (show ltB x.k k = !decide (F ≤ j.toNat) by rw [← hx]; exact HFM.out j.toNat (by have := HRL.out; omega))
      clear hx
      by_cases hgo : j < (F : Int)
      · have e : ltB x.k k = true := by rw [HLE.out, decide_eq_false (by omega)]; rfl
        rw [e] at C43
        clear e HLE
        obtain ⟨xk, xs, xg⟩ := x
        dsimp only at i1 C43
        go_wp2_with (first | (go_at_call 43; refine (C43.out _).mono ?_; rintro e w1 ⟨rfl, hb1⟩; have HT1 := Lib.hid (HT.out.below hb1); have HB1 := Lib.hid hb1; have c21 := (blk_cell HT1.out.2.2.2.1 0).trans rfl; have f21 := blk_frozen HT1.out.2.2.2.1 0; clear hb1))
        refine ⟨⟨j + 1, by omega, by omega, by omega, Lib.hid (HT1.out.set HQ.out _)⟩, ?_⟩
        rw [cellN_of (blk_cell (HT1.out.set HQ.out (j + 1)).2.2.2.1 0), cellN_of c2]
        omega
      · have e : ltB x.k k = false := by rw [HLE.out, decide_eq_true (by omega)]; rfl
        rw [e] at C43
        clear e HLE
        obtain ⟨xk, xs, xg⟩ := x
        dsimp only at i1 C43
        have HJF := Lib.hid (show j = (F : Int) by omega)
        clear hgo
        go_wp2_with (first | (go_at_call 43; refine (C43.out _).mono ?_; rintro e w1 ⟨rfl, hb1⟩; have HT1 := Lib.hid (HT.out.below hb1); have HB1 := Lib.hid hb1; have c21 := (blk_cell HT1.out.2.2.2.1 0).trans rfl; have f21 := blk_frozen HT1.out.2.2.2.1 0; clear hb1) | (go_at_call 36; refine (From_calls (some ⟨g, 0, none⟩) k w1).mono ?_; rintro e V6 ⟨rb, kb, rfl, hr1, hr2, hb6, hrb, hkb, hsz6⟩; have HR1 := Lib.hid hr1; have HR2 := Lib.hid hr2; have HB6 := Lib.hid hb6; have HZ6 := Lib.hid hsz6; have HRK := Lib.hid (⟨hrb, hkb⟩ : rb = _ ∧ kb = _); clear hr1 hr2 hb6 hrb hkb hsz6))
        refine (wpIn_wide (n := 6)).1 ?_
        refine range_enter (n := 5) 75 #[.pointer (some ⟨rb, 0, none⟩), .pointer (some ⟨kb, 0, none⟩)] rfl (enters_of Try.func75 (by kernel_rfl) rfl) ?_
        intro r W1 hr hpn hps has hbd htm hl hD hbw1 hs1
        have HRR := Lib.hid hr
        have HPN := Lib.hid hpn
        obtain ⟨l2, hl2⟩ : ∃ l2, l2 = V6.heap.size + 1 := ⟨_, rfl⟩
        rw [← hl2] at hl ⊢
        have ht1 : TB w W1 q1 q2 (some ad) l.length c F := HJF.out ▸ (HT1.out.below HB6.out).below hbw1
        have HT9 := Lib.hid ht1
        have HL2 := Lib.hid (show w.heap.size + 6 ≤ l2 ∧ w.heap.size + 5 ≤ V6.heap.size by have := HZ6.out; have := HT1.out.2.2.2.2; omega)
        have HL2E := Lib.hid hl2
        clear hl2
        have HL1 := Lib.hid hl
        have HD1 := Lib.hid hD
        obtain ⟨A', cA, bx, hg, hbx, hFF, _, _, hcap⟩ := HR.out
        have hgl := blk_lt hg
        have hrk1 := blk_below HR1.out hbw1
        have hrk2 := blk_below HR2.out hbw1
        refine (From1_in 5 l2 rb kb g bx (by decide) rows (by have := HRL.out; have := HLB.out; omega) A' cA base _ k (fun q => w.heap.size ≤ q) W1 hrk1 hrk2 (blk_below' hg ht1.1) (blk_below' hbx ht1.1) (Kd.F_mono (Kd.F_below hFF ht1.1) (fun q hq => by have h : q < w.heap.size := hq.2; omega)) HSO.out hcap
          (fun i W' => TB w W' q1 q2 (some ad) l.length c i ∧ W'.heap[l2]? = some (.loop r) ∧ W'.heap[V6.heap.size]? = some (.deferred (some [])))
          (fun _ => False) ?hJw1 ?hYw1 ?h0w1).mono ?postw1
        case hJw1 =>
          rintro i Wa Wb ⟨h1, h2, h3⟩ hb
          exact ⟨h1.below hb, blk_below h2 hb, blk_below h3 hb⟩
        case h0w1 => rw [← HFK.out]; exact ⟨ht1, hl, hD⟩
        case hYw1 =>
          rintro jn W3 ⟨htb, hlp, hdf⟩ hFj hjn hws
          rw [← HFK.out] at hFj
          obtain ⟨j, hjj⟩ : ∃ j : Int, j = jn := ⟨_, rfl⟩
          have hjt : j.toNat = jn := by omega
          rw [← hjj] at htb
          have hj0 : 0 ≤ j := by omega
          have hlt : j < (l.length : Int) := by have := HRL.out; omega
          obtain ⟨rbz, hrbz⟩ : ∃ rbz : Loop, rbz = { r with state := .busy } := ⟨_, rfl⟩
          refine round_enter2 rbz hrbz hlp HRR.out (by rw [hps]; rfl) ?_
          rw [has, hbd, htm, hps]
          obtain ⟨x, hx⟩ : ∃ x, x = rows.getD jn rz := ⟨_, rfl⟩
          rw [← hx]
          rw [← hjt] at hx
          have HX := Lib.hid hx
          have HRBZ := Lib.hid hrbz
          have HTB := Lib.hid htb
          have HLP := Lib.hid hlp
          have HDF := Lib.hid hdf
          have HJT := Lib.hid hjt
          have HJN := Lib.hid hjj
          have hjb : j ≤ 1048576 := by have := HLB.out; omega
          clear hx hrbz htb hlp hdf hjt hjj hFj hjn hws
          obtain ⟨xk, xs, xg⟩ := x
          dsimp only
          gi_wp2
          obtain ⟨w5, hw5⟩ : ∃ w5, w5 = W3.alloc (.cells #[.string xs, .bool xg] 38) := ⟨_, rfl⟩
          rw [← hw5]
          have hb5 : Below W3.heap.size W3 w5 := hw5 ▸ below_alloc (Below.refl _ _) _
          have hn5 : w5.heap[W3.heap.size]? = some (.cells #[.string xs, .bool xg] 38) := hw5 ▸ blk_new W3 _
          have hl5 : w5.heap[l2]? = some (.loop r) := (hb5.block _ (blk_lt HLP.out)).trans HLP.out
          refine ⟨hl5, ?_⟩
          have hlz := blk_lt HLP.out
          obtain ⟨w6, hw6⟩ : ∃ w6, w6 = w5.putObj l2 (.loop rbz) := ⟨_, rfl⟩
          rw [← hw6]
          have HL6 := Lib.hid (show w6.heap[l2]? = some (.loop rbz) from hw6 ▸ World.putObj_heap_same (blk_lt hl5))
          have ht6 : TB w w6 q1 q2 (some ad) l.length c j := hw6 ▸ (HTB.out.below hb5).put HQ.out HL2.out.1 _
          have hn6 : w6.heap[W3.heap.size]? = some (.cells #[.string xs, .bool xg] 38) := by rw [hw6]; exact (World.putObj_heap_other (by omega)).trans hn5
          have HD6 := Lib.hid (show w6.heap[V6.heap.size]? = some (.deferred (some [])) by rw [hw6]; exact (World.putObj_heap_other (by have := HL2E.out; omega)).trans ((hb5.block _ (blk_lt HDF.out)).trans HDF.out))
          obtain ⟨ad2, x2, hA, hx2, i1, hcs⟩ := HC.out w6 ht6.1 j hj0 hlt
          obtain rfl : ad = ad2 := by injection hA
          rw [← HX.out] at hx2
          subst hx2
          dsimp only at i1 hcs
          have hc38 : ∀ t u, [Value.string xs, .bool xg][t]? = some u → w6.cell? ((⟨(ad.add (j.toNat * 3)).block, (ad.add (j.toNat * 3)).off + 1, none⟩ : Addr).add t) = some u := fun t u h => by
            rw [← add_field _ _ 1 (by omega), add_add]
            have h2 := hcs (t + 1) u (by simpa using h)
            rwa [add_add, show j.toNat * 3 + (t + 1) = j.toNat * 3 + 1 + t by omega] at h2
          have HT6 := Lib.hid ht6
          have HS7 := Lib.hid (⟨(blk_cell ht6.2.2.2.1 0).trans rfl, (blk_cell ht6.2.1 0).trans rfl, i1, rangeAt_of_blk hn6, hc38⟩ : w6.drew.cell? ⟨q2, 0, none⟩ = some (.int .i64 j) ∧ w6.drew.cell? ⟨w.heap.size, 0, none⟩ = some (.slice (some ad) l.length c) ∧ w6.drew.cell? (ad.add (j.toNat * 3)) = some (.string xk) ∧ w6.drew.rangeAt W3.heap.size 0 [.string xs, .bool xg] ∧ (∀ t u, [Value.string xs, .bool xg][t]? = some u → w6.drew.cell? ((⟨(ad.add (j.toNat * 3)).block, (ad.add (j.toNat * 3)).off + 1, none⟩ : Addr).add t) = some u))
          have h38 : ∀ W, Sem.run Try.prog (binOp BinOp.neq 38 (.agg #[.string xs, .bool xg]) (.agg #[.string xs, .bool xg])) W = .ok (.bool false) W := fun W => by rw [neq38, (cellEq_iff xs xs xg xg).2 ⟨rfl, rfl⟩]; rfl
          have hge : decide ((l.length : Int) ≤ j) = false := decide_eq_false (by omega)
          have c70 : w6.drew.cell? ⟨q2, 0, none⟩ = some (.int .i64 j) := HS7.out.1
          have f70 : w6.drew.frozen? ⟨q2, 0, none⟩ = false := blk_frozen (w := w6.drew) ht6.2.2.2.1 0
          have HS6 := Lib.hid (show W3.heap.size ≤ w6.heap.size by rw [hw6]; simp only [World.putObj, Array.size_setIfInBounds]; exact hb5.size)
          clear hw5 hb5 hn5 hl5 hlz hw6 ht6 hn6 i1 hcs hc38
          gi_wp2
          refine startR_ (k := 22) (S := fun w' => w'.cell? ⟨q2, 0, none⟩ = some (.int .i64 j) ∧ w'.cell? ⟨w.heap.size, 0, none⟩ = some (.slice (some ad) l.length c) ∧ w'.cell? (ad.add (j.toNat * 3)) = some (.string xk) ∧ w'.rangeAt W3.heap.size 0 [.string xs, .bool xg] ∧ (∀ t u, [Value.string xs, .bool xg][t]? = some u → w'.cell? ((⟨(ad.add (j.toNat * 3)).block, (ad.add (j.toNat * 3)).off + 1, none⟩ : Addr).add t) = some u)) (ds := []) #[false, false, false, false, false, false, false, false, false, false, false, false, false, false, false, false, false, false, false, false, false, false] (by kernel_rfl) rfl rfl (noDefer_spec (by kernel_rfl)) (by rintro ⟨_, _, h⟩; exact h) (HS7.out) (fun hHeld => ?_)
          refine take_ (i := 0) (N := some 30) (v := ?_) (a' := ?_) #[true, false, false, false, false, false, false, false, false, false, false, false, false, false, false, false, false, false, false, false, false, false] rfl rfl (by kernel_rfl) (fun _ _ _ h => h) (Or.inl ⟨by rfl, ?_⟩) hHeld ?_ ?_
          rotate_left
          · rintro w' ⟨s0, s1, s2, s3, s4⟩
            go_simp
            with_reducible rfl
          rotate_left
          · simp only [Act.put, List.setIfInBounds_toArray, List.set_cons_zero, List.set_cons_succ, i64_w, i32_w]
            rfl
          refine take_ (i := 1) (N := some 31) (v := ?_) (a' := ?_) #[true, true, false, false, false, false, false, false, false, false, false, false, false, false, false, false, false, false, false, false, false, false] rfl rfl (by kernel_rfl) (fun _ _ _ h => h) (Or.inl ⟨by rfl, ?_⟩) hHeld ?_ ?_
          rotate_left
          · rintro w' ⟨s0, s1, s2, s3, s4⟩
            go_simp
            with_reducible rfl
          rotate_left
          · simp only [Act.put, List.setIfInBounds_toArray, List.set_cons_zero, List.set_cons_succ, i64_w, i32_w]
            rfl
          refine pure_ (i := 2) (N := some 32) (v := ?_) (a' := ?_) #[true, true, true, false, false, false, false, false, false, false, false, false, false, false, false, false, false, false, false, false, false, false] rfl rfl (by kernel_rfl) (fun _ _ _ h => h) (Or.inl ⟨by rfl, ?_⟩) ?_ ?_
          rotate_left
          · intro w'
            go_simp
            with_reducible rfl
          rotate_left
          · simp only [Act.put, List.setIfInBounds_toArray, List.set_cons_zero, List.set_cons_succ, i64_w, i32_w]
            rfl
          refine pure_ (i := 3) (N := some 33) (v := ?_) (a' := ?_) #[true, true, true, true, false, false, false, false, false, false, false, false, false, false, false, false, false, false, false, false, false, false] rfl rfl (by kernel_rfl) (fun _ _ _ h => h) (Or.inl ⟨by rfl, ?_⟩) ?_ ?_
          rotate_left
          · intro w'
            go_simp
            with_reducible rfl
          rotate_left
          · simp only [Act.put, List.setIfInBounds_toArray, List.set_cons_zero, List.set_cons_succ, i64_w, i32_w]
            rfl
          refine pure_ (i := 4) (N := some 34) (v := ?_) (a' := ?_) #[true, true, true, true, true, false, false, false, false, false, false, false, false, false, false, false, false, false, false, false, false, false] rfl rfl (by kernel_rfl) (fun _ _ _ h => h) (Or.inl ⟨by rfl, ?_⟩) ?_ ?_
          rotate_left
          · intro w'
            go_simp
            with_reducible rfl
          rotate_left
          · simp only [Act.put, List.setIfInBounds_toArray, List.set_cons_zero, List.set_cons_succ, i64_w, i32_w]
            rfl
          refine take_ (i := 5) (N := some 35) (v := ?_) (a' := ?_) #[true, true, true, true, true, true, false, false, false, false, false, false, false, false, false, false, false, false, false, false, false, false] rfl rfl (by kernel_rfl) (fun _ _ _ h => h) (Or.inl ⟨by rfl, ?_⟩) hHeld ?_ ?_
          rotate_left
          · rintro w' ⟨s0, s1, s2, s3, s4⟩
            go_simp
            with_reducible rfl
          rotate_left
          · simp only [Act.put, List.setIfInBounds_toArray, List.set_cons_zero, List.set_cons_succ, i64_w, i32_w]
            rfl
          refine take_ (i := 6) (N := some 36) (v := ?_) (a' := ?_) #[true, true, true, true, true, true, true, false, false, false, false, false, false, false, false, false, false, false, false, false, false, false] rfl rfl (by kernel_rfl) (fun _ _ _ h => h) (Or.inl ⟨by rfl, ?_⟩) hHeld ?_ ?_
          rotate_left
          · rintro w' ⟨s0, s1, s2, s3, s4⟩
            go_simp
            with_reducible rfl
          rotate_left
          · simp only [Act.put, List.setIfInBounds_toArray, List.set_cons_zero, List.set_cons_succ, i64_w, i32_w]
            rfl
          refine pure_ (i := 7) (N := some 37) (v := ?_) (a' := ?_) #[true, true, true, true, true, true, true, true, false, false, false, false, false, false, false, false, false, false, false, false, false, false] rfl rfl (by kernel_rfl) (fun _ _ _ h => h) (Or.inl ⟨by rfl, ?_⟩) ?_ ?_
          rotate_left
          · intro w'
            go_simp
            with_reducible rfl
          rotate_left
          · simp only [Act.put, List.setIfInBounds_toArray, List.set_cons_zero, List.set_cons_succ, i64_w, i32_w]
            rfl
          refine pure_ (i := 8) (N := some 38) (v := ?_) (a' := ?_) #[true, true, true, true, true, true, true, true, true, false, false, false, false, false, false, false, false, false, false, false, false, false] rfl rfl (by kernel_rfl) (fun _ _ _ h => h) (Or.inl ⟨by rfl, ?_⟩) ?_ ?_
          rotate_left
          · intro w'
            go_simp
            with_reducible rfl
          rotate_left
          · simp only [Act.put, List.setIfInBounds_toArray, List.set_cons_zero, List.set_cons_succ, i64_w, i32_w]
            rfl
          refine take_ (i := 9) (N := some 39) (v := ?_) (a' := ?_) #[true, true, true, true, true, true, true, true, true, true, false, false, false, false, false, false, false, false, false, false, false, false] rfl rfl (by kernel_rfl) (fun _ _ _ h => h) (Or.inl ⟨by rfl, ?_⟩) hHeld ?_ ?_
          rotate_left
          · rintro w' ⟨s0, s1, s2, s3, s4⟩
            go_simp
            with_reducible rfl
          rotate_left
          · simp only [Act.put, List.setIfInBounds_toArray, List.set_cons_zero, List.set_cons_succ, i64_w, i32_w]
            rfl
          refine pure_ (i := 10) (N := some 40) (v := ?_) (a' := ?_) #[true, true, true, true, true, true, true, true, true, true, true, false, false, false, false, false, false, false, false, false, false, false] rfl rfl (by kernel_rfl) (fun _ _ _ h => h) (Or.inl ⟨by rfl, ?_⟩) ?_ ?_
          rotate_left
          · intro w'
            go_simp
            with_reducible rfl
          rotate_left
          · simp only [Act.put, List.setIfInBounds_toArray, List.set_cons_zero, List.set_cons_succ, i64_w, i32_w]
            rfl
          refine pure_ (i := 11) (N := some 41) (v := ?_) (a' := ?_) #[true, true, true, true, true, true, true, true, true, true, true, true, false, false, false, false, false, false, false, false, false, false] rfl rfl (by kernel_rfl) (fun _ _ _ h => h) (Or.inl ⟨by rfl, ?_⟩) ?_ ?_
          rotate_left
          · intro w'
            go_simp
            with_reducible rfl
          rotate_left
          · simp only [Act.put, List.setIfInBounds_toArray, List.set_cons_zero, List.set_cons_succ, i64_w, i32_w]
            rfl
          refine pure_ (i := 12) (N := some 42) (v := ?_) (a' := ?_) #[true, true, true, true, true, true, true, true, true, true, true, true, true, false, false, false, false, false, false, false, false, false] rfl rfl (by kernel_rfl) (fun _ _ _ h => h) (Or.inl ⟨by rfl, ?_⟩) ?_ ?_
          rotate_left
          · intro w'
            go_simp
            with_reducible rfl
          rotate_left
          · simp only [Act.put, List.setIfInBounds_toArray, List.set_cons_zero, List.set_cons_succ, i64_w, i32_w]
            rfl
          refine pure_ (i := 13) (N := some 43) (v := ?_) (a' := ?_) #[true, true, true, true, true, true, true, true, true, true, true, true, true, true, false, false, false, false, false, false, false, false] rfl rfl (by kernel_rfl) (fun _ _ _ h => h) (Or.inl ⟨by rfl, ?_⟩) ?_ ?_
          rotate_left
          · intro w'
            go_simp
            with_reducible rfl
          rotate_left
          · simp only [Act.put, List.setIfInBounds_toArray, List.set_cons_zero, List.set_cons_succ, i64_w, i32_w]
            rfl
          refine take_ (i := 14) (N := some 44) (v := ?_) (a' := ?_) #[true, true, true, true, true, true, true, true, true, true, true, true, true, true, true, false, false, false, false, false, false, false] rfl rfl (by kernel_rfl) (fun _ _ _ h => h) (Or.inl ⟨by rfl, ?_⟩) hHeld ?_ ?_
          rotate_left
          · rintro w' ⟨s0, s1, s2, s3, s4⟩
            go_simp
            with_reducible rfl
          rotate_left
          · simp only [Act.put, List.setIfInBounds_toArray, List.set_cons_zero, List.set_cons_succ, i64_w, i32_w]
            rfl
          refine take_ (i := 15) (N := some 45) (v := ?_) (a' := ?_) #[true, true, true, true, true, true, true, true, true, true, true, true, true, true, true, true, false, false, false, false, false, false] rfl rfl (by kernel_rfl) (fun _ _ _ h => h) (Or.inl ⟨by rfl, ?_⟩) hHeld ?_ ?_
          rotate_left
          · rintro w' ⟨s0, s1, s2, s3, s4⟩
            go_simp
            with_reducible rfl
          rotate_left
          · simp only [Act.put, List.setIfInBounds_toArray, List.set_cons_zero, List.set_cons_succ, i64_w, i32_w]
            rfl
          refine pure_ (i := 16) (N := some 46) (v := ?_) (a' := ?_) #[true, true, true, true, true, true, true, true, true, true, true, true, true, true, true, true, true, false, false, false, false, false] rfl rfl (by kernel_rfl) (fun _ _ _ h => h) (Or.inl ⟨by rfl, ?_⟩) ?_ ?_
          rotate_left
          · intro w'
            go_simp
            with_reducible rfl
          rotate_left
          · simp only [Act.put, List.setIfInBounds_toArray, List.set_cons_zero, List.set_cons_succ, i64_w, i32_w]
            rfl
          refine pure_ (i := 17) (N := some 47) (v := ?_) (a' := ?_) #[true, true, true, true, true, true, true, true, true, true, true, true, true, true, true, true, true, true, false, false, false, false] rfl rfl (by kernel_rfl) (fun _ _ _ h => h) (Or.inl ⟨by rfl, ?_⟩) ?_ ?_
          rotate_left
          · intro w'
            go_simp
            with_reducible rfl
          rotate_left
          · simp only [Act.put, List.setIfInBounds_toArray, List.set_cons_zero, List.set_cons_succ, i64_w, i32_w]
            rfl
          refine take_ (i := 18) (N := some 48) (v := .agg [.string xs, .bool xg].toArray) (a' := ?_) #[true, true, true, true, true, true, true, true, true, true, true, true, true, true, true, true, true, true, true, false, false, false] rfl rfl (by kernel_rfl) (fun _ _ _ h => h) (yieldsIf_load_adr (by rfl) 38 (.tmp 47) rfl ⟨(ad.add (j.toNat * 3)).block, (ad.add (j.toNat * 3)).off + 1, none⟩ rfl [.string xs, .bool xg] _ (fun w' h => h.2.2.2.2) Try.underlying38 rfl (by kernel_rfl)) hHeld ?_ ?_
          rotate_left
          · simp only [Act.put, List.setIfInBounds_toArray, List.set_cons_zero, List.set_cons_succ, i64_w, i32_w]
            rfl
          refine take_ (i := 19) (N := some 49) (v := .agg [.string xs, .bool xg].toArray) (a' := ?_) #[true, true, true, true, true, true, true, true, true, true, true, true, true, true, true, true, true, true, true, true, false, false] rfl rfl (by kernel_rfl) (fun _ _ _ h => h) (yieldsIf_load_mid (by rfl) 38 (.tmp 9) rfl W3.heap.size (0) rfl [.string xs, .bool xg] _ (fun w' h => h.2.2.2.1) Try.underlying38 rfl (by kernel_rfl)) hHeld ?_ ?_
          rotate_left
          · simp only [Act.put, List.setIfInBounds_toArray, List.set_cons_zero, List.set_cons_succ, i64_w, i32_w]
            rfl
          refine pure_ (i := 20) (N := some 50) (v := ?_) (a' := ?_) #[true, true, true, true, true, true, true, true, true, true, true, true, true, true, true, true, true, true, true, true, true, false] rfl rfl (by kernel_rfl) (fun _ _ _ h => h) (Or.inl ⟨by rfl, ?_⟩) ?_ ?_
          rotate_left
          · intro w'
            go_simp
            with_reducible rfl
          rotate_left
          · simp only [Act.put, List.setIfInBounds_toArray, List.set_cons_zero, List.set_cons_succ, i64_w, i32_w]
            rfl
          refine pure_ (i := 21) (N := some 51) (v := ?_) (a' := ?_) #[true, true, true, true, true, true, true, true, true, true, true, true, true, true, true, true, true, true, true, true, true, true] rfl rfl (by kernel_rfl) (fun _ _ _ h => h) (Or.inl ⟨by rfl, ?_⟩) ?_ ?_
          rotate_left
          · intro w'
            go_simp
            with_reducible rfl
          rotate_left
          · simp only [Act.put, List.setIfInBounds_toArray, List.set_cons_zero, List.set_cons_succ, i64_w, i32_w]
            rfl
          refine done_ (by kernel_rfl) ?_
          clear hHeld
          gi_wp2
          obtain ⟨w8, hw8⟩ : ∃ w8, w8 = (w6.setCell ⟨q2, 0, none⟩ (.int .i64 (j + 1))).drew := ⟨_, rfl⟩
          rw [← hw8]
          have ht8 := (HT6.out.set HQ.out (j + 1)).below (below_drew1 (Below.refl (w6.setCell ⟨q2, 0, none⟩ (.int .i64 (j + 1))).heap.size (w6.setCell ⟨q2, 0, none⟩ (.int .i64 (j + 1)))))
          rw [← hw8] at ht8
          have hlq := HL2.out
          have hqq := HQ.out
          have hle := HL2E.out
          have hl8 : w8.heap[l2]? = some (.loop rbz) := by rw [hw8]; exact (Below.heap_setCell _ _ _ l2 (by show l2 ≠ q2; omega)).trans HL6.out
          have hd8 : w8.heap[V6.heap.size]? = some (.deferred (some [])) := by rw [hw8]; exact (Below.heap_setCell _ _ _ _ (by show V6.heap.size ≠ q2; omega)).trans HD6.out
          have hs8 : w8.heap.size = w6.heap.size := by rw [hw8]; exact World.size_setCell _ _ _
          have hr8 := ht8.put HQ.out HL2.out.1 (.loop r)
          refine round_goes hl8 ⟨rfl, ?_, ?_⟩
          all_goals
            have hrr : ({ rbz with state := .ready, pending := none } : Loop) = r := by rw [HRBZ.out]; exact rec_back HRR.out HPN.out
            rw [hrr]
          · refine ⟨?_, World.putObj_heap_same (blk_lt hl8), (World.putObj_heap_other (by omega)).trans hd8⟩
            rw [HJN.out] at hr8
            exact hr8
          · refine ⟨by have := HS6.out; simp only [World.putObj, Array.size_setIfInBounds]; omega, fun q hk hn => ?_⟩
            have hn : ¬ w.heap.size ≤ q := hn
            exact (hr8.1.block q (by omega)).trans (HTB.out.1.block q (by omega)).symm
        case postw1 =>
          rintro e W4 ⟨⟨ve, rfl⟩, h4⟩
          rcases h4 with ⟨htb, hlp, hdf⟩ | h4
          · refine ⟨⟨_, rfl⟩, r, hlp, by rw [HRR.out]; decide, ?_⟩
            intro W5 hW5
            rw [HPN.out]
            dsimp only
            have hl2 := HL2.out
            have htx : TB w W5 q1 q2 (some ad) l.length c rows.length := hW5 ▸ htb.put HQ.out hl2.1 _
            have HK := Lib.hid (show W5.heap[V6.heap.size]? = some (.deferred (some [])) by rw [hW5]; exact (World.putObj_heap_other (by have := HL2E.out; omega)).trans hdf)
            rw [HRL.out] at htx
            have HTX := Lib.hid htx
            have c50 := (blk_cell htx.2.2.2.1 0).trans rfl
            have c51 := (blk_cell htx.2.1 0).trans rfl
            have c52 := (blk_cell htx.2.2.1 0).trans rfl
            have f52 := blk_frozen htx.2.2.1 0
            have hee : ((l.length : Int) == (l.length : Int)) = true := beq_self_eq_true _
            clear htb hlp hdf hW5 htx hl2
            go_wp2_with fail
            show bodyPostM _ _ _ _ _ Exit.ret _ _
            obtain ⟨W8, hW8⟩ : ∃ W8, W8 = W5.setCell ⟨q1, 0, none⟩ (.bool true) := ⟨_, rfl⟩
            rw [← hW8]
            have hlq := HL2.out
            have hqq := HQ.out
            have hz : (W8.putObj V6.heap.size (.deferred none)).cell? ⟨q1, 0, none⟩ = some (.bool true) := by
              have h1 : W8.heap[q1]? = some (.cells #[.bool true] 4 (0, 0)) := by rw [hW8]; exact blk_set HTX.out.2.2.1 0 _
              exact (blk_cell ((World.putObj_heap_other (by omega)).trans h1) 0).trans rfl
            have hk8 : W8.heap[V6.heap.size]? = some (.deferred (some [])) := by rw [hW8]; exact (Below.heap_setCell _ _ _ _ (by show V6.heap.size ≠ q1; omega)).trans HK.out
            have hx8 : Below w.heap.size w W8 := by rw [hW8]; exact HTX.out.1.setCell (p := ⟨q1, 0, none⟩) (by show w.heap.size ≤ q1; omega) _
            refine ⟨by simp, .inl ⟨_, _, rfl, run_takeDeferred hk8, ?_⟩⟩
            refine ⟨.bool true, ?_, rfl, ?_⟩
            · simp [results, Try.f70, go_sem, hz]
            · exact Below.grown hx8 (grownBy_put W8 _ _) hx8.size (fun b e => by injection e with e; omega)
          · exact h4.elim
    · have HJF := Lib.hid (show j = (F : Int) by have := HFL.out; omega)
      go_wp2_with (first | (go_at_call 36; refine (From_calls (some ⟨g, 0, none⟩) k wr).mono ?_; rintro e V6 ⟨rb, kb, rfl, hr1, hr2, hb6, hrb, hkb, hsz6⟩; have HR1 := Lib.hid hr1; have HR2 := Lib.hid hr2; have HB6 := Lib.hid hb6; have HZ6 := Lib.hid hsz6; have HRK := Lib.hid (⟨hrb, hkb⟩ : rb = _ ∧ kb = _); clear hr1 hr2 hb6 hrb hkb hsz6))
      refine (wpIn_wide (n := 6)).1 ?_
      refine range_enter (n := 5) 75 #[.pointer (some ⟨rb, 0, none⟩), .pointer (some ⟨kb, 0, none⟩)] rfl (enters_of Try.func75 (by kernel_rfl) rfl) ?_
      intro r W1 hr hpn hps has hbd htm hl hD hbw1 hs1
      have HRR := Lib.hid hr
      have HPN := Lib.hid hpn
      obtain ⟨l2, hl2⟩ : ∃ l2, l2 = V6.heap.size + 1 := ⟨_, rfl⟩
      rw [← hl2] at hl ⊢
      have ht1 : TB w W1 q1 q2 A l.length c F := HJF.out ▸ (HT.out.below HB6.out).below hbw1
      have HT9 := Lib.hid ht1
      have HL2 := Lib.hid (show w.heap.size + 6 ≤ l2 ∧ w.heap.size + 5 ≤ V6.heap.size by have := HZ6.out; have := HT.out.2.2.2.2; omega)
      have HL2E := Lib.hid hl2
      clear hl2
      have HL1 := Lib.hid hl
      have HD1 := Lib.hid hD
      obtain ⟨A', cA, bx, hg, hbx, hFF, _, _, hcap⟩ := HR.out
      have hgl := blk_lt hg
      have hrk1 := blk_below HR1.out hbw1
      have hrk2 := blk_below HR2.out hbw1
      refine (From1_in 5 l2 rb kb g bx (by decide) rows (by have := HRL.out; have := HLB.out; omega) A' cA base _ k (fun q => w.heap.size ≤ q) W1 hrk1 hrk2 (blk_below' hg ht1.1) (blk_below' hbx ht1.1) (Kd.F_mono (Kd.F_below hFF ht1.1) (fun q hq => by have h : q < w.heap.size := hq.2; omega)) HSO.out hcap
        (fun i W' => TB w W' q1 q2 A l.length c i ∧ W'.heap[l2]? = some (.loop r) ∧ W'.heap[V6.heap.size]? = some (.deferred (some [])))
        (fun _ => False) ?hJwr ?hYwr ?h0wr).mono ?postwr
      case hJwr =>
        rintro i Wa Wb ⟨h1, h2, h3⟩ hb
        exact ⟨h1.below hb, blk_below h2 hb, blk_below h3 hb⟩
      case h0wr => rw [← HFK.out]; exact ⟨ht1, hl, hD⟩
      case hYwr =>
        rintro jn W3 ⟨htb, hlp, hdf⟩ hFj hjn hws
        rw [← HFK.out] at hFj
        obtain ⟨j, hjj⟩ : ∃ j : Int, j = jn := ⟨_, rfl⟩
        have hjt : j.toNat = jn := by omega
        rw [← hjj] at htb
        have hj0 : 0 ≤ j := by omega
        have hlt : j < (l.length : Int) := by have := HRL.out; omega
        obtain ⟨rbz, hrbz⟩ : ∃ rbz : Loop, rbz = { r with state := .busy } := ⟨_, rfl⟩
        refine round_enter2 rbz hrbz hlp HRR.out (by rw [hps]; rfl) ?_
        rw [has, hbd, htm, hps]
        obtain ⟨x, hx⟩ : ∃ x, x = rows.getD jn rz := ⟨_, rfl⟩
        rw [← hx]
        rw [← hjt] at hx
        have HX := Lib.hid hx
        have HRBZ := Lib.hid hrbz
        have HTB := Lib.hid htb
        have HLP := Lib.hid hlp
        have HDF := Lib.hid hdf
        have HJT := Lib.hid hjt
        have HJN := Lib.hid hjj
        have hjb : j ≤ 1048576 := by have := HLB.out; omega
        clear hx hrbz htb hlp hdf hjt hjj hFj hjn hws
        obtain ⟨xk, xs, xg⟩ := x
        dsimp only
        gi_wp2
        obtain ⟨w5, hw5⟩ : ∃ w5, w5 = W3.alloc (.cells #[.string xs, .bool xg] 38) := ⟨_, rfl⟩
        rw [← hw5]
        have hb5 : Below W3.heap.size W3 w5 := hw5 ▸ below_alloc (Below.refl _ _) _
        have hn5 : w5.heap[W3.heap.size]? = some (.cells #[.string xs, .bool xg] 38) := hw5 ▸ blk_new W3 _
        have hl5 : w5.heap[l2]? = some (.loop r) := (hb5.block _ (blk_lt HLP.out)).trans HLP.out
        refine ⟨hl5, ?_⟩
        have hlz := blk_lt HLP.out
        obtain ⟨w6, hw6⟩ : ∃ w6, w6 = w5.putObj l2 (.loop rbz) := ⟨_, rfl⟩
        rw [← hw6]
        have HL6 := Lib.hid (show w6.heap[l2]? = some (.loop rbz) from hw6 ▸ World.putObj_heap_same (blk_lt hl5))
        have ht6 : TB w w6 q1 q2 A l.length c j := hw6 ▸ (HTB.out.below hb5).put HQ.out HL2.out.1 _
        have hn6 : w6.heap[W3.heap.size]? = some (.cells #[.string xs, .bool xg] 38) := by rw [hw6]; exact (World.putObj_heap_other (by omega)).trans hn5
        have HD6 := Lib.hid (show w6.heap[V6.heap.size]? = some (.deferred (some [])) by rw [hw6]; exact (World.putObj_heap_other (by have := HL2E.out; omega)).trans ((hb5.block _ (blk_lt HDF.out)).trans HDF.out))
        obtain ⟨ad, x2, hA, hx2, i1, hcs⟩ := HC.out w6 ht6.1 j hj0 hlt
        subst hA
        rw [← HX.out] at hx2
        subst hx2
        dsimp only at i1 hcs
        have hc38 : ∀ t u, [Value.string xs, .bool xg][t]? = some u → w6.cell? ((⟨(ad.add (j.toNat * 3)).block, (ad.add (j.toNat * 3)).off + 1, none⟩ : Addr).add t) = some u := fun t u h => by
          rw [← add_field _ _ 1 (by omega), add_add]
          have h2 := hcs (t + 1) u (by simpa using h)
          rwa [add_add, show j.toNat * 3 + (t + 1) = j.toNat * 3 + 1 + t by omega] at h2
        have HT6 := Lib.hid ht6
        have HS7 := Lib.hid (⟨(blk_cell ht6.2.2.2.1 0).trans rfl, (blk_cell ht6.2.1 0).trans rfl, i1, rangeAt_of_blk hn6, hc38⟩ : w6.drew.cell? ⟨q2, 0, none⟩ = some (.int .i64 j) ∧ w6.drew.cell? ⟨w.heap.size, 0, none⟩ = some (.slice (some ad) l.length c) ∧ w6.drew.cell? (ad.add (j.toNat * 3)) = some (.string xk) ∧ w6.drew.rangeAt W3.heap.size 0 [.string xs, .bool xg] ∧ (∀ t u, [Value.string xs, .bool xg][t]? = some u → w6.drew.cell? ((⟨(ad.add (j.toNat * 3)).block, (ad.add (j.toNat * 3)).off + 1, none⟩ : Addr).add t) = some u))
        have h38 : ∀ W, Sem.run Try.prog (binOp BinOp.neq 38 (.agg #[.string xs, .bool xg]) (.agg #[.string xs, .bool xg])) W = .ok (.bool false) W := fun W => by rw [neq38, (cellEq_iff xs xs xg xg).2 ⟨rfl, rfl⟩]; rfl
        have hge : decide ((l.length : Int) ≤ j) = false := decide_eq_false (by omega)
        have c70 : w6.drew.cell? ⟨q2, 0, none⟩ = some (.int .i64 j) := HS7.out.1
        have f70 : w6.drew.frozen? ⟨q2, 0, none⟩ = false := blk_frozen (w := w6.drew) ht6.2.2.2.1 0
        have HS6 := Lib.hid (show W3.heap.size ≤ w6.heap.size by rw [hw6]; simp only [World.putObj, Array.size_setIfInBounds]; exact hb5.size)
        clear hw5 hb5 hn5 hl5 hlz hw6 ht6 hn6 i1 hcs hc38
        gi_wp2
        refine startR_ (k := 22) (S := fun w' => w'.cell? ⟨q2, 0, none⟩ = some (.int .i64 j) ∧ w'.cell? ⟨w.heap.size, 0, none⟩ = some (.slice (some ad) l.length c) ∧ w'.cell? (ad.add (j.toNat * 3)) = some (.string xk) ∧ w'.rangeAt W3.heap.size 0 [.string xs, .bool xg] ∧ (∀ t u, [Value.string xs, .bool xg][t]? = some u → w'.cell? ((⟨(ad.add (j.toNat * 3)).block, (ad.add (j.toNat * 3)).off + 1, none⟩ : Addr).add t) = some u)) (ds := []) #[false, false, false, false, false, false, false, false, false, false, false, false, false, false, false, false, false, false, false, false, false, false] (by kernel_rfl) rfl rfl (noDefer_spec (by kernel_rfl)) (by rintro ⟨_, _, h⟩; exact h) (HS7.out) (fun hHeld => ?_)
        refine take_ (i := 0) (N := some 30) (v := ?_) (a' := ?_) #[true, false, false, false, false, false, false, false, false, false, false, false, false, false, false, false, false, false, false, false, false, false] rfl rfl (by kernel_rfl) (fun _ _ _ h => h) (Or.inl ⟨by rfl, ?_⟩) hHeld ?_ ?_
        rotate_left
        · rintro w' ⟨s0, s1, s2, s3, s4⟩
          go_simp
          with_reducible rfl
        rotate_left
        · simp only [Act.put, List.setIfInBounds_toArray, List.set_cons_zero, List.set_cons_succ, i64_w, i32_w]
          rfl
        refine take_ (i := 1) (N := some 31) (v := ?_) (a' := ?_) #[true, true, false, false, false, false, false, false, false, false, false, false, false, false, false, false, false, false, false, false, false, false] rfl rfl (by kernel_rfl) (fun _ _ _ h => h) (Or.inl ⟨by rfl, ?_⟩) hHeld ?_ ?_
        rotate_left
        · rintro w' ⟨s0, s1, s2, s3, s4⟩
          go_simp
          with_reducible rfl
        rotate_left
        · simp only [Act.put, List.setIfInBounds_toArray, List.set_cons_zero, List.set_cons_succ, i64_w, i32_w]
          rfl
        refine pure_ (i := 2) (N := some 32) (v := ?_) (a' := ?_) #[true, true, true, false, false, false, false, false, false, false, false, false, false, false, false, false, false, false, false, false, false, false] rfl rfl (by kernel_rfl) (fun _ _ _ h => h) (Or.inl ⟨by rfl, ?_⟩) ?_ ?_
        rotate_left
        · intro w'
          go_simp
          with_reducible rfl
        rotate_left
        · simp only [Act.put, List.setIfInBounds_toArray, List.set_cons_zero, List.set_cons_succ, i64_w, i32_w]
          rfl
        refine pure_ (i := 3) (N := some 33) (v := ?_) (a' := ?_) #[true, true, true, true, false, false, false, false, false, false, false, false, false, false, false, false, false, false, false, false, false, false] rfl rfl (by kernel_rfl) (fun _ _ _ h => h) (Or.inl ⟨by rfl, ?_⟩) ?_ ?_
        rotate_left
        · intro w'
          go_simp
          with_reducible rfl
        rotate_left
        · simp only [Act.put, List.setIfInBounds_toArray, List.set_cons_zero, List.set_cons_succ, i64_w, i32_w]
          rfl
        refine pure_ (i := 4) (N := some 34) (v := ?_) (a' := ?_) #[true, true, true, true, true, false, false, false, false, false, false, false, false, false, false, false, false, false, false, false, false, false] rfl rfl (by kernel_rfl) (fun _ _ _ h => h) (Or.inl ⟨by rfl, ?_⟩) ?_ ?_
        rotate_left
        · intro w'
          go_simp
          with_reducible rfl
        rotate_left
        · simp only [Act.put, List.setIfInBounds_toArray, List.set_cons_zero, List.set_cons_succ, i64_w, i32_w]
          rfl
        refine take_ (i := 5) (N := some 35) (v := ?_) (a' := ?_) #[true, true, true, true, true, true, false, false, false, false, false, false, false, false, false, false, false, false, false, false, false, false] rfl rfl (by kernel_rfl) (fun _ _ _ h => h) (Or.inl ⟨by rfl, ?_⟩) hHeld ?_ ?_
        rotate_left
        · rintro w' ⟨s0, s1, s2, s3, s4⟩
          go_simp
          with_reducible rfl
        rotate_left
        · simp only [Act.put, List.setIfInBounds_toArray, List.set_cons_zero, List.set_cons_succ, i64_w, i32_w]
          rfl
        refine take_ (i := 6) (N := some 36) (v := ?_) (a' := ?_) #[true, true, true, true, true, true, true, false, false, false, false, false, false, false, false, false, false, false, false, false, false, false] rfl rfl (by kernel_rfl) (fun _ _ _ h => h) (Or.inl ⟨by rfl, ?_⟩) hHeld ?_ ?_
        rotate_left
        · rintro w' ⟨s0, s1, s2, s3, s4⟩
          go_simp
          with_reducible rfl
        rotate_left
        · simp only [Act.put, List.setIfInBounds_toArray, List.set_cons_zero, List.set_cons_succ, i64_w, i32_w]
          rfl
        refine pure_ (i := 7) (N := some 37) (v := ?_) (a' := ?_) #[true, true, true, true, true, true, true, true, false, false, false, false, false, false, false, false, false, false, false, false, false, false] rfl rfl (by kernel_rfl) (fun _ _ _ h => h) (Or.inl ⟨by rfl, ?_⟩) ?_ ?_
        rotate_left
        · intro w'
          go_simp
          with_reducible rfl
        rotate_left
        · simp only [Act.put, List.setIfInBounds_toArray, List.set_cons_zero, List.set_cons_succ, i64_w, i32_w]
          rfl
        refine pure_ (i := 8) (N := some 38) (v := ?_) (a' := ?_) #[true, true, true, true, true, true, true, true, true, false, false, false, false, false, false, false, false, false, false, false, false, false] rfl rfl (by kernel_rfl) (fun _ _ _ h => h) (Or.inl ⟨by rfl, ?_⟩) ?_ ?_
        rotate_left
        · intro w'
          go_simp
          with_reducible rfl
        rotate_left
        · simp only [Act.put, List.setIfInBounds_toArray, List.set_cons_zero, List.set_cons_succ, i64_w, i32_w]
          rfl
        refine take_ (i := 9) (N := some 39) (v := ?_) (a' := ?_) #[true, true, true, true, true, true, true, true, true, true, false, false, false, false, false, false, false, false, false, false, false, false] rfl rfl (by kernel_rfl) (fun _ _ _ h => h) (Or.inl ⟨by rfl, ?_⟩) hHeld ?_ ?_
        rotate_left
        · rintro w' ⟨s0, s1, s2, s3, s4⟩
          go_simp
          with_reducible rfl
        rotate_left
        · simp only [Act.put, List.setIfInBounds_toArray, List.set_cons_zero, List.set_cons_succ, i64_w, i32_w]
          rfl
        refine pure_ (i := 10) (N := some 40) (v := ?_) (a' := ?_) #[true, true, true, true, true, true, true, true, true, true, true, false, false, false, false, false, false, false, false, false, false, false] rfl rfl (by kernel_rfl) (fun _ _ _ h => h) (Or.inl ⟨by rfl, ?_⟩) ?_ ?_
        rotate_left
        · intro w'
          go_simp
          with_reducible rfl
        rotate_left
        · simp only [Act.put, List.setIfInBounds_toArray, List.set_cons_zero, List.set_cons_succ, i64_w, i32_w]
          rfl
        refine pure_ (i := 11) (N := some 41) (v := ?_) (a' := ?_) #[true, true, true, true, true, true, true, true, true, true, true, true, false, false, false, false, false, false, false, false, false, false] rfl rfl (by kernel_rfl) (fun _ _ _ h => h) (Or.inl ⟨by rfl, ?_⟩) ?_ ?_
        rotate_left
        · intro w'
          go_simp
          with_reducible rfl
        rotate_left
        · simp only [Act.put, List.setIfInBounds_toArray, List.set_cons_zero, List.set_cons_succ, i64_w, i32_w]
          rfl
        refine pure_ (i := 12) (N := some 42) (v := ?_) (a' := ?_) #[true, true, true, true, true, true, true, true, true, true, true, true, true, false, false, false, false, false, false, false, false, false] rfl rfl (by kernel_rfl) (fun _ _ _ h => h) (Or.inl ⟨by rfl, ?_⟩) ?_ ?_
        rotate_left
        · intro w'
          go_simp
          with_reducible rfl
        rotate_left
        · simp only [Act.put, List.setIfInBounds_toArray, List.set_cons_zero, List.set_cons_succ, i64_w, i32_w]
          rfl
        refine pure_ (i := 13) (N := some 43) (v := ?_) (a' := ?_) #[true, true, true, true, true, true, true, true, true, true, true, true, true, true, false, false, false, false, false, false, false, false] rfl rfl (by kernel_rfl) (fun _ _ _ h => h) (Or.inl ⟨by rfl, ?_⟩) ?_ ?_
        rotate_left
        · intro w'
          go_simp
          with_reducible rfl
        rotate_left
        · simp only [Act.put, List.setIfInBounds_toArray, List.set_cons_zero, List.set_cons_succ, i64_w, i32_w]
          rfl
        refine take_ (i := 14) (N := some 44) (v := ?_) (a' := ?_) #[true, true, true, true, true, true, true, true, true, true, true, true, true, true, true, false, false, false, false, false, false, false] rfl rfl (by kernel_rfl) (fun _ _ _ h => h) (Or.inl ⟨by rfl, ?_⟩) hHeld ?_ ?_
        rotate_left
        · rintro w' ⟨s0, s1, s2, s3, s4⟩
          go_simp
          with_reducible rfl
        rotate_left
        · simp only [Act.put, List.setIfInBounds_toArray, List.set_cons_zero, List.set_cons_succ, i64_w, i32_w]
          rfl
        refine take_ (i := 15) (N := some 45) (v := ?_) (a' := ?_) #[true, true, true, true, true, true, true, true, true, true, true, true, true, true, true, true, false, false, false, false, false, false] rfl rfl (by kernel_rfl) (fun _ _ _ h => h) (Or.inl ⟨by rfl, ?_⟩) hHeld ?_ ?_
        rotate_left
        · rintro w' ⟨s0, s1, s2, s3, s4⟩
          go_simp
          with_reducible rfl
        rotate_left
        · simp only [Act.put, List.setIfInBounds_toArray, List.set_cons_zero, List.set_cons_succ, i64_w, i32_w]
          rfl
        refine pure_ (i := 16) (N := some 46) (v := ?_) (a' := ?_) #[true, true, true, true, true, true, true, true, true, true, true, true, true, true, true, true, true, false, false, false, false, false] rfl rfl (by kernel_rfl) (fun _ _ _ h => h) (Or.inl ⟨by rfl, ?_⟩) ?_ ?_
        rotate_left
        · intro w'
          go_simp
          with_reducible rfl
        rotate_left
        · simp only [Act.put, List.setIfInBounds_toArray, List.set_cons_zero, List.set_cons_succ, i64_w, i32_w]
          rfl
        refine pure_ (i := 17) (N := some 47) (v := ?_) (a' := ?_) #[true, true, true, true, true, true, true, true, true, true, true, true, true, true, true, true, true, true, false, false, false, false] rfl rfl (by kernel_rfl) (fun _ _ _ h => h) (Or.inl ⟨by rfl, ?_⟩) ?_ ?_
        rotate_left
        · intro w'
          go_simp
          with_reducible rfl
        rotate_left
        · simp only [Act.put, List.setIfInBounds_toArray, List.set_cons_zero, List.set_cons_succ, i64_w, i32_w]
          rfl
        refine take_ (i := 18) (N := some 48) (v := .agg [.string xs, .bool xg].toArray) (a' := ?_) #[true, true, true, true, true, true, true, true, true, true, true, true, true, true, true, true, true, true, true, false, false, false] rfl rfl (by kernel_rfl) (fun _ _ _ h => h) (yieldsIf_load_adr (by rfl) 38 (.tmp 47) rfl ⟨(ad.add (j.toNat * 3)).block, (ad.add (j.toNat * 3)).off + 1, none⟩ rfl [.string xs, .bool xg] _ (fun w' h => h.2.2.2.2) Try.underlying38 rfl (by kernel_rfl)) hHeld ?_ ?_
        rotate_left
        · simp only [Act.put, List.setIfInBounds_toArray, List.set_cons_zero, List.set_cons_succ, i64_w, i32_w]
          rfl
        refine take_ (i := 19) (N := some 49) (v := .agg [.string xs, .bool xg].toArray) (a' := ?_) #[true, true, true, true, true, true, true, true, true, true, true, true, true, true, true, true, true, true, true, true, false, false] rfl rfl (by kernel_rfl) (fun _ _ _ h => h) (yieldsIf_load_mid (by rfl) 38 (.tmp 9) rfl W3.heap.size (0) rfl [.string xs, .bool xg] _ (fun w' h => h.2.2.2.1) Try.underlying38 rfl (by kernel_rfl)) hHeld ?_ ?_
        rotate_left
        · simp only [Act.put, List.setIfInBounds_toArray, List.set_cons_zero, List.set_cons_succ, i64_w, i32_w]
          rfl
        refine pure_ (i := 20) (N := some 50) (v := ?_) (a' := ?_) #[true, true, true, true, true, true, true, true, true, true, true, true, true, true, true, true, true, true, true, true, true, false] rfl rfl (by kernel_rfl) (fun _ _ _ h => h) (Or.inl ⟨by rfl, ?_⟩) ?_ ?_
        rotate_left
        · intro w'
          go_simp
          with_reducible rfl
        rotate_left
        · simp only [Act.put, List.setIfInBounds_toArray, List.set_cons_zero, List.set_cons_succ, i64_w, i32_w]
          rfl
        refine pure_ (i := 21) (N := some 51) (v := ?_) (a' := ?_) #[true, true, true, true, true, true, true, true, true, true, true, true, true, true, true, true, true, true, true, true, true, true] rfl rfl (by kernel_rfl) (fun _ _ _ h => h) (Or.inl ⟨by rfl, ?_⟩) ?_ ?_
        rotate_left
        · intro w'
          go_simp
          with_reducible rfl
        rotate_left
        · simp only [Act.put, List.setIfInBounds_toArray, List.set_cons_zero, List.set_cons_succ, i64_w, i32_w]
          rfl
        refine done_ (by kernel_rfl) ?_
        clear hHeld
        gi_wp2
        obtain ⟨w8, hw8⟩ : ∃ w8, w8 = (w6.setCell ⟨q2, 0, none⟩ (.int .i64 (j + 1))).drew := ⟨_, rfl⟩
        rw [← hw8]
        have ht8 := (HT6.out.set HQ.out (j + 1)).below (below_drew1 (Below.refl (w6.setCell ⟨q2, 0, none⟩ (.int .i64 (j + 1))).heap.size (w6.setCell ⟨q2, 0, none⟩ (.int .i64 (j + 1)))))
        rw [← hw8] at ht8
        have hlq := HL2.out
        have hqq := HQ.out
        have hle := HL2E.out
        have hl8 : w8.heap[l2]? = some (.loop rbz) := by rw [hw8]; exact (Below.heap_setCell _ _ _ l2 (by show l2 ≠ q2; omega)).trans HL6.out
        have hd8 : w8.heap[V6.heap.size]? = some (.deferred (some [])) := by rw [hw8]; exact (Below.heap_setCell _ _ _ _ (by show V6.heap.size ≠ q2; omega)).trans HD6.out
        have hs8 : w8.heap.size = w6.heap.size := by rw [hw8]; exact World.size_setCell _ _ _
        have hr8 := ht8.put HQ.out HL2.out.1 (.loop r)
        refine round_goes hl8 ⟨rfl, ?_, ?_⟩
        all_goals
          have hrr : ({ rbz with state := .ready, pending := none } : Loop) = r := by rw [HRBZ.out]; exact rec_back HRR.out HPN.out
          rw [hrr]
        · refine ⟨?_, World.putObj_heap_same (blk_lt hl8), (World.putObj_heap_other (by omega)).trans hd8⟩
          rw [HJN.out] at hr8
          exact hr8
        · refine ⟨by have := HS6.out; simp only [World.putObj, Array.size_setIfInBounds]; omega, fun q hk hn => ?_⟩
          have hn : ¬ w.heap.size ≤ q := hn
          exact (hr8.1.block q (by omega)).trans (HTB.out.1.block q (by omega)).symm
      case postwr =>
        rintro e W4 ⟨⟨ve, rfl⟩, h4⟩
        rcases h4 with ⟨htb, hlp, hdf⟩ | h4
        · refine ⟨⟨_, rfl⟩, r, hlp, by rw [HRR.out]; decide, ?_⟩
          intro W5 hW5
          rw [HPN.out]
          dsimp only
          have hl2 := HL2.out
          have htx : TB w W5 q1 q2 A l.length c rows.length := hW5 ▸ htb.put HQ.out hl2.1 _
          have HK := Lib.hid (show W5.heap[V6.heap.size]? = some (.deferred (some [])) by rw [hW5]; exact (World.putObj_heap_other (by have := HL2E.out; omega)).trans hdf)
          rw [HRL.out] at htx
          have HTX := Lib.hid htx
          have c50 := (blk_cell htx.2.2.2.1 0).trans rfl
          have c51 := (blk_cell htx.2.1 0).trans rfl
          have c52 := (blk_cell htx.2.2.1 0).trans rfl
          have f52 := blk_frozen htx.2.2.1 0
          have hee : ((l.length : Int) == (l.length : Int)) = true := beq_self_eq_true _
          clear htb hlp hdf hW5 htx hl2
          go_wp2_with fail
          show bodyPostM _ _ _ _ _ Exit.ret _ _
          obtain ⟨W8, hW8⟩ : ∃ W8, W8 = W5.setCell ⟨q1, 0, none⟩ (.bool true) := ⟨_, rfl⟩
          rw [← hW8]
          have hlq := HL2.out
          have hqq := HQ.out
          have hz : (W8.putObj V6.heap.size (.deferred none)).cell? ⟨q1, 0, none⟩ = some (.bool true) := by
            have h1 : W8.heap[q1]? = some (.cells #[.bool true] 4 (0, 0)) := by rw [hW8]; exact blk_set HTX.out.2.2.1 0 _
            exact (blk_cell ((World.putObj_heap_other (by omega)).trans h1) 0).trans rfl
          have hk8 : W8.heap[V6.heap.size]? = some (.deferred (some [])) := by rw [hW8]; exact (Below.heap_setCell _ _ _ _ (by show V6.heap.size ≠ q1; omega)).trans HK.out
          have hx8 : Below w.heap.size w W8 := by rw [hW8]; exact HTX.out.1.setCell (p := ⟨q1, 0, none⟩) (by show w.heap.size ≤ q1; omega) _
          refine ⟨by simp, .inl ⟨_, _, rfl, run_takeDeferred hk8, ?_⟩⟩
          refine ⟨.bool true, ?_, rfl, ?_⟩
          · simp [results, Try.f70, go_sem, hz]
          · exact Below.grown hx8 (grownBy_put W8 _ _) hx8.size (fun b e => by injection e with e; omega)
        · exact h4.elim
end Go.Proofs.Ytfemjlhfgmbcmaa

namespace Go.Proofs.Ytfemjlhfgmbcmaa
open Go.RowKit Go.Shelf Go.Proofs.YtfemjlhfgmbcmaaW.PrintWords Go.Proofs.YtfemjlhfgmbcmaaW.PrintLast Go.Proofs.YtfemjlhfgmbcmaaW.PrintMore
open Go.Proofs.Ytfemjlhfgmbcmaa.PRunBuilds
set_option linter.unusedVariables false
set_option linter.unusedSimpArgs false
attribute [local go_sem ↓] Go.wp_at_zero Go.wp_at_succ

/-- What was built opens as it was. -/
structure BuiltOk (b : Int) (rows : List RRow) (n : Nat) : Prop where
  opens : openF (buildF b rows).1 = some (rows, n)
  size : (buildF b rows).1.size ≤ maxLen
  many : n = (closeS (goB b rows none ms0).2).many
  le : n ≤ rows.length
  zero : rows.length = 0 ↔ n = 0
  sorted : sortedB rows = true
  lo : 64 ≤ b
  hi : b ≤ 4096
  good : (goB b rows none ms0).1 = 0
theorem built_ok (b : Int) (rows : List RRow) (h : (buildF b rows).2 = 0) : ∃ n, BuiltOk b rows n := by
  obtain ⟨bl, hf, hok, hs, hm, h1, h2, h3⟩ := buildF_ok b rows h
  have ho := openF_run bl hok
  have hn := BlkOk.len hok.ok
  have hso := hok.ord
  rw [hf] at ho hn hso
  refine ⟨bl.length, by rw [hs]; exact ho, by rw [hs]; have := hok.sz; unfold maxLen; omega, hm.symm, hn, ⟨fun h => by omega, fun h => ?_⟩, hso, h1, h2, h3⟩
  have e : bl = [] := List.length_eq_zero_iff.1 h
  rw [← hf, e]; rfl
theorem OB {rows : List RRow} {s : ByteArray} {n : Nat} {W : World} (h : openF s = some (rows, n) ∧ s.size ≤ maxLen) : Calls Try.prog 42 #[.string s] W fun e w' => ∃ g, e = .returned (.tuple #[.pointer (some ⟨g, 0, none⟩), .int .i64 0]) ∧ Below W.heap.size W w' ∧ RunIs w' g W.heap.size rows n := by
  have h1 := Open_calls s W h.2
  rw [h.1] at h1
  exact h1
theorem blocks_le (rows : List RRow) {n m : Nat} (h1 : BuiltOk 64 rows n) (h2 : BuiltOk 4096 rows m) : m ≤ n := by
  rw [h1.many, h2.many]
  exact (LeM.go (by decide) (by decide) rows none ms0 ms0 (.inr ⟨rfl, Nat.le_refl _⟩) h1.good h2.good).close

set_option maxRecDepth 100000 in
set_option maxHeartbeats 4000000 in
theorem runBlocks_fin (A : Option Addr) (c : Nat) (l : List S54) (w : World) (h : Kd.C k54 w A l.length l) (hl : l.length ≤ 1048576) :
    Calls Try.prog 23 #[.slice A l.length c] w fun e w' => e = .returned (.bool true) ∧ Below w.heap.size w w' := by
  have HC := Lib.hid (fun (W : World) (hb : Below w.heap.size w W) => Kd.C_below h hb)
  have HL := Lib.hid hl
  obtain ⟨rows, hrows⟩ : ∃ rows, rows = l.map toR := ⟨_, rfl⟩
  have hrl : rows.length ≤ 1048576 := by rw [hrows, List.length_map]; exact hl
  have HA := Lib.hid (fun (W : World) (hb : Below w.heap.size w W) => (show Calls Try.prog 41 #[.int .i64 64, .slice A l.length c] W fun e w' => e = .returned (.tuple #[.string (buildF 64 rows).1, .int .i64 (buildF 64 rows).2]) ∧ Below W.heap.size W w' by rw [hrows]; exact built_calls 64 A c l W (HC.out W hb) hl))
  have HB := Lib.hid (fun (W : World) (hb : Below w.heap.size w W) => (show Calls Try.prog 41 #[.int .i64 4096, .slice A l.length c] W fun e w' => e = .returned (.tuple #[.string (buildF 4096 rows).1, .int .i64 (buildF 4096 rows).2]) ∧ Below W.heap.size W w' by rw [hrows]; exact built_calls 4096 A c l W (HC.out W hb) hl))
  have hoA := built_ok 64 rows
  have hoB := built_ok 4096 rows
  obtain ⟨SA, hSA⟩ : ∃ x, x = buildF 64 rows := ⟨_, rfl⟩
  obtain ⟨SB, hSB⟩ : ∃ x, x = buildF 4096 rows := ⟨_, rfl⟩
  have HSA := Lib.hid hSA
  have HSB := Lib.hid hSB
  rw [← hSA] at HA hoA
  rw [← hSB] at HB hoB
  clear hSA hSB hrows h hl
  obtain ⟨sA, eA⟩ := SA
  obtain ⟨sB, eB⟩ := SB
  dsimp only at HA HB hoA hoB
  have HF1 : True := trivial
  have HF2 : True := trivial
  by_cases hA : eA = 0
  · subst hA
    obtain ⟨n, hn⟩ := hoA rfl
    have HOA := Lib.hid hn
    have hq : (((0 : Nat) : Int) != 0) = false := rfl
    have HXA := Lib.hid (show openF sA = some (rows, n) ∧ sA.size ≤ maxLen from ⟨by have := hn.opens; rwa [← HSA.out] at this, by have := hn.size; rwa [← HSA.out] at this⟩)
    clear hoA hn
    by_cases hB : eB = 0
    · subst hB
      obtain ⟨m, hm⟩ := hoB rfl
      have HXB := Lib.hid (show openF sB = some (rows, m) ∧ sB.size ≤ maxLen from ⟨by have := hm.opens; rwa [← HSB.out] at this, by have := hm.size; rwa [← HSB.out] at this⟩)
      have h1 : decide ((n : Int) ≤ (rows.length : Int)) = true := decide_eq_true (by have := HOA.out.le; omega)
      have h2 : decide ((m : Int) ≤ (n : Int)) = true := decide_eq_true (by have := blocks_le rows HOA.out hm; omega)
      have h1n : decide (n ≤ rows.length) = true := decide_eq_true HOA.out.le
      have h2n : decide (m ≤ n) = true := decide_eq_true (blocks_le rows HOA.out hm)
      have h1p := HOA.out.le
      have h2p := blocks_le rows HOA.out hm
      have h3 : ((rows.length : Int) == (rows.length : Int)) = true := by simp
      have e1 : ((rows.length : Int) == 0) = ((n : Int) == 0) := by
        have hz := HOA.out.zero
        rw [Bool.eq_iff_iff, beq_iff_eq, beq_iff_eq]
        omega
      have h4 : (((rows.length : Int) == 0) == ((n : Int) == 0)) = true := by rw [e1]; exact beq_self_eq_true _
      clear e1
      clear hoB hm
      go_enter Try.func23, Try.ntmps23
      go_wp2_with (first | (go_at_call 34; refine (shown7_calls _).mono ?_; rintro e w1 ⟨rfl, hb1⟩; have HB1 := Lib.hid hb1; clear hb1) | (go_at_call 41; clear HF1; refine (HA.out _ HB1.out).mono ?_; rintro e w2 ⟨rfl, hb2⟩; have HB2 := Lib.hid (HB1.out.trans (hb2.mono HB1.out.size)); clear hb2) | (go_at_call 41; refine (HB.out _ HB2.out).mono ?_; rintro e w3 ⟨rfl, hb3⟩; have HB3 := Lib.hid (HB2.out.trans (hb3.mono HB2.out.size)); clear hb3) | (go_at_call 42; clear HF2; refine (OB HXA.out).mono ?_; rintro e w4 ⟨g1, rfl, hb4, hr4⟩; have HB4 := Lib.hid (HB3.out.trans (hb4.mono HB3.out.size)); have HR4 := Lib.hid hr4; clear hb4 hr4) | (go_at_call 42; refine (OB HXB.out).mono ?_; rintro e w5 ⟨g2, rfl, hb5, hr5⟩; have HB5 := Lib.hid (HB4.out.trans (hb5.mono HB4.out.size)); have HR45 := Lib.hid (HR4.out.below hb5); have HR5 := Lib.hid hr5; clear hb5 hr5) | (go_at_call 39; refine (RLen_calls (by first | exact HR45.out | exact HR5.out)).mono ?_; rintro e w' ⟨rfl, rfl⟩) | (go_at_call 40; refine (RBlocks_calls (by first | exact HR45.out | exact HR5.out)).mono ?_; rintro e w' ⟨rfl, rfl⟩))
      go_ret
      exact ⟨rfl, HB5.out⟩
    · have hq2 : ((eB : Int) != 0) = true := by simpa using hB
      clear hoB hB
      go_enter Try.func23, Try.ntmps23
      go_wp2_with (first | (go_at_call 34; refine (shown7_calls _).mono ?_; rintro e w1 ⟨rfl, hb1⟩; have HB1 := Lib.hid hb1; clear hb1) | (go_at_call 41; clear HF1; refine (HA.out _ HB1.out).mono ?_; rintro e w2 ⟨rfl, hb2⟩; have HB2 := Lib.hid (HB1.out.trans (hb2.mono HB1.out.size)); clear hb2) | (go_at_call 41; refine (HB.out _ HB2.out).mono ?_; rintro e w3 ⟨rfl, hb3⟩; have HB3 := Lib.hid (HB2.out.trans (hb3.mono HB2.out.size)); clear hb3))
      go_ret
      exact ⟨rfl, HB3.out⟩
  · have hq : ((eA : Int) != 0) = true := by simpa using hA
    clear hoA hoB hA
    go_enter Try.func23, Try.ntmps23
    go_wp2_with (first | (go_at_call 34; refine (shown7_calls _).mono ?_; rintro e w1 ⟨rfl, hb1⟩; have HB1 := Lib.hid hb1; clear hb1) | (go_at_call 41; clear HF1; refine (HA.out _ HB1.out).mono ?_; rintro e w2 ⟨rfl, hb2⟩; have HB2 := Lib.hid (HB1.out.trans (hb2.mono HB1.out.size)); clear hb2) | (go_at_call 41; refine (HB.out _ HB2.out).mono ?_; rintro e w3 ⟨rfl, hb3⟩; have HB3 := Lib.hid (HB2.out.trans (hb3.mono HB2.out.size)); clear hb3))
    go_ret
    exact ⟨rfl, HB3.out⟩
end Go.Proofs.Ytfemjlhfgmbcmaa

namespace Go.Proofs.Ytfemjlhfgmbcmaa
open Go.RowKit Go.Shelf Go.Proofs.YtfemjlhfgmbcmaaW.PrintWords Go.Proofs.YtfemjlhfgmbcmaaW.PrintLast Go.Proofs.YtfemjlhfgmbcmaaW.PrintMore
open Go.Proofs.Ytfemjlhfgmbcmaa.PRunBuilds
set_option linter.unusedVariables false
set_option linter.unusedSimpArgs false
attribute [local go_sem ↓] Go.wp_at_zero Go.wp_at_succ

/-- What a prefix of a run opens as. -/
theorem cut_opens (b : Int) (rows : List RRow) (h : (buildF b rows).2 = 0) (p : ByteArray) (cut : Nat) (hp : p.data.toList = (buildF b rows).1.data.toList.take cut) (hc : cut < (buildF b rows).1.size) (r : List RRow × Nat) (hr : openF p = some r) : r.1.length < rows.length := by
  obtain ⟨bl, hf, hok, hs, -⟩ := buildF_ok b rows h
  rw [hs] at hp hc
  rw [← hf]
  exact openF_cut bl hok p cut hp hc r hr
theorem OPre {s : ByteArray} {W : World} {r : List RRow × Nat} (h : openF s = some r ∧ s.size ≤ maxLen) : Calls Try.prog 42 #[.string s] W fun e w' => ∃ g, e = .returned (.tuple #[.pointer (some ⟨g, 0, none⟩), .int .i64 0]) ∧ Below W.heap.size W w' ∧ RunIs w' g W.heap.size r.1 r.2 := by
  have h1 := Open_calls s W h.2
  rw [h.1] at h1
  exact h1
theorem ONone {s : ByteArray} {W : World} (h : openF s = none ∧ s.size ≤ maxLen) : Calls Try.prog 42 #[.string s] W fun e w' => e = .returned (.tuple #[.pointer none, .int .i64 3]) ∧ Below W.heap.size W w' := by
  have h1 := Open_calls s W h.2
  rw [h.1] at h1
  exact h1

set_option maxRecDepth 100000 in
set_option maxHeartbeats 4000000 in
theorem runBack_fin (b cut : Int) (f : ByteArray) (A : Option Addr) (c : Nat) (l : List S54) (w : World) (h : Kd.C k54 w A l.length l) (hl : l.length ≤ 1048576) (hf : f.size ≤ 1048576) :
    Calls Try.prog 24 #[.agg #[.int .i64 b, .slice A l.length c, .int .i64 cut, .string f]] w fun e w' => e = .returned (.bool true) ∧ Below w.heap.size w w' := by
  have HB0 := Lib.hid (below_alloc (Below.refl w.heap.size w) (.cells #[.int .i64 b, .slice A l.length c, .int .i64 cut, .string f] 109))
  have HC := Lib.hid (fun (W : World) (hb : Below w.heap.size w W) => Kd.C_below h hb)
  obtain ⟨rows, hrows⟩ : ∃ rows, rows = l.map toR := ⟨_, rfl⟩
  have hrl : rows.length = l.length := by rw [hrows, List.length_map]
  have HRL := Lib.hid hrl
  have HLB := Lib.hid hl
  have HA := Lib.hid (fun (W : World) (hb : Below w.heap.size w W) => (show Calls Try.prog 41 #[.int .i64 b, .slice A l.length c] W fun e w' => e = .returned (.tuple #[.string (buildF b rows).1, .int .i64 (buildF b rows).2]) ∧ Below W.heap.size W w' by rw [hrows]; exact built_calls b A c l W (HC.out W hb) hl))
  have HTD := Lib.hid (fun (g base n : Nat) (k : ByteArray) (W : World) (hb : Below w.heap.size w W) (hr : RunIs W g base rows n) (hso : sortedB rows = true) (hmy : ∀ x ∈ rows, x.k.size ≤ maxLen) (hk : k.size ≤ 1048576) => told_calls g base n c A l k W (HC.out W hb) hl (by rw [← hrows]; exact hr) (by rw [← hrows]; exact hso) (by rw [← hrows]; exact hmy) (by unfold maxLen; omega))
  have hoA := built_ok b rows
  have hco := cut_opens b rows
  obtain ⟨SA, hSA⟩ : ∃ x, x = buildF b rows := ⟨_, rfl⟩
  have HSA := Lib.hid hSA
  rw [← hSA] at HA hoA hco
  have HFZ := Lib.hid hf
  clear hSA hrows h hl hrl hf
  obtain ⟨sA, eA⟩ := SA
  dsimp only at HA hoA hco
  have HF1 : True := trivial
  have HF2 : True := trivial
  by_cases hA : eA = 0
  · subst hA
    obtain ⟨n, hn⟩ := hoA rfl
    have HOA := Lib.hid hn
    have HCO := Lib.hid (hco rfl)
    have hq : (((0 : Nat) : Int) != 0) = false := rfl
    have HXA := Lib.hid (show openF sA = some (rows, n) ∧ sA.size ≤ maxLen from ⟨by have := hn.opens; rwa [← HSA.out] at this, by have := hn.size; rwa [← HSA.out] at this⟩)
    have HMY := Lib.hid (fun x (hx : x ∈ rows) => (show x.k.size ≤ maxLen by have := (mayN_sz (goB_may b rows none ms0 hn.good x hx)).1; unfold maxLen; omega))
    clear hoA hn hco
    have h39 : ((rows.length : Int) != (l.length : Int)) = false := by simp [HRL.out]
    by_cases hc0 : 0 ≤ cut ∧ cut < (sA.size : Int)
    · have hd1 : decide ((0 : Int) ≤ cut) = true := decide_eq_true hc0.1
      have hd2 : decide (cut < (sA.size : Int)) = true := decide_eq_true hc0.2
      have hn1 : 0 ≤ cut := hc0.1
      have hn2 : cut < (sA.size : Int) := hc0.2
      have hn3 : cut.toNat ≤ sA.size := by omega
      clear hc0
      have hpz : (sA.extract 0 cut.toNat).size ≤ maxLen := by have := HXA.out.2; rw [ByteArray.size_extract]; omega
      have hpd : (sA.extract 0 cut.toNat).data.toList = sA.data.toList.take cut.toNat := by rw [ByteArray.data_extract]; simp
      have hcut := HCO.out (sA.extract 0 cut.toNat) cut.toNat hpd (by omega)
      clear hpd
      have HF3 : True := trivial
      cases ho : openF (sA.extract 0 cut.toNat) with
      | none =>
        have HPN := Lib.hid (show openF (sA.extract 0 cut.toNat) = none ∧ (sA.extract 0 cut.toNat).size ≤ maxLen from ⟨ho, hpz⟩)
        clear ho hcut hpz
        go_enter Try.func24, Try.ntmps24
        go_wp2_with (first | (go_at_call 34; refine (shown7_calls _).mono ?_; rintro e w1 ⟨rfl, hb1⟩; have HB1 := Lib.hid (HB0.out.trans (hb1.mono HB0.out.size)); clear hb1) | (go_at_call 41; refine (HA.out _ HB1.out).mono ?_; rintro e w2 ⟨rfl, hb2⟩; have HB2 := Lib.hid (HB1.out.trans (hb2.mono HB1.out.size)); clear hb2) | (go_at_call 42; clear HF1; refine (OB HXA.out).mono ?_; rintro e w3 ⟨g1, rfl, hb3, hr3⟩; have HB3 := Lib.hid (HB2.out.trans (hb3.mono HB2.out.size)); have HR3 := Lib.hid hr3; clear hb3 hr3) | (go_at_call 70; clear HF2; refine (HTD.out g1 _ n ⟨#[]⟩ w3 HB3.out HR3.out HOA.out.sorted HMY.out (by decide)).mono ?_; rintro e w4 ⟨rfl, hb4⟩; have HR4 := Lib.hid (HR3.out.below hb4); have HB4 := Lib.hid (HB3.out.trans (hb4.mono HB3.out.size)); clear hb4) | (go_at_call 70; refine (HTD.out g1 _ n f w4 HB4.out HR4.out HOA.out.sorted HMY.out HFZ.out).mono ?_; rintro e w5 ⟨rfl, hb5⟩; have HB5 := Lib.hid (HB4.out.trans (hb5.mono HB4.out.size)); clear hb5) | (go_at_call 39; refine (RLen_calls (by first | exact HR6.out | exact HR3.out)).mono ?_; rintro e w' ⟨rfl, rfl⟩) | (go_at_call 42; refine (ONone HPN.out).mono ?_; rintro e w6 ⟨rfl, hb6⟩; have HB6 := Lib.hid (HB5.out.trans (hb6.mono HB5.out.size)); clear hb6))
        go_ret
        exact ⟨rfl, HB6.out⟩
      | some r =>
        have HPS := Lib.hid (show openF (sA.extract 0 cut.toNat) = some r ∧ (sA.extract 0 cut.toNat).size ≤ maxLen from ⟨ho, hpz⟩)
        have hlt := hcut r ho
        have hd6 : decide ((l.length : Int) ≤ (r.1.length : Int)) = false := decide_eq_false (by have := HRL.out; omega)
        have hd7 : decide (l.length ≤ r.1.length) = false := decide_eq_false (by have := HRL.out; omega)
        have hd8 : r.1.length < l.length := by have := HRL.out; omega
        clear ho hcut hpz hlt
        go_enter Try.func24, Try.ntmps24
        go_wp2_with (first | (go_at_call 34; refine (shown7_calls _).mono ?_; rintro e w1 ⟨rfl, hb1⟩; have HB1 := Lib.hid (HB0.out.trans (hb1.mono HB0.out.size)); clear hb1) | (go_at_call 41; refine (HA.out _ HB1.out).mono ?_; rintro e w2 ⟨rfl, hb2⟩; have HB2 := Lib.hid (HB1.out.trans (hb2.mono HB1.out.size)); clear hb2) | (go_at_call 42; clear HF1; refine (OB HXA.out).mono ?_; rintro e w3 ⟨g1, rfl, hb3, hr3⟩; have HB3 := Lib.hid (HB2.out.trans (hb3.mono HB2.out.size)); have HR3 := Lib.hid hr3; clear hb3 hr3) | (go_at_call 70; clear HF2; refine (HTD.out g1 _ n ⟨#[]⟩ w3 HB3.out HR3.out HOA.out.sorted HMY.out (by decide)).mono ?_; rintro e w4 ⟨rfl, hb4⟩; have HR4 := Lib.hid (HR3.out.below hb4); have HB4 := Lib.hid (HB3.out.trans (hb4.mono HB3.out.size)); clear hb4) | (go_at_call 70; refine (HTD.out g1 _ n f w4 HB4.out HR4.out HOA.out.sorted HMY.out HFZ.out).mono ?_; rintro e w5 ⟨rfl, hb5⟩; have HB5 := Lib.hid (HB4.out.trans (hb5.mono HB4.out.size)); clear hb5) | (go_at_call 39; refine (RLen_calls (by first | exact HR6.out | exact HR3.out)).mono ?_; rintro e w' ⟨rfl, rfl⟩) | (go_at_call 42; refine (OPre HPS.out).mono ?_; rintro e w6 ⟨g2, rfl, hb6, hr6⟩; have HB6 := Lib.hid (HB5.out.trans (hb6.mono HB5.out.size)); have HR6 := Lib.hid hr6; clear hb6 hr6))
        go_ret
        exact ⟨rfl, HB6.out⟩
    · have hd : decide ((0 : Int) ≤ cut) = false ∨ (decide ((0 : Int) ≤ cut) = true ∧ decide (cut < (sA.size : Int)) = false) := by
        by_cases h1 : 0 ≤ cut
        · exact .inr ⟨decide_eq_true h1, decide_eq_false (by omega)⟩
        · exact .inl (decide_eq_false h1)
      clear hc0
      rcases hd with hd1 | ⟨hd1, hd2⟩
      · go_enter Try.func24, Try.ntmps24
        go_wp2_with (first | (go_at_call 34; refine (shown7_calls _).mono ?_; rintro e w1 ⟨rfl, hb1⟩; have HB1 := Lib.hid (HB0.out.trans (hb1.mono HB0.out.size)); clear hb1) | (go_at_call 41; refine (HA.out _ HB1.out).mono ?_; rintro e w2 ⟨rfl, hb2⟩; have HB2 := Lib.hid (HB1.out.trans (hb2.mono HB1.out.size)); clear hb2) | (go_at_call 42; clear HF1; refine (OB HXA.out).mono ?_; rintro e w3 ⟨g1, rfl, hb3, hr3⟩; have HB3 := Lib.hid (HB2.out.trans (hb3.mono HB2.out.size)); have HR3 := Lib.hid hr3; clear hb3 hr3) | (go_at_call 70; clear HF2; refine (HTD.out g1 _ n ⟨#[]⟩ w3 HB3.out HR3.out HOA.out.sorted HMY.out (by decide)).mono ?_; rintro e w4 ⟨rfl, hb4⟩; have HR4 := Lib.hid (HR3.out.below hb4); have HB4 := Lib.hid (HB3.out.trans (hb4.mono HB3.out.size)); clear hb4) | (go_at_call 70; refine (HTD.out g1 _ n f w4 HB4.out HR4.out HOA.out.sorted HMY.out HFZ.out).mono ?_; rintro e w5 ⟨rfl, hb5⟩; have HB5 := Lib.hid (HB4.out.trans (hb5.mono HB4.out.size)); clear hb5) | (go_at_call 39; refine (RLen_calls (by first | exact HR6.out | exact HR3.out)).mono ?_; rintro e w' ⟨rfl, rfl⟩))
        go_ret
        exact ⟨rfl, HB5.out⟩
      · go_enter Try.func24, Try.ntmps24
        go_wp2_with (first | (go_at_call 34; refine (shown7_calls _).mono ?_; rintro e w1 ⟨rfl, hb1⟩; have HB1 := Lib.hid (HB0.out.trans (hb1.mono HB0.out.size)); clear hb1) | (go_at_call 41; refine (HA.out _ HB1.out).mono ?_; rintro e w2 ⟨rfl, hb2⟩; have HB2 := Lib.hid (HB1.out.trans (hb2.mono HB1.out.size)); clear hb2) | (go_at_call 42; clear HF1; refine (OB HXA.out).mono ?_; rintro e w3 ⟨g1, rfl, hb3, hr3⟩; have HB3 := Lib.hid (HB2.out.trans (hb3.mono HB2.out.size)); have HR3 := Lib.hid hr3; clear hb3 hr3) | (go_at_call 70; clear HF2; refine (HTD.out g1 _ n ⟨#[]⟩ w3 HB3.out HR3.out HOA.out.sorted HMY.out (by decide)).mono ?_; rintro e w4 ⟨rfl, hb4⟩; have HR4 := Lib.hid (HR3.out.below hb4); have HB4 := Lib.hid (HB3.out.trans (hb4.mono HB3.out.size)); clear hb4) | (go_at_call 70; refine (HTD.out g1 _ n f w4 HB4.out HR4.out HOA.out.sorted HMY.out HFZ.out).mono ?_; rintro e w5 ⟨rfl, hb5⟩; have HB5 := Lib.hid (HB4.out.trans (hb5.mono HB4.out.size)); clear hb5) | (go_at_call 39; refine (RLen_calls (by first | exact HR6.out | exact HR3.out)).mono ?_; rintro e w' ⟨rfl, rfl⟩))
        go_ret
        exact ⟨rfl, HB5.out⟩
  · have hq : ((eA : Int) != 0) = true := by simpa using hA
    clear hoA hA hco
    go_enter Try.func24, Try.ntmps24
    go_wp2_with (first | (go_at_call 34; refine (shown7_calls _).mono ?_; rintro e w1 ⟨rfl, hb1⟩; have HB1 := Lib.hid (HB0.out.trans (hb1.mono HB0.out.size)); clear hb1) | (go_at_call 41; refine (HA.out _ HB1.out).mono ?_; rintro e w2 ⟨rfl, hb2⟩; have HB2 := Lib.hid (HB1.out.trans (hb2.mono HB1.out.size)); clear hb2))
    go_ret
    exact ⟨rfl, HB2.out⟩
end Go.Proofs.Ytfemjlhfgmbcmaa
