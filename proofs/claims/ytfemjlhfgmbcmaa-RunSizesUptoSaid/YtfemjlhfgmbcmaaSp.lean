/- RunSizes walked. Laid by gen_sp.py. -/
import Derived.Test.YtfemjlhfgmbcmaaSo
namespace Go.Proofs.Ytfemjlhfgmbcmaa
open Go.RowKit Go.Shelf Go.Proofs.YtfemjlhfgmbcmaaW.PrintWords Go.Proofs.YtfemjlhfgmbcmaaW.PrintLast Go.Proofs.YtfemjlhfgmbcmaaW.PrintMore
open Go.Proofs.Ytfemjlhfgmbcmaa.PRunBuilds
set_option linter.unusedVariables false
set_option linter.unusedSimpArgs false
attribute [local go_sem ↓] Go.wp_at_zero Go.wp_at_succ

theorem findI_self {rows : List RRow} (hs : sortedB rows = true) (j : Nat) (hj : j < rows.length) : findI rows (rows.getD j rz).k = j := by
  have h1 := find_mono hs (rows.getD j rz).k j hj
  rw [ltB_irr] at h1
  have h2 : findI rows (rows.getD j rz).k ≤ j := by
    by_cases h : findI rows (rows.getD j rz).k ≤ j
    · exact h
    · rw [decide_eq_false h] at h1; cases h1
  by_cases h3 : findI rows (rows.getD j rz).k = j
  · exact h3
  · have h4 := find_at rows (rows.getD j rz).k (by omega)
    have h5 := sorted_lt hs (j - findI rows (rows.getD j rz).k - 1) (findI rows (rows.getD j rz).k) (by omega)
    rw [show findI rows (rows.getD j rz).k + (j - findI rows (rows.getD j rz).k - 1) + 1 = j by omega] at h5
    rw [h5] at h4; cases h4
theorem getF_self {rows : List RRow} (hs : sortedB rows = true) (j : Nat) (hj : j < rows.length) : getF rows (rows.getD j rz).k = (rows.getD j rz, true) := by
  unfold getF
  rw [findI_self hs j hj, if_pos ⟨hj, rfl⟩]
theorem map_getD (l : List S54) (j : Nat) (hj : j < l.length) : (l.map toR).getD j rz = toR (l.getD j z54) := by
  rw [List.getD_eq_getElem?_getD, List.getD_eq_getElem?_getD, List.getElem?_map, List.getElem?_eq_getElem hj]; rfl

set_option maxRecDepth 100000 in
set_option maxHeartbeats 8000000 in
theorem runSizes_fin (a b : Int) (A : Option Addr) (c : Nat) (l : List S54) (w : World) (h : Kd.C k54 w A l.length l) (hl : l.length ≤ 1048576) :
    Calls Try.prog 22 #[.int .i64 a, .int .i64 b, .slice A l.length c] w fun e w' => e = .returned (.bool true) ∧ Below w.heap.size w w' := by
  have HC := Lib.hid (fun (W : World) (hb : Below w.heap.size w W) => Kd.C_below h hb)
  have HL := Lib.hid hl
  obtain ⟨rows, hrows⟩ : ∃ rows, rows = l.map toR := ⟨_, rfl⟩
  have hrl : rows.length = l.length := by rw [hrows, List.length_map]
  have HA := Lib.hid (fun (W : World) (hb : Below w.heap.size w W) => (show Calls Try.prog 41 #[.int .i64 a, .slice A l.length c] W fun e w' => e = .returned (.tuple #[.string (buildF a rows).1, .int .i64 (buildF a rows).2]) ∧ Below W.heap.size W w' by rw [hrows]; exact built_calls a A c l W (HC.out W hb) hl))
  have HB := Lib.hid (fun (W : World) (hb : Below w.heap.size w W) => (show Calls Try.prog 41 #[.int .i64 b, .slice A l.length c] W fun e w' => e = .returned (.tuple #[.string (buildF b rows).1, .int .i64 (buildF b rows).2]) ∧ Below W.heap.size W w' by rw [hrows]; exact built_calls b A c l W (HC.out W hb) hl))
  have hoA := built_ok a rows
  have hoB := built_ok b rows
  obtain ⟨SA, hSA⟩ : ∃ x, x = buildF a rows := ⟨_, rfl⟩
  obtain ⟨SB, hSB⟩ : ∃ x, x = buildF b rows := ⟨_, rfl⟩
  have HSA := Lib.hid hSA
  have HSB := Lib.hid hSB
  have HRW := Lib.hid hrows
  have HRL := Lib.hid hrl
  rw [← hSA] at HA hoA
  rw [← hSB] at HB hoB
  clear hSA hSB hrows h hl hrl
  obtain ⟨sA, eA⟩ := SA
  obtain ⟨sB, eB⟩ := SB
  dsimp only at HA HB hoA hoB
  have HF1 : True := trivial
  have HF2 : True := trivial
  by_cases hA : eA = 0
  · subst hA
    obtain ⟨n, hn⟩ := hoA rfl
    have HOA := Lib.hid hn
    have hq : (((0 : Nat) : Int) != 0) = false := rfl
    have HXA := Lib.hid (show openF sA = some (rows, n) ∧ sA.size ≤ maxLen from ⟨by have := hn.opens; rwa [← HSA.out] at this, by have := hn.size; rwa [← HSA.out] at this⟩)
    clear hoA hn
    by_cases hB : eB = 0
    · subst hB
      obtain ⟨m, hm⟩ := hoB rfl
      have HXB := Lib.hid (show openF sB = some (rows, m) ∧ sB.size ≤ maxLen from ⟨by have := hm.opens; rwa [← HSB.out] at this, by have := hm.size; rwa [← HSB.out] at this⟩)
      have h3 : ((rows.length : Int) != (rows.length : Int)) = false := by simp
      clear hoB hm
      go_enter Try.func22, Try.ntmps22
      go_wp2_with (first | (go_at_call 34; refine (shown7_calls _).mono ?_; rintro e w1 ⟨rfl, hb1⟩; have HB1 := Lib.hid hb1; clear hb1) | (go_at_call 41; clear HF1; refine (HA.out _ HB1.out).mono ?_; rintro e w2 ⟨rfl, hb2⟩; have HB2 := Lib.hid (HB1.out.trans (hb2.mono HB1.out.size)); clear hb2) | (go_at_call 41; refine (HB.out _ HB2.out).mono ?_; rintro e w3 ⟨rfl, hb3⟩; have HB3 := Lib.hid (HB2.out.trans (hb3.mono HB2.out.size)); clear hb3) | (go_at_call 42; clear HF2; refine (OB HXA.out).mono ?_; rintro e w4 ⟨g1, rfl, hb4, hr4⟩; have HB4 := Lib.hid (HB3.out.trans (hb4.mono HB3.out.size)); have HR4 := Lib.hid hr4; clear hb4 hr4) | (go_at_call 42; refine (OB HXB.out).mono ?_; rintro e w5 ⟨g2, rfl, hb5, hr5⟩; have HB5 := Lib.hid (HB4.out.trans (hb5.mono HB4.out.size)); have HR45 := Lib.hid (HR4.out.below hb5); have HR5 := Lib.hid hr5; clear hb5 hr5) | (go_at_call 39; refine (RLen_calls (by first | exact HR45.out | exact HR5.out)).mono ?_; rintro e w' ⟨rfl, rfl⟩))
      go_loopw [16] (fun iv W => ∃ j : Int, iv = .int .i64 j ∧ 0 ≤ j ∧ j ≤ l.length ∧ Below w.heap.size w W ∧ RunIs W g1 w3.heap.size rows n ∧ RunIs W g2 w4.heap.size rows m) (fun iv _ => l.length - (intOf iv).toNat)
      case atStart => exact ⟨0, rfl, Int.le_refl _, by omega, HB5.out, HR45.out, HR5.out⟩
      case round =>
        obtain ⟨j, rfl, hj0, hj, hbw, hr1, hr2⟩ := hrel
        have HBW := Lib.hid hbw
        have HR1 := Lib.hid hr1
        have HR2 := Lib.hid hr2
        clear hbw hr1 hr2 HR45 HR5
        by_cases hlt : j < (l.length : Int)
        · obtain ⟨ad, hAd, i1, i2, i3⟩ := at_T54 (HC.out wr HBW.out) j hj0 hlt
          have hjb : j ≤ 1048576 := by have := HL.out; omega
          subst hAd
          obtain ⟨x, hx⟩ : ∃ x, x = rd_T54 l j := ⟨_, rfl⟩
          rw [← hx] at i1 i2 i3
          have hgf : getF rows x.f0 = (toR x, true) := by
            have h1 : rows.getD j.toNat rz = toR x := by rw [HRW.out, map_getD l j.toNat (by omega), hx]; rfl
            have h2 := getF_self HOA.out.sorted j.toNat (by have := HRL.out; omega)
            rw [h1] at h2
            exact h2
          have HG := Lib.hid (fun (g base q : Nat) (W : World) (h : RunIs W g base rows q) => (show Calls Try.prog 35 #[.pointer (some ⟨g, 0, none⟩), .string x.f0] W fun e w' => e = .returned (.tuple #[.agg #[.string x.f1.f0, .bool x.f1.f1], .bool true]) ∧ Below W.heap.size W w' by
            have h1 := Get_calls x.f0 h (by have := HRL.out; have := HL.out; omega) HOA.out.sorted
            rw [hgf] at h1
            exact h1))
          have HL3 := Lib.hid (fun (W : World) (hb : Below wr.heap.size wr W) => (⟨pw_cell_below hb i1, pw_cell_below hb i2, pw_cell_below hb i3⟩ : W.cell? (ad.add (j.toNat * 3)) = some (.string x.f0) ∧ W.cell? ⟨(ad.add (j.toNat * 3)).block, (ad.add (j.toNat * 3)).off + 1, none⟩ = some (.string x.f1.f0) ∧ W.cell? ⟨(ad.add (j.toNat * 3)).block, (ad.add (j.toNat * 3)).off + 2, none⟩ = some (.bool x.f1.f1)))
          have hnq : ∀ W, Sem.run Try.prog (binOp BinOp.neq 38 (.agg #[.string x.f1.f0, .bool x.f1.f1]) (.agg #[.string x.f1.f0, .bool x.f1.f1])) W = .ok (.bool false) W := fun W => by
            rw [neq38, (cellEq_iff _ _ _ _).2 ⟨rfl, rfl⟩]; rfl
          clear hx hgf i2 i3
          have HF3 : True := trivial
          go_wp2_with (first | (go_at_call 35; clear HF3; refine (HG.out g1 _ _ _ HR1.out).mono ?_; rintro e w6 ⟨rfl, hb6⟩; have HB6 := Lib.hid hb6; have HR26 := Lib.hid (HR2.out.below hb6); clear hb6) | (go_at_call 35; refine (HG.out g2 _ _ _ HR28.out).mono ?_; rintro e w9 ⟨rfl, hb9⟩; have HB9 := Lib.hid (HB8.out.trans (hb9.mono HB8.out.size)); have HZ9 := Lib.hid (blk_below HZ8.out hb9); have HS11 := Lib.hid (show wr.heap.size ≤ w9.heap.size from HB9.out.size); clear hb9) | ((with_reducible refine gate_dst (N := 17) rfl ?_); refine box_event ?hg (N := 17) ?hd (cs := #[.string ⟨#[]⟩, .bool false]) (t := 38) ?hr ?_; (case hd => rfl); (case hg => rfl); (case hr => first | (go_simp; done) | (go_simp; rfl)); intro g7 hg w7 hz hb; have HG7 := Lib.hid hg; have HZ7 := Lib.hid hz; have HBX7 := Lib.hid (HB6.out.trans (hb.mono HB6.out.size)); have HS7 := Lib.hid (show wr.heap.size ≤ w6.heap.size from HB6.out.size); clear hg hz hb) | (refine wpList_store_row rfl rfl 38 (.tmp 17) (.tmp 82) rfl (g := g7) rfl rfl HZ7.out (by kernel_rfl) rfl (one2 rfl rfl) ?_; intro w8 hz hg; have HZ8 := Lib.hid hz; have HB8 := Lib.hid (Below.grown HBX7.out hg HBX7.out.size (fun q e => by injection e with e; have := HG7.out; have := HS7.out; omega)); have h30 := (HL3.out _ HB8.out).1; have HR28 := Lib.hid (HR2.out.below HB8.out); clear hz hg) | ((with_reducible refine gate_dst (N := 19) rfl ?_); refine box_event ?hg (N := 19) ?hd (cs := #[.string ⟨#[]⟩, .bool false]) (t := 38) ?hr ?_; (case hd => rfl); (case hg => rfl); (case hr => first | (go_simp; done) | (go_simp; rfl)); intro g9 hg w10 hz hb; have HG11 := Lib.hid hg; have HZ11 := Lib.hid hz; have HBX11 := Lib.hid (HB9.out.trans (hb.mono HB9.out.size)); have HZ10 := Lib.hid (blk_below HZ9.out hb); clear hg hz hb) | (refine wpList_store_row rfl rfl 38 (.tmp 19) (.tmp 92) rfl (g := g9) rfl rfl HZ11.out (by kernel_rfl) rfl (one2 rfl rfl) ?_; intro w11 hz hg; have HZ12 := Lib.hid hz; have HB12 := Lib.hid (Below.grown HBX11.out hg HBX11.out.size (fun q e => by injection e with e; have := HG11.out; have := HS11.out; omega)); have HZ13 := Lib.hid (grown_blk hg HZ10.out (by have := HG11.out; have := blk_lt HZ9.out; omega)); clear hz hg))
          obtain ⟨xs, hxs⟩ : ∃ xs, xs = x.f1.f0 := ⟨_, rfl⟩
          obtain ⟨xg, hxg⟩ : ∃ xg, xg = x.f1.f1 := ⟨_, rfl⟩
          have hd12 : Below w11.heap.size w11 w11.drew := below_drew1 (Below.refl _ _)
          have h3 := HL3.out w11.drew (HB12.out.trans (hd12.mono HB12.out.size))
          have hS15 : w11.drew.rangeAt g7 0 [.string xs, .bool xg] ∧ w11.drew.rangeAt g9 0 [.string xs, .bool xg] ∧ (∀ t u, [Value.string xs, .bool xg][t]? = some u → w11.drew.cell? ((⟨(ad.add (j.toNat * 3)).block, (ad.add (j.toNat * 3)).off + 1, none⟩ : Addr).add t) = some u) := by
            rw [hxs, hxg]
            refine ⟨rangeAt_of_blk (blk_below HZ13.out hd12), rangeAt_of_blk (blk_below HZ12.out hd12), fun t u ht => ?_⟩
            match t, ht with
            | 0, ht => injection ht with ht; subst ht; exact h3.2.1
            | 1, ht => injection ht with ht; subst ht; exact h3.2.2
          rw [← hxs, ← hxg] at hnq
          simp only [← hxs, ← hxg]
          have HBE := Lib.hid (HB12.out.trans (hd12.mono HB12.out.size))
          have HRE1 := Lib.hid (HR1.out.below HBE.out)
          have HRE2 := Lib.hid (HR2.out.below HBE.out)
          clear hd12 h3 hxs hxg
          refine start_ (n := 20) (S := fun w' => w'.rangeAt g7 0 [.string xs, .bool xg] ∧ w'.rangeAt g9 0 [.string xs, .bool xg] ∧ (∀ t u, [Value.string xs, .bool xg][t]? = some u → w'.cell? ((⟨(ad.add (j.toNat * 3)).block, (ad.add (j.toNat * 3)).off + 1, none⟩ : Addr).add t) = some u)) (ds := []) #[false, false, false, false, false, false, false, false, false, false, false, false, false, false, false, false, false, false, false, false] (by kernel_rfl) rfl rfl (hS15) (fun hHeld => ?_)
          refine take_ (i := 0) (N := some 94) (v := .agg [.string xs, .bool xg].toArray) (a' := ?_) #[true, false, false, false, false, false, false, false, false, false, false, false, false, false, false, false, false, false, false, false] rfl rfl (by kernel_rfl) (fun _ _ _ h => h) (yieldsIf_load_mid (by rfl) 38 (.tmp 17) rfl g7 (0) rfl [.string xs, .bool xg] _ (fun w' h => h.1) Try.underlying38 rfl (by kernel_rfl)) hHeld ?_ ?_
          rotate_left
          · simp only [Act.put, List.setIfInBounds_toArray, List.set_cons_zero, List.set_cons_succ, i64_w, i32_w]
            rfl
          refine pure_ (i := 1) (N := some 95) (v := ?_) (a' := ?_) #[true, true, false, false, false, false, false, false, false, false, false, false, false, false, false, false, false, false, false, false] rfl rfl (by kernel_rfl) (fun _ _ _ h => h) (Or.inl ⟨by rfl, ?_⟩) ?_ ?_
          rotate_left
          · intro w'
            go_simp
            with_reducible rfl
          rotate_left
          · simp only [Act.put, List.setIfInBounds_toArray, List.set_cons_zero, List.set_cons_succ, i64_w, i32_w]
            rfl
          refine pure_ (i := 2) (N := some 96) (v := ?_) (a' := ?_) #[true, true, true, false, false, false, false, false, false, false, false, false, false, false, false, false, false, false, false, false] rfl rfl (by kernel_rfl) (fun _ _ _ h => h) (Or.inl ⟨by rfl, ?_⟩) ?_ ?_
          rotate_left
          · intro w'
            go_simp
            with_reducible rfl
          rotate_left
          · simp only [Act.put, List.setIfInBounds_toArray, List.set_cons_zero, List.set_cons_succ, i64_w, i32_w]
            rfl
          refine pure_ (i := 3) (N := some 97) (v := ?_) (a' := ?_) #[true, true, true, true, false, false, false, false, false, false, false, false, false, false, false, false, false, false, false, false] rfl rfl (by kernel_rfl) (fun _ _ _ h => h) (Or.inl ⟨by rfl, ?_⟩) ?_ ?_
          rotate_left
          · intro w'
            go_simp
            with_reducible rfl
          rotate_left
          · simp only [Act.put, List.setIfInBounds_toArray, List.set_cons_zero, List.set_cons_succ, i64_w, i32_w]
            rfl
          refine pure_ (i := 4) (N := some 98) (v := ?_) (a' := ?_) #[true, true, true, true, true, false, false, false, false, false, false, false, false, false, false, false, false, false, false, false] rfl rfl (by kernel_rfl) (fun _ _ _ h => h) (Or.inl ⟨by rfl, ?_⟩) ?_ ?_
          rotate_left
          · intro w'
            go_simp
            with_reducible rfl
          rotate_left
          · simp only [Act.put, List.setIfInBounds_toArray, List.set_cons_zero, List.set_cons_succ, i64_w, i32_w]
            rfl
          refine take_ (i := 5) (N := some 99) (v := .agg [.string xs, .bool xg].toArray) (a' := ?_) #[true, true, true, true, true, true, false, false, false, false, false, false, false, false, false, false, false, false, false, false] rfl rfl (by kernel_rfl) (fun _ _ _ h => h) (yieldsIf_load_adr (by rfl) 38 (.tmp 98) rfl ⟨(ad.add (j.toNat * 3)).block, (ad.add (j.toNat * 3)).off + 1, none⟩ rfl [.string xs, .bool xg] _ (fun w' h => h.2.2) Try.underlying38 rfl (by kernel_rfl)) hHeld ?_ ?_
          rotate_left
          · simp only [Act.put, List.setIfInBounds_toArray, List.set_cons_zero, List.set_cons_succ, i64_w, i32_w]
            rfl
          refine pure_ (i := 6) (N := some 100) (v := ?_) (a' := ?_) #[true, true, true, true, true, true, true, false, false, false, false, false, false, false, false, false, false, false, false, false] rfl rfl (by kernel_rfl) (fun _ _ _ h => h) (Or.inl ⟨by rfl, ?_⟩) ?_ ?_
          rotate_left
          · intro w'
            go_simp
            with_reducible rfl
          rotate_left
          · simp only [Act.put, List.setIfInBounds_toArray, List.set_cons_zero, List.set_cons_succ, i64_w, i32_w]
            rfl
          refine pure_ (i := 7) (N := some 101) (v := ?_) (a' := ?_) #[true, true, true, true, true, true, true, true, false, false, false, false, false, false, false, false, false, false, false, false] rfl rfl (by kernel_rfl) (fun _ _ _ h => h) (Or.inl ⟨by rfl, ?_⟩) ?_ ?_
          rotate_left
          · intro w'
            go_simp
            with_reducible rfl
          rotate_left
          · simp only [Act.put, List.setIfInBounds_toArray, List.set_cons_zero, List.set_cons_succ, i64_w, i32_w]
            rfl
          refine take_ (i := 8) (N := some 102) (v := .agg [.string xs, .bool xg].toArray) (a' := ?_) #[true, true, true, true, true, true, true, true, true, false, false, false, false, false, false, false, false, false, false, false] rfl rfl (by kernel_rfl) (fun _ _ _ h => h) (yieldsIf_load_mid (by rfl) 38 (.tmp 19) rfl g9 (0) rfl [.string xs, .bool xg] _ (fun w' h => h.2.1) Try.underlying38 rfl (by kernel_rfl)) hHeld ?_ ?_
          rotate_left
          · simp only [Act.put, List.setIfInBounds_toArray, List.set_cons_zero, List.set_cons_succ, i64_w, i32_w]
            rfl
          refine take_ (i := 9) (N := some 103) (v := .agg [.string xs, .bool xg].toArray) (a' := ?_) #[true, true, true, true, true, true, true, true, true, true, false, false, false, false, false, false, false, false, false, false] rfl rfl (by kernel_rfl) (fun _ _ _ h => h) (yieldsIf_load_mid (by rfl) 38 (.tmp 17) rfl g7 (0) rfl [.string xs, .bool xg] _ (fun w' h => h.1) Try.underlying38 rfl (by kernel_rfl)) hHeld ?_ ?_
          rotate_left
          · simp only [Act.put, List.setIfInBounds_toArray, List.set_cons_zero, List.set_cons_succ, i64_w, i32_w]
            rfl
          refine pure_ (i := 10) (N := some 104) (v := ?_) (a' := ?_) #[true, true, true, true, true, true, true, true, true, true, true, false, false, false, false, false, false, false, false, false] rfl rfl (by kernel_rfl) (fun _ _ _ h => h) (Or.inl ⟨by rfl, ?_⟩) ?_ ?_
          rotate_left
          · intro w'
            go_simp
            with_reducible rfl
          rotate_left
          · simp only [Act.put, List.setIfInBounds_toArray, List.set_cons_zero, List.set_cons_succ, i64_w, i32_w]
            rfl
          refine pure_ (i := 11) (N := some 105) (v := ?_) (a' := ?_) #[true, true, true, true, true, true, true, true, true, true, true, true, false, false, false, false, false, false, false, false] rfl rfl (by kernel_rfl) (fun _ _ _ h => h) (Or.inl ⟨by rfl, ?_⟩) ?_ ?_
          rotate_left
          · intro w'
            go_simp
            with_reducible rfl
          rotate_left
          · simp only [Act.put, List.setIfInBounds_toArray, List.set_cons_zero, List.set_cons_succ, i64_w, i32_w]
            rfl
          refine pure_ (i := 12) (N := some 106) (v := ?_) (a' := ?_) #[true, true, true, true, true, true, true, true, true, true, true, true, true, false, false, false, false, false, false, false] rfl rfl (by kernel_rfl) (fun _ _ _ h => h) (Or.inl ⟨by rfl, ?_⟩) ?_ ?_
          rotate_left
          · intro w'
            go_simp
            with_reducible rfl
          rotate_left
          · simp only [Act.put, List.setIfInBounds_toArray, List.set_cons_zero, List.set_cons_succ, i64_w, i32_w]
            rfl
          refine pure_ (i := 13) (N := some 107) (v := ?_) (a' := ?_) #[true, true, true, true, true, true, true, true, true, true, true, true, true, true, false, false, false, false, false, false] rfl rfl (by kernel_rfl) (fun _ _ _ h => h) (Or.inl ⟨by rfl, ?_⟩) ?_ ?_
          rotate_left
          · intro w'
            go_simp
            with_reducible rfl
          rotate_left
          · simp only [Act.put, List.setIfInBounds_toArray, List.set_cons_zero, List.set_cons_succ, i64_w, i32_w]
            rfl
          refine pure_ (i := 14) (N := some 108) (v := ?_) (a' := ?_) #[true, true, true, true, true, true, true, true, true, true, true, true, true, true, true, false, false, false, false, false] rfl rfl (by kernel_rfl) (fun _ _ _ h => h) (Or.inl ⟨by rfl, ?_⟩) ?_ ?_
          rotate_left
          · intro w'
            go_simp
            with_reducible rfl
          rotate_left
          · simp only [Act.put, List.setIfInBounds_toArray, List.set_cons_zero, List.set_cons_succ, i64_w, i32_w]
            rfl
          refine pure_ (i := 15) (N := some 109) (v := ?_) (a' := ?_) #[true, true, true, true, true, true, true, true, true, true, true, true, true, true, true, true, false, false, false, false] rfl rfl (by kernel_rfl) (fun _ _ _ h => h) (Or.inl ⟨by rfl, ?_⟩) ?_ ?_
          rotate_left
          · intro w'
            go_simp
            with_reducible rfl
          rotate_left
          · simp only [Act.put, List.setIfInBounds_toArray, List.set_cons_zero, List.set_cons_succ, i64_w, i32_w]
            rfl
          refine pure_ (i := 16) (N := some 110) (v := ?_) (a' := ?_) #[true, true, true, true, true, true, true, true, true, true, true, true, true, true, true, true, true, false, false, false] rfl rfl (by kernel_rfl) (fun _ _ _ h => h) (Or.inl ⟨by rfl, ?_⟩) ?_ ?_
          rotate_left
          · intro w'
            go_simp
            with_reducible rfl
          rotate_left
          · simp only [Act.put, List.setIfInBounds_toArray, List.set_cons_zero, List.set_cons_succ, i64_w, i32_w]
            rfl
          refine pure_ (i := 17) (N := some 111) (v := ?_) (a' := ?_) #[true, true, true, true, true, true, true, true, true, true, true, true, true, true, true, true, true, true, false, false] rfl rfl (by kernel_rfl) (fun _ _ _ h => h) (Or.inl ⟨by rfl, ?_⟩) ?_ ?_
          rotate_left
          · intro w'
            go_simp
            with_reducible rfl
          rotate_left
          · simp only [Act.put, List.setIfInBounds_toArray, List.set_cons_zero, List.set_cons_succ, i64_w, i32_w]
            rfl
          refine pure_ (i := 18) (N := some 112) (v := ?_) (a' := ?_) #[true, true, true, true, true, true, true, true, true, true, true, true, true, true, true, true, true, true, true, false] rfl rfl (by kernel_rfl) (fun _ _ _ h => h) (Or.inl ⟨by rfl, ?_⟩) ?_ ?_
          rotate_left
          · intro w'
            go_simp
            with_reducible rfl
          rotate_left
          · simp only [Act.put, List.setIfInBounds_toArray, List.set_cons_zero, List.set_cons_succ, i64_w, i32_w]
            rfl
          refine pure_ (i := 19) (N := some 113) (v := ?_) (a' := ?_) #[true, true, true, true, true, true, true, true, true, true, true, true, true, true, true, true, true, true, true, true] rfl rfl (by kernel_rfl) (fun _ _ _ h => h) (Or.inl ⟨by rfl, ?_⟩) ?_ ?_
          rotate_left
          · intro w'
            go_simp
            with_reducible rfl
          rotate_left
          · simp only [Act.put, List.setIfInBounds_toArray, List.set_cons_zero, List.set_cons_succ, i64_w, i32_w]
            rfl
          refine done_ (by kernel_rfl) ?_
          clear hHeld hS15
          go_wp2_with fail
          go_roundw
          case rel => exact ⟨j + 1, rfl, by omega, by omega, HBW.out.trans (HBE.out.mono HBW.out.size), HRE1.out, HRE2.out⟩
          case measure => simp [intOf]; omega
        · obtain rfl : j = l.length := by omega
          go_wp2_with fail
          go_ret
          exact ⟨rfl, HBW.out⟩
    · have hq2 : ((eB : Int) != 0) = true := by simpa using hB
      clear hoB hB
      go_enter Try.func22, Try.ntmps22
      go_wp2_with (first | (go_at_call 34; refine (shown7_calls _).mono ?_; rintro e w1 ⟨rfl, hb1⟩; have HB1 := Lib.hid hb1; clear hb1) | (go_at_call 41; clear HF1; refine (HA.out _ HB1.out).mono ?_; rintro e w2 ⟨rfl, hb2⟩; have HB2 := Lib.hid (HB1.out.trans (hb2.mono HB1.out.size)); clear hb2) | (go_at_call 41; refine (HB.out _ HB2.out).mono ?_; rintro e w3 ⟨rfl, hb3⟩; have HB3 := Lib.hid (HB2.out.trans (hb3.mono HB2.out.size)); clear hb3))
      go_ret
      exact ⟨rfl, HB3.out⟩
  · have hq : ((eA : Int) != 0) = true := by simpa using hA
    clear hoA hoB hA
    go_enter Try.func22, Try.ntmps22
    go_wp2_with (first | (go_at_call 34; refine (shown7_calls _).mono ?_; rintro e w1 ⟨rfl, hb1⟩; have HB1 := Lib.hid hb1; clear hb1) | (go_at_call 41; clear HF1; refine (HA.out _ HB1.out).mono ?_; rintro e w2 ⟨rfl, hb2⟩; have HB2 := Lib.hid (HB1.out.trans (hb2.mono HB1.out.size)); clear hb2) | (go_at_call 41; refine (HB.out _ HB2.out).mono ?_; rintro e w3 ⟨rfl, hb3⟩; have HB3 := Lib.hid (HB2.out.trans (hb3.mono HB2.out.size)); clear hb3))
    go_ret
    exact ⟨rfl, HB3.out⟩
end Go.Proofs.Ytfemjlhfgmbcmaa
