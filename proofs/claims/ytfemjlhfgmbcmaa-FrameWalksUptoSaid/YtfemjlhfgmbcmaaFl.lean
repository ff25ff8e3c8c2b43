/- The walk of FrameJoins. -/
import Derived.Test.YtfemjlhfgmbcmaaFk
namespace Go.Proofs.Ytfemjlhfgmbcmaa
open Go.RowKit Go.Shelf Go.Proofs.YtfemjlhfgmbcmaaW.PrintWords Go.Proofs.YtfemjlhfgmbcmaaW.PrintLast Go.Proofs.YtfemjlhfgmbcmaaW.PrintMore
attribute [local go_sem] Oper.semAt_some

/-- A box of one cell that may be written. -/
def BoxOf (W : World) (b : Nat) (v : Value) : Prop := W.cell? ⟨b, 0, none⟩ = some v ∧ W.frozen? ⟨b, 0, none⟩ = false
theorem BoxOf.grown {W W' : World} {b : Nat} {v : Value} {row : Option Nat} (h : BoxOf W b v) (hg : W.grownBy W' row) (hr : ∀ r, row = some r → ∃ o : Obj, W.heap[r]? = some o ∧ o.isCells = false) : BoxOf W' b v :=
  ⟨cell_kept h.1 hg hr, (frozen_kept h.1 hg hr).trans h.2⟩
theorem BoxOf.below {W W' : World} {b : Nat} {v : Value} (h : BoxOf W b v) (hb : Below W.heap.size W W') : BoxOf W' b v := h.grown (grown_of_below hb none) (fun r e => by cases e)
theorem BoxOf.far {W : World} {b b' : Nat} {v u : Value} (h : BoxOf W b v) (hne : b ≠ b') : BoxOf (W.setCell ⟨b', 0, none⟩ u) b v :=
  ⟨by rw [World.cell?_setCell_far _ _ _ _ (by show b' ≠ b; omega)]; exact h.1, by rw [World.frozen?_setCell]; exact h.2⟩
theorem BoxOf.set {W : World} {b : Nat} {v u : Value} (h : BoxOf W b v) : BoxOf (W.setCell ⟨b, 0, none⟩ u) b u :=
  ⟨World.cell?_setCell_same' _ _ _ (by rw [h.1]; rfl), by rw [World.frozen?_setCell]; exact h.2⟩
theorem BoxOf.alloc {W : World} {b : Nat} {v : Value} (h : BoxOf W b v) (o : Obj) : BoxOf (W.alloc o) b v := h.below (below_alloc (Below.refl _ _) o)
theorem BoxOf.belowN {W W' : World} {b n : Nat} {v : Value} (h : BoxOf W b v) (hb : Below n W W') (hn : b < n) : BoxOf W' b v := by
  have e := hb.block b hn
  refine ⟨(hb.cell (p := ⟨b, 0, none⟩) hn).trans h.1, ?_⟩
  have h2 := h.2
  unfold World.frozen? at h2 ⊢
  dsimp only at h2 ⊢
  rw [e]; exact h2
theorem BoxOf.new (W : World) (v : Value) (t : TypeId) : BoxOf (W.alloc (.cells #[v] t)) W.heap.size v := cell_new_l W v t

/-- What has come matches the texts. -/
def Mat (l : List ByteArray) (pre : List Fr) : Prop := ∀ (j : Nat) (x : Fr), pre[j]? = some x → j < l.length → IsRow l j x
theorem Mat.snoc {l : List ByteArray} {pre : List Fr} {x : Fr} (h : Mat l pre) (hx : pre.length < l.length → IsRow l pre.length x) : Mat l (pre ++ [x]) := by
  intro j y hj hl
  by_cases h1 : j < pre.length
  · rw [List.getElem?_append_left h1] at hj; exact h j y hj hl
  · rw [List.getElem?_append_right (by omega)] at hj
    by_cases h2 : j = pre.length
    · subst h2
      rw [Nat.sub_self] at hj
      simp only [List.getElem?_cons_zero, Option.some.injEq] at hj
      subst hj
      exact hx hl
    · rw [List.getElem?_eq_none (by simp; omega)] at hj; cases hj
theorem Mat.last {l : List ByteArray} {pre : List Fr} {x : Fr} (h : Mat l (pre ++ [x])) (hl : pre.length < l.length) : IsRow l pre.length x :=
  h pre.length x (by simp) hl

set_option maxRecDepth 100000 in
set_option maxHeartbeats 4000000 in
theorem joins_fin (A : Option Addr) (c : Nat) (l : List ByteArray) (m : ByteArray) (w : World) (hm : m.size ≤ 140737488351232) (hC : Kd.C Kd.string w A l.length l) (hl : l.length ≤ 8796093022208) :
    Calls Try.prog 20 #[.slice A l.length c, .string m] w fun e w' => e = .returned (.bool true) ∧ Below w.heap.size w w' := by
  have HC := Lib.hid hC
  clear hC
  have h2 := Lib.hid ((BoxOf.new w (.slice A l.length c) 57).alloc (.cells #[.bool false] 4))
  have h4 := Lib.hid (show BoxOf ((w.alloc (.cells #[.slice A l.length c] 57)).alloc (.cells #[.bool false] 4)) (w.heap.size + 1) (.bool false) by
    have := BoxOf.new (w.alloc (.cells #[.slice A l.length c] 57)) (.bool false) 4; rwa [World.size_alloc] at this)
  have hB0 := Lib.hid (below_alloc (below_alloc (Below.refl w.heap.size w) (.cells #[.slice A l.length c] 57)) (.cells #[.bool false] 4))
  refine (callsIn_wide (n := 6)).1 ?_
  refine callsIn_of_wp_marks Try.func20 rfl trivial ?_ rfl
  simp only [Try.ntmps20, List.size_toArray, List.length_cons, List.length_nil, Nat.reduceAdd, Nat.reduceSub, Array.replicate_succ, Array.replicate_zero, List.push_toArray, List.append_toArray, List.nil_append, List.cons_append]
  gi_wp2_with (refine ⟨trivial, ?_⟩; gi_at_call 60; refine (callsIn_wide.2 (shown5_calls _)).mono ?_; rintro e w1 ⟨rfl, hb⟩; have k2 := Lib.hid (h2.out.below hb); have k4 := Lib.hid (h4.out.below hb); have kB := Lib.hid (bstep hB0.out hb); have k4f := k4.out.2; have k4c := k4.out.1)
  clear h2 h4 hB0
  gi_loopw [6, 7, 8] (fun sv nv iv W => ∃ k : Nat, iv = .int .i64 k ∧ k ≤ l.length ∧ sv = .string (joinK l k) ∧ nv = .int .i64 (joinK l k).size ∧ (∀ j : Nat, j < k → (rdOf ByteArray.empty l (j : Int)).size ≤ 65536) ∧ (joinK l k).size ≤ 65551 * k ∧ BoxOf W w.heap.size (.slice A l.length c) ∧ BoxOf W (w.heap.size + 1) (.bool false) ∧ Below w.heap.size w W) (fun _ _ i _ => l.length - (intOf i).toNat)
  case atStart => exact ⟨0, rfl, Nat.zero_le _, rfl, rfl, fun j hj => absurd hj (Nat.not_lt_zero _), Nat.zero_le _, k2.out, k4.out, kB.out⟩
  case round =>
    obtain ⟨k, rfl, hk, rfl, rfl, hall, hjs, g2, g4, gB⟩ := hrel
    clear k2 k4 kB k4f k4c
    have G2 := Lib.hid g2
    have G4 := Lib.hid g4
    have GB := Lib.hid gB
    have c2 := g2.1
    have c4 := g4.1
    have f4 := g4.2
    have HA := Lib.hid hall
    clear g2 g4 gB hall
    by_cases hlt : (k : Int) < l.length
    · obtain ⟨ad, hA, x1⟩ := Kd.at_string (Kd.C_below HC.out GB.out) (k : Int) (by omega) hlt
      subst hA
      rw [Int.toNat_natCast] at x1
      have hjk : joinK l (k + 1) = joinK l k ++ putB (k % 256) (rdOf ByteArray.empty l (k : Int)) := rfl
      have HJ := Lib.hid hjk
      clear hjk
      obtain ⟨t, ht⟩ : ∃ t, t = rdOf ByteArray.empty l (k : Int) := ⟨_, rfl⟩
      rw [← ht] at x1 HJ
      have HT := Lib.hid ht.symm
      clear ht
      by_cases hbig : (65536 : Int) < t.size
      · gi_wp2
        have hr := (G4.out.set (u := .bool true)).1
        refine ⟨.bool true, ?_, rfl, GB.out.setCell (p := ⟨w.heap.size + 1, 0, none⟩) (by simp) _⟩
        simp [results, Try.f20, go_sem, hr]
      · have hbn : t.size ≤ 65536 := by omega
        have hpr : putR (k % 256) t = (putB (k % 256) t, 0) := by unfold putR; rw [if_neg (by omega)]
        have C1 := Lib.hid (Put_calls (k % 256) t wr (by unfold maxLen; omega))
        rw [hpr] at C1
        have hps := putB_size (k % 256) t
        have hl10 := encL_le10 t.size (by omega)
        have hPs : (putB (k % 256) t).size ≤ 65551 := by omega
        have hw8 : IntKind.u8.wrap (k : Int) = ((k % 256 : Nat) : Int) := by rw [IntKind.wrap_u8]; omega
        generalize putB (k % 256) t = P at HJ C1 hPs
        obtain ⟨kb, hkb⟩ : ∃ kb, kb = k % 256 := ⟨_, rfl⟩
        rw [← hkb] at C1 hw8
        have hd : decide ((65536 : Int) < t.size) = false := by simp; omega
        have hjz : (joinK l k ++ P).size = (joinK l k).size + P.size := ByteArray.size_append
        generalize hq : joinK l k = S at HJ hjs hjz
        clear hpr hps hl10 hkb
        gi_wp2_with (refine ⟨trivial, ?_⟩; gi_at_call 61; refine (callsIn_wide.2 C1.out).mono ?_; rintro e w' ⟨rfl, hb⟩; have k2 := Lib.hid (G2.out.below hb); have k4 := Lib.hid (G4.out.below hb); have kB := Lib.hid (bstep GB.out hb))
        go_roundw
        case rel => exact ⟨k + 1, by go_num, by omega, by rw [HJ.out], by rw [HJ.out, hjz]; go_num, fun j hj => by
          by_cases h : j < k
          · exact HA.out j h
          · obtain rfl : j = k := by omega
            rw [HT.out]; exact hbn, by rw [HJ.out, hjz]; omega, k2.out, k4.out, kB.out⟩
        case measure => simp [intOf]; omega
    · obtain rfl : k = l.length := by omega
      have hlt4 := World.block_lt_of_cell? wr _ c4
      have hlt4 : w.heap.size + 1 < wr.heap.size := hlt4
      have hSm : (joinK l l.length ++ m).size = (joinK l l.length).size + m.size := ByteArray.size_append
      have hfl := frames_len (joinK l l.length ++ m)
      have hfj := framesF_join l HA.out l.length (Nat.le_refl _) m
      have hrl := rowsK_length l HA.out l.length (Nat.le_refl _)
      have hra := rowsK_at l HA.out l.length (Nat.le_refl _)
      have hgr := goodL_rows l HA.out l.length (Nat.le_refl _)
      generalize rowsK l HA.out l.length (Nat.le_refl _) = rows at hfj hrl hra hgr
      generalize joinK l l.length = S at hSm hfl hfj hjs hgr ⊢
      have HW := Lib.hid (Walk_calls (S ++ m) (wr.alloc (.cells #[.int .i64 0] 3)))
      gi_wp2_with (refine ⟨trivial, ?_⟩; gi_at_call 68; refine (callsIn_wide.2 HW.out).mono ?_; rintro e w' ⟨rfl, rfl⟩)
      have e2 := (G2.out.alloc (.cells #[.int .i64 0] 3)).alloc (.cells #[.string (S ++ m)] 9)
      have e4 := (G4.out.alloc (.cells #[.int .i64 0] 3)).alloc (.cells #[.string (S ++ m)] 9)
      have e11 := (BoxOf.new wr (.int .i64 0) 3).alloc (.cells #[.string (S ++ m)] 9)
      have eS := BoxOf.new (wr.alloc (.cells #[.int .i64 0] 3)) (.string (S ++ m)) 9
      rw [World.size_alloc] at eS
      have eB := below_alloc (below_alloc GB.out (.cells #[.int .i64 0] 3)) (.cells #[.string (S ++ m)] 9)
      refine wpIn_rangeFunc_ownF (n := 6) rfl (by decide) (gf := 101) (lb := #[.pointer (some ⟨wr.heap.size + 1, 0, none⟩)]) rfl trivial (enters_of Try.func101 (by kernel_rfl) rfl)
        (Walk_stops 5 (wr.heap.size + 1) w.heap.size (by decide) (S ++ m) (by unfold maxLen; omega) _ eS.1 (by simp)) belowK_t (belowK_b (by simp; omega)) (Below.refl _ _) (fun _ => rfl)
        (fun pre W => (BoxOf W wr.heap.size (.int .i64 (pre.length : Int)) ∧ BoxOf W w.heap.size (.slice A l.length c) ∧ BoxOf W (w.heap.size + 1) (.bool false) ∧ Mat l pre) ∧ Below w.heap.size w W)
        (fun c pre W => ¬ Mat l pre)
        (OwnFrom.and (Own.from (fun s A B row hs hg hr => ⟨hs.1.grown hg hr, hs.2.1.grown hg hr, hs.2.2.1.grown hg hr, hs.2.2.2⟩) _) (ownFrom_below (Nat.le_refl _) (by simp; omega)))
        (fun _ _ _ _ _ hs _ _ => hs)
        ⟨⟨e11, e2, e4, fun j x h => by simp at h⟩, eB⟩
        ?a1 ?assign ?body ?done ?stop
      case assign =>
        intro l x W K hK
        gi_wp2
        exact hK
      case body =>
        rintro l1 pre x W ⟨⟨b11, b2, b4, hM⟩, hB⟩ hN
        rename_i z1 z2 z3 z4 z5 z6 z7 z8
        try clear z8
        try clear z7
        try clear z6
        try clear z5
        try clear z4
        try clear z3
        try clear z2
        try clear z1
        have HNb := Lib.hid (show pre.length < 9223372036854775807 by omega)
        have HM := Lib.hid hM
        clear hM hN hfj hra hrl hgr hSm hfl hjs eS e2 e4 e11 eB c2 c4 f4 HW
        have i11 := b11.1
        have i2 := b2.1
        have f11 := b11.2
        have f4 := b4.2
        have i4 := b4.1
        have BB := Lib.hid (⟨b11, b2, b4⟩ : BoxOf W wr.heap.size (.int .i64 (pre.length : Int)) ∧ BoxOf W w.heap.size (.slice A l.length c) ∧ BoxOf W (w.heap.size + 1) (.bool false))
        have HB := Lib.hid hB
        have HCW := Lib.hid (Kd.C_below HC.out hB)
        clear b11 b2 b4 hB
        have HLEN := Lib.hid (show (((pre ++ [x]).length : Nat) : Int) = (pre.length : Int) + 1 by simp)
        by_cases hlt : (pre.length : Int) < (l.length : Int)
        · obtain ⟨ad, hA, x1⟩ := Kd.at_string HCW.out (pre.length : Int) (by omega) hlt
          subst hA
          rw [Int.toNat_natCast] at x1
          have hlast := Lib.hid (fun (h : Mat l (pre ++ [x])) => h.last (by omega))
          have hsnoc := Lib.hid (fun (h : IsRow l pre.length x) => HM.out.snoc (fun _ => h))
          have hrow : IsRow l pre.length x ↔ x.kind = ((pre.length % 256 : Nat) : Int) ∧ x.load = rdOf ByteArray.empty l (pre.length : Int) := Iff.rfl
          have HROW := Lib.hid hrow
          clear hrow
          generalize rdOf ByteArray.empty l (pre.length : Int) = t at x1 HROW
          obtain ⟨kb, hkb⟩ : ∃ kb, kb = pre.length % 256 := ⟨_, rfl⟩
          rw [← hkb] at HROW
          have hw8 : IntKind.u8.wrap (pre.length : Int) = (kb : Int) := by rw [IntKind.wrap_u8]; omega
          clear hkb
          obtain ⟨xk, xl, hxl⟩ := x
          dsimp only at HROW ⊢
          by_cases hk : xk = (kb : Int)
          · subst hk
            by_cases ht : xl = t
            · subst ht
              have HMM := Lib.hid (hsnoc.out (HROW.out.2 ⟨rfl, rfl⟩))
              gi_wp2
              exact ⟨KeepsOthers.setCell _ _ _, (Below.refl w.heap.size W).setCell (p := ⟨wr.heap.size, 0, none⟩) (by show w.heap.size ≤ wr.heap.size; omega) _, ⟨⟨by rw [HLEN.out]; exact BB.out.1.set, BB.out.2.1.far (by omega), BB.out.2.2.far (by omega), HMM.out⟩, HB.out.setCell (p := ⟨wr.heap.size, 0, none⟩) (by show w.heap.size ≤ wr.heap.size; omega) _⟩⟩
            · have ht1 := ba_list ht
              have HX := Lib.hid (fun h => ht (HROW.out.1 (hlast.out h)).2)
              clear ht
              gi_wp2
              exact ⟨KeepsOthers.setCell _ _ _, HX.out⟩
          · have hk1 : (xk == (kb : Int)) = false := by simpa using hk
            have hk2 : (xk != (kb : Int)) = true := by simpa using hk
            have HX := Lib.hid (fun h => hk (HROW.out.1 (hlast.out h)).1)
            clear hk
            gi_wp2
            exact ⟨KeepsOthers.setCell _ _ _, HX.out⟩
        · have HWR := Lib.hid (show wrap64 ((pre.length : Int) + 1) = (pre.length : Int) + 1 by unfold wrap64; have := HNb.out; omega)
          have HMM := Lib.hid (HM.out.snoc (x := x) (fun h => absurd h (by omega)))
          have hd : decide (pre.length < l.length) = false := by simp; omega
          gi_wp2
          exact ⟨KeepsOthers.setCell _ _ _, (Below.refl w.heap.size W).setCell (p := ⟨wr.heap.size, 0, none⟩) (by show w.heap.size ≤ wr.heap.size; omega) _, ⟨⟨by rw [HLEN.out]; have h := BB.out.1.set (u := .int .i64 (wrap64 ((pre.length : Int) + 1))); rw [HWR.out] at h ⊢; exact h, BB.out.2.1.far (by omega), BB.out.2.2.far (by omega), HMM.out⟩, HB.out.setCell (p := ⟨wr.heap.size, 0, none⟩) (by show w.heap.size ≤ wr.heap.size; omega) _⟩⟩
      case done =>
        rintro D ys W hD rfl ⟨⟨b11, b2, b4, hM⟩, hB⟩ hK
        have hDl : D < W.heap.size := (Array.getElem?_eq_some_iff.1 hK).1
        have HW2 := Lib.hid (Walk_calls m (W.alloc (.cells #[.int .i64 0] 3)))
        have B11 := Lib.hid b11
        have B2 := Lib.hid b2
        have B4 := Lib.hid b4
        have HB := Lib.hid hB
        have HK := Lib.hid hK
        have HFJ := Lib.hid hfj
        clear b11 b2 b4 hB hK hfj hra hM e2 e4 e11 eS eB c2 c4 f4 HW
        gi_wp2_with (refine ⟨trivial, ?_⟩; gi_at_call 68; refine (callsIn_wide.2 HW2.out).mono ?_; rintro e w' ⟨rfl, rfl⟩)
        have e14 := (BoxOf.new W (.int .i64 0) 3).alloc (.cells #[.string m] 9)
        have eS := BoxOf.new (W.alloc (.cells #[.int .i64 0] 3)) (.string m) 9
        rw [World.size_alloc] at eS
        have eB := below_alloc (below_alloc (Below.refl W.heap.size W) (.cells #[.int .i64 0] 3)) (.cells #[.string m] 9)
        have hfm := frames_len m
        refine wpIn_rangeFunc_ownF (n := 6) rfl (by decide) (gf := 101) (lb := #[.pointer (some ⟨W.heap.size + 1, 0, none⟩)]) rfl trivial (enters_of Try.func101 (by kernel_rfl) rfl)
          (Walk_stops 5 (W.heap.size + 1) W.heap.size (by decide) m (by unfold maxLen; omega) _ eS.1 (by simp)) belowK_t (belowK_b (by simp; omega)) (Below.refl _ _) (fun _ => rfl)
          (fun pre W' => (BoxOf W' W.heap.size (.int .i64 (pre.length : Int))) ∧ Below W.heap.size W W')
          (fun _ _ _ => False)
          (OwnFrom.and (Own.from (fun s A B row hs hg hr => hs.grown hg hr) _) (ownFrom_below (Nat.le_refl _) (by simp; omega)))
          (fun _ _ _ _ _ hs _ _ => hs)
          ⟨e14, eB⟩
          ?a2 ?assign2 ?body2 ?done2 ?stop2
        case assign2 =>
          intro l x W K hK
          gi_wp2
          exact hK
        case body2 =>
          rintro l1 pre x W3 ⟨b14, hB3⟩ hN
          have HNb := Lib.hid (show pre.length < 9223372036854775807 by omega)
          have HWR := Lib.hid (show wrap64 ((pre.length : Int) + 1) = (pre.length : Int) + 1 by unfold wrap64; have := HNb.out; omega)
          have HLEN := Lib.hid (show (((pre ++ [x]).length : Nat) : Int) = (pre.length : Int) + 1 by simp)
          have BB := Lib.hid b14
          have i14 := b14.1
          have f14 := b14.2
          clear hN hfm hfl hrl hgr e14 eS eB b14
          gi_wp2
          exact ⟨KeepsOthers.setCell _ _ _, (Below.refl W.heap.size W3).setCell (p := ⟨W.heap.size, 0, none⟩) (Nat.le_refl _) _, ⟨by rw [HLEN.out]; have h := BB.out.set (u := .int .i64 (wrap64 ((pre.length : Int) + 1))); rw [HWR.out] at h ⊢; exact h, hB3.setCell (p := ⟨W.heap.size, 0, none⟩) (Nat.le_refl _) _⟩⟩
        case done2 =>
          rintro D2 ys2 W2 hD2 rfl ⟨b14, hB2⟩ hK2
          have hsz : wr.heap.size < W.heap.size := World.block_lt_of_cell? W _ B11.out.1
          have q11 := B11.out.belowN hB2 hsz
          have q2 := B2.out.belowN hB2 (by omega)
          have Q4 := Lib.hid (B4.out.belowN hB2 (by omega))
          have QB := Lib.hid (HB.out.trans (hB2.mono (by omega)))
          have QK := Lib.hid ((hB2.block D hDl).trans HK.out)
          have QK2 := Lib.hid hK2
          have hll : ((framesF (S ++ m)).length : Int) = (l.length : Int) + ((framesF m).length : Int) := by rw [HFJ.out, List.length_append, hrl]; omega
          have hgl := goodL_le m
          have C1 := Lib.hid (fun W' => Good_calls (S ++ m) W' (by unfold maxLen; omega))
          rw [HFJ.out, goodL_append, hgr] at C1
          have C2 := Lib.hid (fun W' => Good_calls m W' (by unfold maxLen; omega))
          rw [hll] at q11
          obtain ⟨i11, f11⟩ := q11
          obtain ⟨i2, f2⟩ := q2
          obtain ⟨i14, f14⟩ := b14
          generalize goodL (framesF m) = G2 at C1 C2 hgl
          generalize (framesF m).length = NF at *
          have hNF : (NF : Int) ≤ 140737488351232 := by omega
          have hGF : (G2 : Int) ≤ 140737488351232 := by omega
          have hLF : (l.length : Int) ≤ 8796093022208 := by omega
          have hSF : (S.size : Int) ≤ 65551 * 8796093022208 := by omega
          have hq1 := Lib.hid hSm
          clear hSm hfl hrl hgr hjs hll hgl hK2 hfm hB2 e14 eS eB
          obtain ⟨Z, hZ⟩ : ∃ Z, S ++ m = Z := ⟨_, rfl⟩
          rw [hZ] at C1
          have hzs : S.size + m.size ≤ 9223372036854775807 := by omega
          gi_wp2_with (refine ⟨trivial, ?_⟩; gi_at_call 69; first | (refine (callsIn_wide.2 (C1.out _)).mono ?_; clear C1; rintro e w' ⟨rfl, hb⟩; have R4 := Lib.hid (Q4.out.below hb); have RB := Lib.hid (bstep QB.out hb); have RK := Lib.hid ((hb.block D (Array.getElem?_eq_some_iff.1 QK.out).1).trans QK.out); have RK2 := Lib.hid ((hb.block D2 (Array.getElem?_eq_some_iff.1 QK2.out).1).trans QK2.out)) | (refine (callsIn_wide.2 (C2.out _)).mono ?_; clear C2; rintro e w'' ⟨rfl, hb⟩; have S4 := Lib.hid (R4.out.below hb); have SB := Lib.hid (bstep RB.out hb); have SK := Lib.hid ((hb.block D (Array.getElem?_eq_some_iff.1 RK.out).1).trans RK.out); have SK2 := Lib.hid ((hb.block D2 (Array.getElem?_eq_some_iff.1 RK2.out).1).trans RK2.out); have s4c := S4.out.1; have s4f := S4.out.2))
          simp only [World.size_alloc] at hD2
          have hD1 : (wr.heap.size : Nat) ≤ D := by simp only [World.size_alloc] at hD; omega
          have hK2' := (KeepsOthers.setCell w'' ⟨w.heap.size + 1, 0, none⟩ (.bool true)).same D2 _ SK2.out rfl
          have hK1 := (KeepsOthers.setCell w'' ⟨w.heap.size + 1, 0, none⟩ (.bool true)).same D _ SK.out rfl
          have hX4 := S4.out.set (u := .bool true)
          have hXB := SB.out.setCell (p := ⟨w.heap.size + 1, 0, none⟩) (by show w.heap.size ≤ w.heap.size + 1; omega) (.bool true)
          generalize w''.setCell ⟨w.heap.size + 1, 0, none⟩ (.bool true) = X at hK2' hK1 hX4 hXB ⊢
          have hK1' := ((grownBy_putObj' X D2 (.deferred none)).block D (Array.getElem?_eq_some_iff.1 hK1).1 (by intro e; injection e with e; omega)).trans hK1
          have hY4 := hX4.grown (grownBy_putObj' X D2 (.deferred none)) (fun r e => by cases e; exact ⟨_, hK2', rfl⟩)
          have hYB := hXB.trans (belowK_b (w := w) (Nat.le_refl _) X D2 _ (.deferred none) (by omega) hK2' rfl rfl)
          refine ⟨by simp, .inl ⟨_, _, rfl, run_takeDeferred hK2', by simp, .inl ⟨_, _, rfl, run_takeDeferred hK1', ?_⟩⟩⟩
          have hZ4 := (hY4.grown (grownBy_putObj' _ D (.deferred none)) (fun r e => by cases e; exact ⟨_, hK1', rfl⟩)).1
          refine ⟨.bool true, ?_, rfl, hYB.trans (belowK_b (w := w) (Nat.le_refl _) _ D _ _ (by omega) hK1' rfl rfl)⟩
          simp [results, Try.f20, go_sem, hZ4]
        case stop2 =>
          rintro D cc pre W _ _ h _
          exact h.elim
      case stop =>
        rintro D cc pre W hD hpre hx hK
        refine absurd ?_ hx
        intro j y hj hl
        refine hra j y ?_
        obtain ⟨r, hr⟩ := hpre
        rw [← List.getElem?_append_left (l₂ := framesF m) (by omega), ← hfj, ← hr, List.getElem?_append_left (List.getElem?_eq_some_iff.1 hj).1]
        exact hj
end Go.Proofs.Ytfemjlhfgmbcmaa
