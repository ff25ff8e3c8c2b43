/- The walk of FrameWalks, the break never met, and met. Laid by gen_fn.py. -/
import Derived.Test.YtfemjlhfgmbcmaaFl
import Derived.Test.YtfemjlhfgmbcmaaFm
namespace Go.Proofs.Ytfemjlhfgmbcmaa
open Go.RowKit Go.Shelf Go.Proofs.YtfemjlhfgmbcmaaW.PrintWords Go.Proofs.YtfemjlhfgmbcmaaW.PrintLast Go.Proofs.YtfemjlhfgmbcmaaW.PrintMore
open Go.Proofs.Ytfemjlhfgmbcmaa.PFrameWalks (S99 k99 at_T99 rd_T99)
attribute [local go_sem] Oper.semAt_some

/-- What has come stands there. -/
def MatR (L pre : List Fr) : Prop := ∀ (j : Nat) (x : Fr), pre[j]? = some x → L[j]? = some x
theorem MatR.nil (L : List Fr) : MatR L [] := fun j x h => by simp at h
theorem MatR.snoc {L pre : List Fr} {x : Fr} (h : MatR L pre) (hx : L[pre.length]? = some x) : MatR L (pre ++ [x]) := by
  intro j y hj
  by_cases h1 : j < pre.length
  · rw [List.getElem?_append_left h1] at hj; exact h j y hj
  · rw [List.getElem?_append_right (by omega)] at hj
    by_cases h2 : j = pre.length
    · subst h2
      rw [Nat.sub_self] at hj
      simp only [List.getElem?_cons_zero, Option.some.injEq] at hj
      subst hj
      exact hx
    · rw [List.getElem?_eq_none (by simp; omega)] at hj; cases hj
theorem MatR.last {L pre : List Fr} {x : Fr} (h : MatR L (pre ++ [x])) : L[pre.length]? = some x := h pre.length x (by simp)
theorem MatR.of_prefix {L pre : List Fr} (h : pre <+: L) : MatR L pre := by
  obtain ⟨r, rfl⟩ := h
  intro j x hj
  rw [List.getElem?_append_left (List.getElem?_eq_some_iff.1 hj).1]
  exact hj
theorem rd_rows {L : List Fr} {n : Nat} {r : Fr} (h : L[n]? = some r) : rd_T99 (L.map asRow) (n : Int) = asRow r := by
  unfold rd_T99
  rw [Int.toNat_natCast, List.getD_eq_getElem?_getD, List.getElem?_map, h]; rfl
theorem fr_ext {x y : Fr} (h1 : x.kind = y.kind) (h2 : x.load = y.load) : x = y := by
  cases x; cases y; simp_all

/-- What stands behind the first frames, or that the break was met. -/
theorem brIx {L : List Fr} {most : Int} {W0 w2 : World} {A : Option Addr} {c0 n TB B : Nat} {tv : Int} (hB : W0.heap.size ≤ B) : ∀ c : Code, OwnFrom B ((fun c pre W => ¬ MatR L pre ∨ (c = .exit 2 ∧ (pre.length : Int) = most ∧ BoxOf W W0.heap.size (.int .i64 (pre.length : Int)) ∧ BoxOf W w2.heap.size (.slice A n c0) ∧ BoxOf W TB (.int .i64 tv) ∧ Below W0.heap.size W0 W)) c) := by
  intro c s W W' row hs hg hr
  have hr' : ∀ r, row = some r → ∃ o : Obj, W.heap[r]? = some o ∧ o.isCells = false := fun r e => (hr r e).2
  rcases hs with h | ⟨h1, h2, h3, h4, h5, h6⟩
  · exact .inl h
  · exact .inr ⟨h1, h2, h3.grown hg hr', h4.grown hg hr', h5.grown hg hr', ownFrom_below (β := Unit) (Nat.le_refl _) hB () W W' row h6 hg hr⟩

set_option maxRecDepth 100000 in
set_option maxHeartbeats 8000000 in
theorem walks_lo (s : ByteArray) (most : Int) (w : World) (hs : s.size ≤ 1048576) (L : List Fr) (hLF : L = framesF s) (hmost : most < 1) :
    Calls Try.prog 18 #[.string s, .int .i64 most] w fun e w' => e = .returned (.bool true) ∧ Below w.heap.size w w' := by
  have hLn : L.length ≤ 1048576 := by have := frames_len s; rw [← hLF] at this; omega
  have h3 := Lib.hid ((BoxOf.new w (.int .i64 most) 3).alloc (.cells #[.bool false] 4))
  have h4 := Lib.hid (show BoxOf ((w.alloc (.cells #[.int .i64 most] 3)).alloc (.cells #[.bool false] 4)) (w.heap.size + 1) (.bool false) by
    have := BoxOf.new (w.alloc (.cells #[.int .i64 most] 3)) (.bool false) 4; rwa [World.size_alloc] at this)
  have hB0 := Lib.hid (below_alloc (below_alloc (Below.refl w.heap.size w) (.cells #[.int .i64 most] 3)) (.cells #[.bool false] 4))
  have C1 := Lib.hid (fun W => RWalk_calls s W hs)
  have HG := Lib.hid (fun W => Good_calls s W (by unfold maxLen; omega))
  have WS := Lib.hid (fun Bs n0 W h1 h2 => Walk_stops 5 Bs n0 (by decide) s (by unfold maxLen; omega) W h1 h2)
  rw [← hLF] at C1 HG WS
  clear hLF
  generalize goodL L = G at C1 HG
  refine (callsIn_wide (n := 6)).1 ?_
  refine callsIn_of_wp_marks Try.func18 rfl trivial ?_ rfl
  simp only [Try.ntmps18, List.size_toArray, List.length_cons, List.length_nil, Nat.reduceAdd, Nat.reduceSub, Array.replicate_succ, Array.replicate_zero, List.push_toArray, List.append_toArray, List.nil_append, List.cons_append]
  gi_wp2_with (refine ⟨trivial, ?_⟩; first | (gi_at_call 60; refine (callsIn_wide.2 (shown5_calls _)).mono ?_; rintro e w1 ⟨rfl, hb⟩; have k3 := Lib.hid (h3.out.below hb); have k4 := Lib.hid (h4.out.below hb); have kB := Lib.hid (bstep hB0.out hb); have k4f := k4.out.2; have k4c := k4.out.1; clear hb) | (gi_at_call 67; refine (callsIn_wide.2 (C1.out _)).mono ?_; rintro e w2 ⟨v, rfl, hr, hb⟩; have R := Lib.hid hr; obtain ⟨A, c0, rfl, _, hrc⟩ := Kd.R_reads R.out; have RC := Lib.hid hrc; have q3 := Lib.hid (k3.out.below hb); have q4 := Lib.hid (k4.out.below hb); have qB := Lib.hid (bstep kB.out hb); clear hb hr hrc R k4f k4c))
  have hlt6 : w.heap.size + 1 < w2.heap.size := World.block_lt_of_cell? w2 _ q4.out.1
  have hlm : (L.map asRow).length = L.length := List.length_map _
  rw [hlm] at RC
  have r6 := Lib.hid ((BoxOf.new w2 (.slice A L.length c0) 92).alloc (.cells #[.int .i64 0] 3))
  have r8 := Lib.hid (show BoxOf ((w2.alloc (.cells #[.slice A L.length c0] 92)).alloc (.cells #[.int .i64 0] 3)) (w2.heap.size + 1) (.int .i64 0) by
    have := BoxOf.new (w2.alloc (.cells #[.slice A L.length c0] 92)) (.int .i64 0) 3; rwa [World.size_alloc] at this)
  have rB := Lib.hid (below_alloc (below_alloc (Below.refl w2.heap.size w2) (.cells #[.slice A L.length c0] 92)) (.cells #[.int .i64 0] 3))
  refine wpIn_loop_rounds 3 ?_
  rw [roundsIn_succ]
  obtain ⟨Wa0, hW0⟩ : ∃ W0, (w2.alloc (.cells #[.slice A L.length c0] 92)).alloc (.cells #[.int .i64 0] 3) = W0 := ⟨_, rfl⟩
  rw [hW0] at r6 r8 rB ⊢
  have hsz0 : Wa0.heap.size = w2.heap.size + 2 := by rw [← hW0]; simp
  have HSZ := Lib.hid hsz0
  clear hW0 hlm hsz0
  have i8 := r8.out.1
  clear k3 k4 kB C1
  have HW := Lib.hid (Walk_calls s (Wa0.alloc (.cells #[.int .i64 0] 3)))
  gi_wp2_with (refine ⟨trivial, ?_⟩; gi_at_call 68; refine (callsIn_wide.2 HW.out).mono ?_; rintro e w' ⟨rfl, rfl⟩)
  clear HW
  have e6 := (r6.out.alloc (.cells #[.int .i64 0] 3)).alloc (.cells #[.string s] 9)
  have e8 := (r8.out.alloc (.cells #[.int .i64 0] 3)).alloc (.cells #[.string s] 9)
  have e9 := (BoxOf.new Wa0 (.int .i64 0) 3).alloc (.cells #[.string s] 9)
  have eS := BoxOf.new (Wa0.alloc (.cells #[.int .i64 0] 3)) (.string s) 9
  rw [World.size_alloc] at eS
  have eB := below_alloc (below_alloc (Below.refl Wa0.heap.size Wa0) (.cells #[.int .i64 0] 3)) (.cells #[.string s] 9)
  refine wpIn_rangeFunc_ownF (n := 6) rfl (by decide) (gf := 101) (lb := #[.pointer (some ⟨Wa0.heap.size + 1, 0, none⟩)]) rfl trivial (enters_of Try.func101 (by kernel_rfl) rfl)
    (WS.out (Wa0.heap.size + 1) Wa0.heap.size _ eS.1 (by simp)) belowK_t (belowK_b (by simp; omega)) (Below.refl _ _) (fun _ => rfl)
    (fun pre W => (BoxOf W Wa0.heap.size (.int .i64 (pre.length : Int)) ∧ BoxOf W w2.heap.size (.slice A L.length c0) ∧ BoxOf W (w2.heap.size + 1) (.int .i64 0) ∧ MatR L pre) ∧ Below Wa0.heap.size Wa0 W)
    (fun _ pre _ => ¬ MatR L pre)
    (OwnFrom.and (Own.from (fun s A B row hs hg hr => ⟨hs.1.grown hg hr, hs.2.1.grown hg hr, hs.2.2.1.grown hg hr, hs.2.2.2⟩) _) (ownFrom_below (Nat.le_refl _) (by simp; omega)))
    (fun _ _ _ _ _ hs _ _ => hs)
    ⟨⟨e9, e6, e8, MatR.nil L⟩, eB⟩
    ?aa ?assigna ?bodya ?donea ?stopa
  case assigna =>
    intro l x W K hK
    gi_wp2
    exact hK
  case bodya =>
    rintro l1 pre x W ⟨⟨b9, b6, b8, hM⟩, hB⟩ hN
    rename_i z1 z2 z3 z4 z5 z6 z7 z8
    try clear z8
    try clear z7
    try clear z6
    try clear z5
    try clear z4
    try clear z3
    try clear z2
    try clear z1
    obtain ⟨r, hr⟩ : ∃ r, L[pre.length]? = some r := ⟨_, List.getElem?_eq_getElem hN⟩
    have hrd := rd_rows hr
    have HLEN := Lib.hid (show (((pre ++ [x]).length : Nat) : Int) = (pre.length : Int) + 1 by simp)
    have hlt0 : (pre.length : Int) < (L.length : Int) := by omega
    have hge0 : (0 : Int) ≤ (pre.length : Int) := by omega
    have HI := Lib.hid (rfl : (pre.length : Int) = (pre.length : Int))
    generalize (pre.length : Int) = i at b9 hrd hlt0 hge0 HLEN HI
    have hBf := rB.out.trans (hB.mono (by have := HSZ.out; omega))
    obtain ⟨ad, hA, x1, x2⟩ := at_T99 (Kd.C_below RC.out hBf) i hge0 hlt0
    subst hA
    rw [hrd] at x1 x2
    clear hrd
    have hne : (i + 1 == most) = false := by simp; omega
    have hi2 : i ≤ 1048576 := by omega
    have hd : decide ((L.length : Int) ≤ i) = false := by simp; omega
    have HM := Lib.hid hM
    have HR := Lib.hid hr
    have HX := Lib.hid (fun (h : MatR L (pre ++ [x])) => (Option.some.inj (h.last.symm.trans hr) : x = r))
    have b3 := q3.out.belowN hBf (by omega)
    have BB := Lib.hid (⟨b9, b6, b8⟩ : BoxOf W Wa0.heap.size (.int .i64 i) ∧ BoxOf W w2.heap.size (.slice (some ad) L.length c0) ∧ BoxOf W (w2.heap.size + 1) (.int .i64 0))
    have b4 := q4.out.belowN hBf (by omega)
    have HB := Lib.hid hB
    have i9 := b9.1
    have f9 := b9.2
    have i6 := b6.1
    have i8 := b8.1
    have i3 := b3.1
    have i4 := b4.1
    have f4 := b4.2
    have j8 := (b8.far (b' := Wa0.heap.size) (u := .int .i64 (i + 1)) (by have := HSZ.out; omega)).1
    have j3 := (b3.far (b' := Wa0.heap.size) (u := .int .i64 (i + 1)) (by have := HSZ.out; omega)).1
    have j9 := (b9.set (u := .int .i64 (i + 1))).1
    have HMO := Lib.hid hmost
    clear hmost hN hM hr hB hBf b9 b6 b8 b3 b4 e6 e8 e9 eS eB
    obtain ⟨xk, xl, hxl⟩ := x
    obtain ⟨rk, rl, hrl⟩ := r
    dsimp only [asRow] at x1 x2 ⊢
    by_cases hk : xk = rk
    · subst hk
      by_cases ht : xl = rl
      · subst ht
        have HMM := Lib.hid (HM.out.snoc HR.out)
        gi_wp2
        exact ⟨KeepsOthers.setCell _ _ _, (Below.refl Wa0.heap.size W).setCell (p := ⟨Wa0.heap.size, 0, none⟩) (Nat.le_refl _) _, ⟨⟨by rw [HLEN.out]; exact BB.out.1.set, BB.out.2.1.far (by have := HSZ.out; omega), BB.out.2.2.far (by have := HSZ.out; omega), HMM.out⟩, HB.out.setCell (p := ⟨Wa0.heap.size, 0, none⟩) (Nat.le_refl _) _⟩⟩
      · have ht1 := ba_list ht
        have ht2 := ba_list (Ne.symm ht)
        have HZ := Lib.hid (fun h => ht (congrArg Fr.load (HX.out h)))
        clear ht
        gi_wp2
        exact ⟨KeepsOthers.setCell _ _ _, HZ.out⟩
    · have hk1 : (rk == xk) = false := by simpa using Ne.symm hk
      have hk2 : (rk != xk) = true := by simpa using Ne.symm hk
      have HZ := Lib.hid (fun h => hk (congrArg Fr.kind (HX.out h)))
      clear hk
      gi_wp2
      exact ⟨KeepsOthers.setCell _ _ _, HZ.out⟩
  case stopa =>
    rintro D cc pre W hD hpre hx hK
    exact absurd (MatR.of_prefix hpre) hx
  case donea =>
    rintro D ys Wx hD hys ⟨⟨b9, b6, b8, hM⟩, hB⟩ hK
    obtain rfl : L = ys := hys.symm
    clear hM
    have hDl : D < Wx.heap.size := (Array.getElem?_eq_some_iff.1 hK).1
    have HK := Lib.hid hK
    have hltW : w2.heap.size + 2 ≤ Wx.heap.size := by have h1 : Wa0.heap.size < Wx.heap.size := World.block_lt_of_cell? Wx _ b9.1; have := HSZ.out; omega
    have hBf := rB.out.trans (hB.mono (by have := HSZ.out; omega))
    have b3 := q3.out.belowN hBf (by omega)
    have i9 := b9.1
    have i6 := b6.1
    have i8 := b8.1
    have i3 := b3.1
    have HLT6 := Lib.hid (show w.heap.size ≤ D by have h1 := hD; simp only [World.size_alloc] at h1; have := HSZ.out; omega)
    have hd1 : decide (most < 1) = true := by simp; omega
    have HB := Lib.hid hBf
    have HMO := Lib.hid hmost
    have p6 := Lib.hid b6
    clear hK hD hB hBf b3 b9 b6 b8 hmost e6 e8 e9 eS eB r6 r8 rB HSZ
    gi_wp2
    rw [roundsIn_succ]
    have r6 := Lib.hid (p6.out.alloc (.cells #[.int .i64 1] 3))
    have r8 := Lib.hid (BoxOf.new Wx (.int .i64 1) 3)
    have rB := Lib.hid (HB.out.trans ((below_alloc (Below.refl Wx.heap.size Wx) (.cells #[.int .i64 1] 3)).mono (by omega)))
    obtain ⟨Wb0, hW0⟩ : ∃ W0, Wx.alloc (.cells #[.int .i64 1] 3) = W0 := ⟨_, rfl⟩
    have hKb := (Below.heap_alloc Wx (.cells #[.int .i64 1] 3) D hDl).trans HK.out
    rw [hW0] at r6 r8 rB hKb ⊢
    have hsz0 : Wb0.heap.size = Wx.heap.size + 1 := by rw [← hW0]; simp
    have HKb := Lib.hid hKb
    have HSZ := Lib.hid (⟨hsz0, hltW, hDl⟩ : Wb0.heap.size = Wx.heap.size + 1 ∧ w2.heap.size + 2 ≤ Wx.heap.size ∧ D < Wx.heap.size)
    clear hW0 hsz0 hltW hDl HK hKb i9 i6 i8 i3 p6 HB
    have i8 := r8.out.1
    have hmost := HMO.out
    have HW := Lib.hid (Walk_calls s (Wb0.alloc (.cells #[.int .i64 0] 3)))
    gi_wp2_with (refine ⟨trivial, ?_⟩; gi_at_call 68; refine (callsIn_wide.2 HW.out).mono ?_; rintro e w' ⟨rfl, rfl⟩)
    clear HW
    have e6 := (r6.out.alloc (.cells #[.int .i64 0] 3)).alloc (.cells #[.string s] 9)
    have e8 := (r8.out.alloc (.cells #[.int .i64 0] 3)).alloc (.cells #[.string s] 9)
    have e9 := (BoxOf.new Wb0 (.int .i64 0) 3).alloc (.cells #[.string s] 9)
    have eS := BoxOf.new (Wb0.alloc (.cells #[.int .i64 0] 3)) (.string s) 9
    rw [World.size_alloc] at eS
    have eB := below_alloc (below_alloc (Below.refl Wb0.heap.size Wb0) (.cells #[.int .i64 0] 3)) (.cells #[.string s] 9)
    refine wpIn_rangeFunc_ownF (n := 6) rfl (by decide) (gf := 101) (lb := #[.pointer (some ⟨Wb0.heap.size + 1, 0, none⟩)]) rfl trivial (enters_of Try.func101 (by kernel_rfl) rfl)
      (WS.out (Wb0.heap.size + 1) Wb0.heap.size _ eS.1 (by simp)) belowK_t (belowK_b (by simp; omega)) (Below.refl _ _) (fun _ => rfl)
      (fun pre W => (BoxOf W Wb0.heap.size (.int .i64 (pre.length : Int)) ∧ BoxOf W w2.heap.size (.slice A L.length c0) ∧ BoxOf W Wx.heap.size (.int .i64 1) ∧ MatR L pre) ∧ Below Wb0.heap.size Wb0 W)
      (fun _ pre _ => ¬ MatR L pre)
      (OwnFrom.and (Own.from (fun s A B row hs hg hr => ⟨hs.1.grown hg hr, hs.2.1.grown hg hr, hs.2.2.1.grown hg hr, hs.2.2.2⟩) _) (ownFrom_below (Nat.le_refl _) (by simp; omega)))
      (fun _ _ _ _ _ hs _ _ => hs)
      ⟨⟨e9, e6, e8, MatR.nil L⟩, eB⟩
      ?ab ?assignb ?bodyb ?doneb ?stopb
    case assignb =>
      intro l x W K hK
      gi_wp2
      exact hK
    case bodyb =>
      rintro l1 pre x W ⟨⟨b9, b6, b8, hM⟩, hB⟩ hN
      rename_i z1 z2 z3 z4 z5 z6 z7 z8
      try clear z8
      try clear z7
      try clear z6
      try clear z5
      try clear z4
      try clear z3
      try clear z2
      try clear z1
      obtain ⟨r, hr⟩ : ∃ r, L[pre.length]? = some r := ⟨_, List.getElem?_eq_getElem hN⟩
      have hrd := rd_rows hr
      have HLEN := Lib.hid (show (((pre ++ [x]).length : Nat) : Int) = (pre.length : Int) + 1 by simp)
      have hlt0 : (pre.length : Int) < (L.length : Int) := by omega
      have hge0 : (0 : Int) ≤ (pre.length : Int) := by omega
      have HI := Lib.hid (rfl : (pre.length : Int) = (pre.length : Int))
      generalize (pre.length : Int) = i at b9 hrd hlt0 hge0 HLEN HI
      have hBf := rB.out.trans (hB.mono (by have := HSZ.out; omega))
      obtain ⟨ad, hA, x1, x2⟩ := at_T99 (Kd.C_below RC.out hBf) i hge0 hlt0
      subst hA
      rw [hrd] at x1 x2
      clear hrd
      have hi2 : i ≤ 1048576 := by omega
      have hd : decide ((L.length : Int) ≤ i) = false := by simp; omega
      have HM := Lib.hid hM
      have HR := Lib.hid hr
      have HX := Lib.hid (fun (h : MatR L (pre ++ [x])) => (Option.some.inj (h.last.symm.trans hr) : x = r))
      have b3 := q3.out.belowN hBf (by omega)
      have BB := Lib.hid (⟨b9, b6, b8⟩ : BoxOf W Wb0.heap.size (.int .i64 i) ∧ BoxOf W w2.heap.size (.slice (some ad) L.length c0) ∧ BoxOf W Wx.heap.size (.int .i64 1))
      have b4 := q4.out.belowN hBf (by omega)
      have HB := Lib.hid hB
      have i9 := b9.1
      have f9 := b9.2
      have i6 := b6.1
      have i8 := b8.1
      have i3 := b3.1
      have i4 := b4.1
      have f4 := b4.2
      have j8 := (b8.far (b' := Wb0.heap.size) (u := .int .i64 (i + 1)) (by have := HSZ.out; omega)).1
      have j3 := (b3.far (b' := Wb0.heap.size) (u := .int .i64 (i + 1)) (by have := HSZ.out; omega)).1
      have j9 := (b9.set (u := .int .i64 (i + 1))).1
      have HMO := Lib.hid hmost
      clear hmost hN hM hr hB hBf b9 b6 b8 b3 b4 e6 e8 e9 eS eB
      obtain ⟨xk, xl, hxl⟩ := x
      obtain ⟨rk, rl, hrl⟩ := r
      dsimp only [asRow] at x1 x2 ⊢
      by_cases hk : xk = rk
      · subst hk
        by_cases ht : xl = rl
        · subst ht
          have HMM := Lib.hid (HM.out.snoc HR.out)
          gi_wp2
          exact ⟨KeepsOthers.setCell _ _ _, (Below.refl Wb0.heap.size W).setCell (p := ⟨Wb0.heap.size, 0, none⟩) (Nat.le_refl _) _, ⟨⟨by rw [HLEN.out]; exact BB.out.1.set, BB.out.2.1.far (by have := HSZ.out; omega), BB.out.2.2.far (by have := HSZ.out; omega), HMM.out⟩, HB.out.setCell (p := ⟨Wb0.heap.size, 0, none⟩) (Nat.le_refl _) _⟩⟩
        · have ht1 := ba_list ht
          have ht2 := ba_list (Ne.symm ht)
          have HZ := Lib.hid (fun h => ht (congrArg Fr.load (HX.out h)))
          clear ht
          gi_wp2
          exact ⟨KeepsOthers.setCell _ _ _, HZ.out⟩
      · have hk1 : (rk == xk) = false := by simpa using Ne.symm hk
        have hk2 : (rk != xk) = true := by simpa using Ne.symm hk
        have HZ := Lib.hid (fun h => hk (congrArg Fr.kind (HX.out h)))
        clear hk
        gi_wp2
        exact ⟨KeepsOthers.setCell _ _ _, HZ.out⟩
    case stopb =>
      rintro D cc pre W hD hpre hx hK
      exact absurd (MatR.of_prefix hpre) hx
    case doneb =>
      rintro D2 ys Wy hD2 hys ⟨⟨b9, b6, b8, hM⟩, hB⟩ hK
      obtain rfl : L = ys := hys.symm
      clear hM
      have hDl2 : D2 < Wy.heap.size := (Array.getElem?_eq_some_iff.1 hK).1
      have hlx : Wx.heap.size < Wy.heap.size := World.block_lt_of_cell? Wy _ b8.1
      have hlt : D < Wx.heap.size := HSZ.out.2.2
      have hD3 : Wx.heap.size < D2 := by have := HSZ.out.1; simp at hD2; omega
      have HDD := Lib.hid (show D < D2 by omega)
      have hBf := rB.out.trans (hB.mono (by have := HSZ.out; omega))
      have b3 := q3.out.belowN hBf (by omega)
      have HK := Lib.hid hK
      have HK1 := Lib.hid ((hB.block D (by have := HSZ.out; omega)).trans HKb.out)
      have i9 := b9.1
      have i6 := b6.1
      have i8 := b8.1
      have i3 := b3.1
      have hnn : ((L.length : Int) != (L.length : Int)) = false := by simp
      have hgg : ((G : Int) == (G : Int)) = true := by simp
      have g4 := Lib.hid ((q4.out.belowN hBf (by omega)).alloc (.cells #[.int .i64 2] 3))
      have gB := Lib.hid (bstep (qB.out.trans (hBf.mono (by omega))) (below_alloc (Below.refl Wy.heap.size Wy) (.cells #[.int .i64 2] 3)))
      have gK := Lib.hid ((Below.heap_alloc Wy (.cells #[.int .i64 2] 3) D2 hDl2).trans HK.out)
      have gK1 := Lib.hid ((Below.heap_alloc Wy (.cells #[.int .i64 2] 3) D (by omega)).trans HK1.out)
      have HYS := Lib.hid (show D2 < Wy.heap.size from hDl2)
      clear hK hB hBf b3 b9 b6 b8 hmost e6 e8 e9 eS eB r6 r8 rB HSZ HK HK1 HKb hD2 hlx hlt hD3 hDl2
      have HLAST := Lib.hid hlt6
      clear hlt6
      gi_wp2
      rw [roundsIn_succ]
      gi_wp2_with (refine ⟨trivial, ?_⟩; gi_at_call 69; refine (callsIn_wide.2 (HG.out _)).mono ?_; rintro e w5 ⟨rfl, hb⟩; have S4 := Lib.hid (g4.out.below hb); have SB := Lib.hid (bstep gB.out hb); have SK := Lib.hid ((hb.block D2 (Array.getElem?_eq_some_iff.1 gK.out).1).trans gK.out); have SK1 := Lib.hid ((hb.block D (Array.getElem?_eq_some_iff.1 gK1.out).1).trans gK1.out); have s4c := S4.out.1; have s4f := S4.out.2)
      have hK2' := (KeepsOthers.setCell w5 ⟨w.heap.size + 1, 0, none⟩ (.bool true)).same D2 _ SK.out rfl
      have hK1 := (KeepsOthers.setCell w5 ⟨w.heap.size + 1, 0, none⟩ (.bool true)).same D _ SK1.out rfl
      have hX4 := S4.out.set (u := .bool true)
      have hXB := SB.out.setCell (p := ⟨w.heap.size + 1, 0, none⟩) (by show w.heap.size ≤ w.heap.size + 1; omega) (.bool true)
      generalize w5.setCell ⟨w.heap.size + 1, 0, none⟩ (.bool true) = X at hK2' hK1 hX4 hXB ⊢
      have hK1' := ((grownBy_putObj' X D2 (.deferred none)).block D (Array.getElem?_eq_some_iff.1 hK1).1 (by intro e; injection e with e; have := HDD.out; omega)).trans hK1
      have hY4 := hX4.grown (grownBy_putObj' X D2 (.deferred none)) (fun r e => by cases e; exact ⟨_, hK2', rfl⟩)
      have hYB := hXB.trans (belowK_b (w := w) (Nat.le_refl _) X D2 _ (.deferred none) (by have := HDD.out; have := HLT6.out; omega) hK2' rfl rfl)
      refine ⟨by simp, .inl ⟨_, _, rfl, run_takeDeferred hK2', by simp, .inl ⟨_, _, rfl, run_takeDeferred hK1', ?_⟩⟩⟩
      have hZ4 := (hY4.grown (grownBy_putObj' _ D (.deferred none)) (fun r e => by cases e; exact ⟨_, hK1', rfl⟩)).1
      refine ⟨.bool true, ?_, rfl, hYB.trans (belowK_b (w := w) (Nat.le_refl _) _ D _ _ (by have := HLT6.out; omega) hK1' rfl rfl)⟩
      simp [results, Try.f18, go_sem, hZ4]
set_option maxRecDepth 100000 in
set_option maxHeartbeats 8000000 in
theorem walks_hi (s : ByteArray) (most : Int) (w : World) (hs : s.size ≤ 1048576) (L : List Fr) (hLF : L = framesF s) (hmost : (1 : Int) ≤ most ∧ (L.length : Int) < most) :
    Calls Try.prog 18 #[.string s, .int .i64 most] w fun e w' => e = .returned (.bool true) ∧ Below w.heap.size w w' := by
  have hLn : L.length ≤ 1048576 := by have := frames_len s; rw [← hLF] at this; omega
  have h3 := Lib.hid ((BoxOf.new w (.int .i64 most) 3).alloc (.cells #[.bool false] 4))
  have h4 := Lib.hid (show BoxOf ((w.alloc (.cells #[.int .i64 most] 3)).alloc (.cells #[.bool false] 4)) (w.heap.size + 1) (.bool false) by
    have := BoxOf.new (w.alloc (.cells #[.int .i64 most] 3)) (.bool false) 4; rwa [World.size_alloc] at this)
  have hB0 := Lib.hid (below_alloc (below_alloc (Below.refl w.heap.size w) (.cells #[.int .i64 most] 3)) (.cells #[.bool false] 4))
  have C1 := Lib.hid (fun W => RWalk_calls s W hs)
  have HG := Lib.hid (fun W => Good_calls s W (by unfold maxLen; omega))
  have WS := Lib.hid (fun Bs n0 W h1 h2 => Walk_stops 5 Bs n0 (by decide) s (by unfold maxLen; omega) W h1 h2)
  rw [← hLF] at C1 HG WS
  clear hLF
  generalize goodL L = G at C1 HG
  refine (callsIn_wide (n := 6)).1 ?_
  refine callsIn_of_wp_marks Try.func18 rfl trivial ?_ rfl
  simp only [Try.ntmps18, List.size_toArray, List.length_cons, List.length_nil, Nat.reduceAdd, Nat.reduceSub, Array.replicate_succ, Array.replicate_zero, List.push_toArray, List.append_toArray, List.nil_append, List.cons_append]
  gi_wp2_with (refine ⟨trivial, ?_⟩; first | (gi_at_call 60; refine (callsIn_wide.2 (shown5_calls _)).mono ?_; rintro e w1 ⟨rfl, hb⟩; have k3 := Lib.hid (h3.out.below hb); have k4 := Lib.hid (h4.out.below hb); have kB := Lib.hid (bstep hB0.out hb); have k4f := k4.out.2; have k4c := k4.out.1; clear hb) | (gi_at_call 67; refine (callsIn_wide.2 (C1.out _)).mono ?_; rintro e w2 ⟨v, rfl, hr, hb⟩; have R := Lib.hid hr; obtain ⟨A, c0, rfl, _, hrc⟩ := Kd.R_reads R.out; have RC := Lib.hid hrc; have q3 := Lib.hid (k3.out.below hb); have q4 := Lib.hid (k4.out.below hb); have qB := Lib.hid (bstep kB.out hb); clear hb hr hrc R k4f k4c))
  have hlt6 : w.heap.size + 1 < w2.heap.size := World.block_lt_of_cell? w2 _ q4.out.1
  have hlm : (L.map asRow).length = L.length := List.length_map _
  rw [hlm] at RC
  have r6 := Lib.hid ((BoxOf.new w2 (.slice A L.length c0) 92).alloc (.cells #[.int .i64 0] 3))
  have r8 := Lib.hid (show BoxOf ((w2.alloc (.cells #[.slice A L.length c0] 92)).alloc (.cells #[.int .i64 0] 3)) (w2.heap.size + 1) (.int .i64 0) by
    have := BoxOf.new (w2.alloc (.cells #[.slice A L.length c0] 92)) (.int .i64 0) 3; rwa [World.size_alloc] at this)
  have rB := Lib.hid (below_alloc (below_alloc (Below.refl w2.heap.size w2) (.cells #[.slice A L.length c0] 92)) (.cells #[.int .i64 0] 3))
  refine wpIn_loop_rounds 3 ?_
  rw [roundsIn_succ]
  obtain ⟨Wa0, hW0⟩ : ∃ W0, (w2.alloc (.cells #[.slice A L.length c0] 92)).alloc (.cells #[.int .i64 0] 3) = W0 := ⟨_, rfl⟩
  rw [hW0] at r6 r8 rB ⊢
  have hsz0 : Wa0.heap.size = w2.heap.size + 2 := by rw [← hW0]; simp
  have HSZ := Lib.hid hsz0
  clear hW0 hlm hsz0
  have i8 := r8.out.1
  clear k3 k4 kB C1
  have HW := Lib.hid (Walk_calls s (Wa0.alloc (.cells #[.int .i64 0] 3)))
  gi_wp2_with (refine ⟨trivial, ?_⟩; gi_at_call 68; refine (callsIn_wide.2 HW.out).mono ?_; rintro e w' ⟨rfl, rfl⟩)
  clear HW
  have e6 := (r6.out.alloc (.cells #[.int .i64 0] 3)).alloc (.cells #[.string s] 9)
  have e8 := (r8.out.alloc (.cells #[.int .i64 0] 3)).alloc (.cells #[.string s] 9)
  have e9 := (BoxOf.new Wa0 (.int .i64 0) 3).alloc (.cells #[.string s] 9)
  have eS := BoxOf.new (Wa0.alloc (.cells #[.int .i64 0] 3)) (.string s) 9
  rw [World.size_alloc] at eS
  have eB := below_alloc (below_alloc (Below.refl Wa0.heap.size Wa0) (.cells #[.int .i64 0] 3)) (.cells #[.string s] 9)
  refine wpIn_rangeFunc_ownF (n := 6) rfl (by decide) (gf := 101) (lb := #[.pointer (some ⟨Wa0.heap.size + 1, 0, none⟩)]) rfl trivial (enters_of Try.func101 (by kernel_rfl) rfl)
    (WS.out (Wa0.heap.size + 1) Wa0.heap.size _ eS.1 (by simp)) belowK_t (belowK_b (by simp; omega)) (Below.refl _ _) (fun _ => rfl)
    (fun pre W => (BoxOf W Wa0.heap.size (.int .i64 (pre.length : Int)) ∧ BoxOf W w2.heap.size (.slice A L.length c0) ∧ BoxOf W (w2.heap.size + 1) (.int .i64 0) ∧ MatR L pre) ∧ Below Wa0.heap.size Wa0 W)
    (fun _ pre _ => ¬ MatR L pre)
    (OwnFrom.and (Own.from (fun s A B row hs hg hr => ⟨hs.1.grown hg hr, hs.2.1.grown hg hr, hs.2.2.1.grown hg hr, hs.2.2.2⟩) _) (ownFrom_below (Nat.le_refl _) (by simp; omega)))
    (fun _ _ _ _ _ hs _ _ => hs)
    ⟨⟨e9, e6, e8, MatR.nil L⟩, eB⟩
    ?aa ?assigna ?bodya ?donea ?stopa
  case assigna =>
    intro l x W K hK
    gi_wp2
    exact hK
  case bodya =>
    rintro l1 pre x W ⟨⟨b9, b6, b8, hM⟩, hB⟩ hN
    rename_i z1 z2 z3 z4 z5 z6 z7 z8
    try clear z8
    try clear z7
    try clear z6
    try clear z5
    try clear z4
    try clear z3
    try clear z2
    try clear z1
    obtain ⟨r, hr⟩ : ∃ r, L[pre.length]? = some r := ⟨_, List.getElem?_eq_getElem hN⟩
    have hrd := rd_rows hr
    have HLEN := Lib.hid (show (((pre ++ [x]).length : Nat) : Int) = (pre.length : Int) + 1 by simp)
    have hlt0 : (pre.length : Int) < (L.length : Int) := by omega
    have hge0 : (0 : Int) ≤ (pre.length : Int) := by omega
    have HI := Lib.hid (rfl : (pre.length : Int) = (pre.length : Int))
    generalize (pre.length : Int) = i at b9 hrd hlt0 hge0 HLEN HI
    have hBf := rB.out.trans (hB.mono (by have := HSZ.out; omega))
    obtain ⟨ad, hA, x1, x2⟩ := at_T99 (Kd.C_below RC.out hBf) i hge0 hlt0
    subst hA
    rw [hrd] at x1 x2
    clear hrd
    have hne : (i + 1 == most) = false := by simp; omega
    have hi2 : i ≤ 1048576 := by omega
    have hd : decide ((L.length : Int) ≤ i) = false := by simp; omega
    have HM := Lib.hid hM
    have HR := Lib.hid hr
    have HX := Lib.hid (fun (h : MatR L (pre ++ [x])) => (Option.some.inj (h.last.symm.trans hr) : x = r))
    have b3 := q3.out.belowN hBf (by omega)
    have BB := Lib.hid (⟨b9, b6, b8⟩ : BoxOf W Wa0.heap.size (.int .i64 i) ∧ BoxOf W w2.heap.size (.slice (some ad) L.length c0) ∧ BoxOf W (w2.heap.size + 1) (.int .i64 0))
    have b4 := q4.out.belowN hBf (by omega)
    have HB := Lib.hid hB
    have i9 := b9.1
    have f9 := b9.2
    have i6 := b6.1
    have i8 := b8.1
    have i3 := b3.1
    have i4 := b4.1
    have f4 := b4.2
    have j8 := (b8.far (b' := Wa0.heap.size) (u := .int .i64 (i + 1)) (by have := HSZ.out; omega)).1
    have j3 := (b3.far (b' := Wa0.heap.size) (u := .int .i64 (i + 1)) (by have := HSZ.out; omega)).1
    have j9 := (b9.set (u := .int .i64 (i + 1))).1
    have HMO := Lib.hid hmost
    clear hmost hN hM hr hB hBf b9 b6 b8 b3 b4 e6 e8 e9 eS eB
    obtain ⟨xk, xl, hxl⟩ := x
    obtain ⟨rk, rl, hrl⟩ := r
    dsimp only [asRow] at x1 x2 ⊢
    by_cases hk : xk = rk
    · subst hk
      by_cases ht : xl = rl
      · subst ht
        have HMM := Lib.hid (HM.out.snoc HR.out)
        gi_wp2
        exact ⟨KeepsOthers.setCell _ _ _, (Below.refl Wa0.heap.size W).setCell (p := ⟨Wa0.heap.size, 0, none⟩) (Nat.le_refl _) _, ⟨⟨by rw [HLEN.out]; exact BB.out.1.set, BB.out.2.1.far (by have := HSZ.out; omega), BB.out.2.2.far (by have := HSZ.out; omega), HMM.out⟩, HB.out.setCell (p := ⟨Wa0.heap.size, 0, none⟩) (Nat.le_refl _) _⟩⟩
      · have ht1 := ba_list ht
        have ht2 := ba_list (Ne.symm ht)
        have HZ := Lib.hid (fun h => ht (congrArg Fr.load (HX.out h)))
        clear ht
        gi_wp2
        exact ⟨KeepsOthers.setCell _ _ _, HZ.out⟩
    · have hk1 : (rk == xk) = false := by simpa using Ne.symm hk
      have hk2 : (rk != xk) = true := by simpa using Ne.symm hk
      have HZ := Lib.hid (fun h => hk (congrArg Fr.kind (HX.out h)))
      clear hk
      gi_wp2
      exact ⟨KeepsOthers.setCell _ _ _, HZ.out⟩
  case stopa =>
    rintro D cc pre W hD hpre hx hK
    exact absurd (MatR.of_prefix hpre) hx
  case donea =>
    rintro D ys Wx hD hys ⟨⟨b9, b6, b8, hM⟩, hB⟩ hK
    obtain rfl : L = ys := hys.symm
    clear hM
    have hDl : D < Wx.heap.size := (Array.getElem?_eq_some_iff.1 hK).1
    have HK := Lib.hid hK
    have hltW : w2.heap.size + 2 ≤ Wx.heap.size := by have h1 : Wa0.heap.size < Wx.heap.size := World.block_lt_of_cell? Wx _ b9.1; have := HSZ.out; omega
    have hBf := rB.out.trans (hB.mono (by have := HSZ.out; omega))
    have b3 := q3.out.belowN hBf (by omega)
    have i9 := b9.1
    have i6 := b6.1
    have i8 := b8.1
    have i3 := b3.1
    have HLT6 := Lib.hid (show w.heap.size ≤ D by have h1 := hD; simp only [World.size_alloc] at h1; have := HSZ.out; omega)
    have hd1 : decide (most < 1) = false := by simp; omega
    have hd2 : decide ((L.length : Int) < most) = true := by simp; omega
    have HB := Lib.hid hBf
    have HMO := Lib.hid hmost
    have p6 := Lib.hid b6
    clear hK hD hB hBf b3 b9 b6 b8 hmost e6 e8 e9 eS eB r6 r8 rB HSZ
    gi_wp2
    rw [roundsIn_succ]
    have r6 := Lib.hid (p6.out.alloc (.cells #[.int .i64 1] 3))
    have r8 := Lib.hid (BoxOf.new Wx (.int .i64 1) 3)
    have rB := Lib.hid (HB.out.trans ((below_alloc (Below.refl Wx.heap.size Wx) (.cells #[.int .i64 1] 3)).mono (by omega)))
    obtain ⟨Wb0, hW0⟩ : ∃ W0, Wx.alloc (.cells #[.int .i64 1] 3) = W0 := ⟨_, rfl⟩
    have hKb := (Below.heap_alloc Wx (.cells #[.int .i64 1] 3) D hDl).trans HK.out
    rw [hW0] at r6 r8 rB hKb ⊢
    have hsz0 : Wb0.heap.size = Wx.heap.size + 1 := by rw [← hW0]; simp
    have HKb := Lib.hid hKb
    have HSZ := Lib.hid (⟨hsz0, hltW, hDl⟩ : Wb0.heap.size = Wx.heap.size + 1 ∧ w2.heap.size + 2 ≤ Wx.heap.size ∧ D < Wx.heap.size)
    clear hW0 hsz0 hltW hDl HK hKb i9 i6 i8 i3 p6 HB
    have i8 := r8.out.1
    have hmost := HMO.out
    have HW := Lib.hid (Walk_calls s (Wb0.alloc (.cells #[.int .i64 0] 3)))
    gi_wp2_with (refine ⟨trivial, ?_⟩; gi_at_call 68; refine (callsIn_wide.2 HW.out).mono ?_; rintro e w' ⟨rfl, rfl⟩)
    clear HW
    have e6 := (r6.out.alloc (.cells #[.int .i64 0] 3)).alloc (.cells #[.string s] 9)
    have e8 := (r8.out.alloc (.cells #[.int .i64 0] 3)).alloc (.cells #[.string s] 9)
    have e9 := (BoxOf.new Wb0 (.int .i64 0) 3).alloc (.cells #[.string s] 9)
    have eS := BoxOf.new (Wb0.alloc (.cells #[.int .i64 0] 3)) (.string s) 9
    rw [World.size_alloc] at eS
    have eB := below_alloc (below_alloc (Below.refl Wb0.heap.size Wb0) (.cells #[.int .i64 0] 3)) (.cells #[.string s] 9)
    refine wpIn_rangeFunc_ownF (n := 6) rfl (by decide) (gf := 101) (lb := #[.pointer (some ⟨Wb0.heap.size + 1, 0, none⟩)]) rfl trivial (enters_of Try.func101 (by kernel_rfl) rfl)
      (WS.out (Wb0.heap.size + 1) Wb0.heap.size _ eS.1 (by simp)) belowK_t (belowK_b (by simp; omega)) (Below.refl _ _) (fun _ => rfl)
      (fun pre W => (BoxOf W Wb0.heap.size (.int .i64 (pre.length : Int)) ∧ BoxOf W w2.heap.size (.slice A L.length c0) ∧ BoxOf W Wx.heap.size (.int .i64 1) ∧ MatR L pre) ∧ Below Wb0.heap.size Wb0 W)
      (fun _ pre _ => ¬ MatR L pre)
      (OwnFrom.and (Own.from (fun s A B row hs hg hr => ⟨hs.1.grown hg hr, hs.2.1.grown hg hr, hs.2.2.1.grown hg hr, hs.2.2.2⟩) _) (ownFrom_below (Nat.le_refl _) (by simp; omega)))
      (fun _ _ _ _ _ hs _ _ => hs)
      ⟨⟨e9, e6, e8, MatR.nil L⟩, eB⟩
      ?ab ?assignb ?bodyb ?doneb ?stopb
    case assignb =>
      intro l x W K hK
      gi_wp2
      exact hK
    case bodyb =>
      rintro l1 pre x W ⟨⟨b9, b6, b8, hM⟩, hB⟩ hN
      rename_i z1 z2 z3 z4 z5 z6 z7 z8
      try clear z8
      try clear z7
      try clear z6
      try clear z5
      try clear z4
      try clear z3
      try clear z2
      try clear z1
      obtain ⟨r, hr⟩ : ∃ r, L[pre.length]? = some r := ⟨_, List.getElem?_eq_getElem hN⟩
      have hrd := rd_rows hr
      have HLEN := Lib.hid (show (((pre ++ [x]).length : Nat) : Int) = (pre.length : Int) + 1 by simp)
      have hlt0 : (pre.length : Int) < (L.length : Int) := by omega
      have hge0 : (0 : Int) ≤ (pre.length : Int) := by omega
      have HI := Lib.hid (rfl : (pre.length : Int) = (pre.length : Int))
      generalize (pre.length : Int) = i at b9 hrd hlt0 hge0 HLEN HI
      have hBf := rB.out.trans (hB.mono (by have := HSZ.out; omega))
      obtain ⟨ad, hA, x1, x2⟩ := at_T99 (Kd.C_below RC.out hBf) i hge0 hlt0
      subst hA
      rw [hrd] at x1 x2
      clear hrd
      have hi2 : i ≤ 1048576 := by omega
      have hd : decide ((L.length : Int) ≤ i) = false := by simp; omega
      have HM := Lib.hid hM
      have HR := Lib.hid hr
      have HX := Lib.hid (fun (h : MatR L (pre ++ [x])) => (Option.some.inj (h.last.symm.trans hr) : x = r))
      have b3 := q3.out.belowN hBf (by omega)
      have BB := Lib.hid (⟨b9, b6, b8⟩ : BoxOf W Wb0.heap.size (.int .i64 i) ∧ BoxOf W w2.heap.size (.slice (some ad) L.length c0) ∧ BoxOf W Wx.heap.size (.int .i64 1))
      have b4 := q4.out.belowN hBf (by omega)
      have HB := Lib.hid hB
      have i9 := b9.1
      have f9 := b9.2
      have i6 := b6.1
      have i8 := b8.1
      have i3 := b3.1
      have i4 := b4.1
      have f4 := b4.2
      have j8 := (b8.far (b' := Wb0.heap.size) (u := .int .i64 (i + 1)) (by have := HSZ.out; omega)).1
      have j3 := (b3.far (b' := Wb0.heap.size) (u := .int .i64 (i + 1)) (by have := HSZ.out; omega)).1
      have j9 := (b9.set (u := .int .i64 (i + 1))).1
      have HMO := Lib.hid hmost
      clear hmost hN hM hr hB hBf b9 b6 b8 b3 b4 e6 e8 e9 eS eB
      obtain ⟨xk, xl, hxl⟩ := x
      obtain ⟨rk, rl, hrl⟩ := r
      dsimp only [asRow] at x1 x2 ⊢
      by_cases hk : xk = rk
      · subst hk
        by_cases ht : xl = rl
        · subst ht
          have HMM := Lib.hid (HM.out.snoc HR.out)
          gi_wp2
          exact ⟨KeepsOthers.setCell _ _ _, (Below.refl Wb0.heap.size W).setCell (p := ⟨Wb0.heap.size, 0, none⟩) (Nat.le_refl _) _, ⟨⟨by rw [HLEN.out]; exact BB.out.1.set, BB.out.2.1.far (by have := HSZ.out; omega), BB.out.2.2.far (by have := HSZ.out; omega), HMM.out⟩, HB.out.setCell (p := ⟨Wb0.heap.size, 0, none⟩) (Nat.le_refl _) _⟩⟩
        · have ht1 := ba_list ht
          have ht2 := ba_list (Ne.symm ht)
          have HZ := Lib.hid (fun h => ht (congrArg Fr.load (HX.out h)))
          clear ht
          gi_wp2
          exact ⟨KeepsOthers.setCell _ _ _, HZ.out⟩
      · have hk1 : (rk == xk) = false := by simpa using Ne.symm hk
        have hk2 : (rk != xk) = true := by simpa using Ne.symm hk
        have HZ := Lib.hid (fun h => hk (congrArg Fr.kind (HX.out h)))
        clear hk
        gi_wp2
        exact ⟨KeepsOthers.setCell _ _ _, HZ.out⟩
    case stopb =>
      rintro D cc pre W hD hpre hx hK
      exact absurd (MatR.of_prefix hpre) hx
    case doneb =>
      rintro D2 ys Wy hD2 hys ⟨⟨b9, b6, b8, hM⟩, hB⟩ hK
      obtain rfl : L = ys := hys.symm
      clear hM
      have hDl2 : D2 < Wy.heap.size := (Array.getElem?_eq_some_iff.1 hK).1
      have hlx : Wx.heap.size < Wy.heap.size := World.block_lt_of_cell? Wy _ b8.1
      have hlt : D < Wx.heap.size := HSZ.out.2.2
      have hD3 : Wx.heap.size < D2 := by have := HSZ.out.1; simp at hD2; omega
      have HDD := Lib.hid (show D < D2 by omega)
      have hBf := rB.out.trans (hB.mono (by have := HSZ.out; omega))
      have b3 := q3.out.belowN hBf (by omega)
      have HK := Lib.hid hK
      have HK1 := Lib.hid ((hB.block D (by have := HSZ.out; omega)).trans HKb.out)
      have i9 := b9.1
      have i6 := b6.1
      have i8 := b8.1
      have i3 := b3.1
      have hnn : ((L.length : Int) != (L.length : Int)) = false := by simp
      have hgg : ((G : Int) == (G : Int)) = true := by simp
      have g4 := Lib.hid ((q4.out.belowN hBf (by omega)).alloc (.cells #[.int .i64 2] 3))
      have gB := Lib.hid (bstep (qB.out.trans (hBf.mono (by omega))) (below_alloc (Below.refl Wy.heap.size Wy) (.cells #[.int .i64 2] 3)))
      have gK := Lib.hid ((Below.heap_alloc Wy (.cells #[.int .i64 2] 3) D2 hDl2).trans HK.out)
      have gK1 := Lib.hid ((Below.heap_alloc Wy (.cells #[.int .i64 2] 3) D (by omega)).trans HK1.out)
      have HYS := Lib.hid (show D2 < Wy.heap.size from hDl2)
      clear hK hB hBf b3 b9 b6 b8 hmost e6 e8 e9 eS eB r6 r8 rB HSZ HK HK1 HKb hD2 hlx hlt hD3 hDl2
      have HLAST := Lib.hid hlt6
      clear hlt6
      gi_wp2
      rw [roundsIn_succ]
      gi_wp2_with (refine ⟨trivial, ?_⟩; gi_at_call 69; refine (callsIn_wide.2 (HG.out _)).mono ?_; rintro e w5 ⟨rfl, hb⟩; have S4 := Lib.hid (g4.out.below hb); have SB := Lib.hid (bstep gB.out hb); have SK := Lib.hid ((hb.block D2 (Array.getElem?_eq_some_iff.1 gK.out).1).trans gK.out); have SK1 := Lib.hid ((hb.block D (Array.getElem?_eq_some_iff.1 gK1.out).1).trans gK1.out); have s4c := S4.out.1; have s4f := S4.out.2)
      have hK2' := (KeepsOthers.setCell w5 ⟨w.heap.size + 1, 0, none⟩ (.bool true)).same D2 _ SK.out rfl
      have hK1 := (KeepsOthers.setCell w5 ⟨w.heap.size + 1, 0, none⟩ (.bool true)).same D _ SK1.out rfl
      have hX4 := S4.out.set (u := .bool true)
      have hXB := SB.out.setCell (p := ⟨w.heap.size + 1, 0, none⟩) (by show w.heap.size ≤ w.heap.size + 1; omega) (.bool true)
      generalize w5.setCell ⟨w.heap.size + 1, 0, none⟩ (.bool true) = X at hK2' hK1 hX4 hXB ⊢
      have hK1' := ((grownBy_putObj' X D2 (.deferred none)).block D (Array.getElem?_eq_some_iff.1 hK1).1 (by intro e; injection e with e; have := HDD.out; omega)).trans hK1
      have hY4 := hX4.grown (grownBy_putObj' X D2 (.deferred none)) (fun r e => by cases e; exact ⟨_, hK2', rfl⟩)
      have hYB := hXB.trans (belowK_b (w := w) (Nat.le_refl _) X D2 _ (.deferred none) (by have := HDD.out; have := HLT6.out; omega) hK2' rfl rfl)
      refine ⟨by simp, .inl ⟨_, _, rfl, run_takeDeferred hK2', by simp, .inl ⟨_, _, rfl, run_takeDeferred hK1', ?_⟩⟩⟩
      have hZ4 := (hY4.grown (grownBy_putObj' _ D (.deferred none)) (fun r e => by cases e; exact ⟨_, hK1', rfl⟩)).1
      refine ⟨.bool true, ?_, rfl, hYB.trans (belowK_b (w := w) (Nat.le_refl _) _ D _ _ (by have := HLT6.out; omega) hK1' rfl rfl)⟩
      simp [results, Try.f18, go_sem, hZ4]
set_option maxRecDepth 100000 in
set_option maxHeartbeats 8000000 in
theorem walks_br (s : ByteArray) (most : Int) (w : World) (hs : s.size ≤ 1048576) (L : List Fr) (hLF : L = framesF s) (hmost : (1 : Int) ≤ most ∧ most ≤ (L.length : Int)) :
    Calls Try.prog 18 #[.string s, .int .i64 most] w fun e w' => e = .returned (.bool true) ∧ Below w.heap.size w w' := by
  have hLn : L.length ≤ 1048576 := by have := frames_len s; rw [← hLF] at this; omega
  have h3 := Lib.hid ((BoxOf.new w (.int .i64 most) 3).alloc (.cells #[.bool false] 4))
  have h4 := Lib.hid (show BoxOf ((w.alloc (.cells #[.int .i64 most] 3)).alloc (.cells #[.bool false] 4)) (w.heap.size + 1) (.bool false) by
    have := BoxOf.new (w.alloc (.cells #[.int .i64 most] 3)) (.bool false) 4; rwa [World.size_alloc] at this)
  have hB0 := Lib.hid (below_alloc (below_alloc (Below.refl w.heap.size w) (.cells #[.int .i64 most] 3)) (.cells #[.bool false] 4))
  have C1 := Lib.hid (fun W => RWalk_calls s W hs)
  have HG := Lib.hid (fun W => Good_calls s W (by unfold maxLen; omega))
  have WS := Lib.hid (fun Bs n0 W h1 h2 => Walk_stops 5 Bs n0 (by decide) s (by unfold maxLen; omega) W h1 h2)
  rw [← hLF] at C1 HG WS
  clear hLF
  generalize goodL L = G at C1 HG
  refine (callsIn_wide (n := 6)).1 ?_
  refine callsIn_of_wp_marks Try.func18 rfl trivial ?_ rfl
  simp only [Try.ntmps18, List.size_toArray, List.length_cons, List.length_nil, Nat.reduceAdd, Nat.reduceSub, Array.replicate_succ, Array.replicate_zero, List.push_toArray, List.append_toArray, List.nil_append, List.cons_append]
  gi_wp2_with (refine ⟨trivial, ?_⟩; first | (gi_at_call 60; refine (callsIn_wide.2 (shown5_calls _)).mono ?_; rintro e w1 ⟨rfl, hb⟩; have k3 := Lib.hid (h3.out.below hb); have k4 := Lib.hid (h4.out.below hb); have kB := Lib.hid (bstep hB0.out hb); have k4f := k4.out.2; have k4c := k4.out.1; clear hb) | (gi_at_call 67; refine (callsIn_wide.2 (C1.out _)).mono ?_; rintro e w2 ⟨v, rfl, hr, hb⟩; have R := Lib.hid hr; obtain ⟨A, c0, rfl, _, hrc⟩ := Kd.R_reads R.out; have RC := Lib.hid hrc; have q3 := Lib.hid (k3.out.below hb); have q4 := Lib.hid (k4.out.below hb); have qB := Lib.hid (bstep kB.out hb); clear hb hr hrc R k4f k4c))
  have hlt6 : w.heap.size + 1 < w2.heap.size := World.block_lt_of_cell? w2 _ q4.out.1
  have hlm : (L.map asRow).length = L.length := List.length_map _
  rw [hlm] at RC
  have r6 := Lib.hid ((BoxOf.new w2 (.slice A L.length c0) 92).alloc (.cells #[.int .i64 0] 3))
  have r8 := Lib.hid (show BoxOf ((w2.alloc (.cells #[.slice A L.length c0] 92)).alloc (.cells #[.int .i64 0] 3)) (w2.heap.size + 1) (.int .i64 0) by
    have := BoxOf.new (w2.alloc (.cells #[.slice A L.length c0] 92)) (.int .i64 0) 3; rwa [World.size_alloc] at this)
  have rB := Lib.hid (below_alloc (below_alloc (Below.refl w2.heap.size w2) (.cells #[.slice A L.length c0] 92)) (.cells #[.int .i64 0] 3))
  refine wpIn_loop_rounds 3 ?_
  rw [roundsIn_succ]
  obtain ⟨Wa0, hW0⟩ : ∃ W0, (w2.alloc (.cells #[.slice A L.length c0] 92)).alloc (.cells #[.int .i64 0] 3) = W0 := ⟨_, rfl⟩
  rw [hW0] at r6 r8 rB ⊢
  have hsz0 : Wa0.heap.size = w2.heap.size + 2 := by rw [← hW0]; simp
  have HSZ := Lib.hid hsz0
  clear hW0 hlm hsz0
  have i8 := r8.out.1
  clear k3 k4 kB C1
  have HW := Lib.hid (Walk_calls s (Wa0.alloc (.cells #[.int .i64 0] 3)))
  gi_wp2_with (refine ⟨trivial, ?_⟩; gi_at_call 68; refine (callsIn_wide.2 HW.out).mono ?_; rintro e w' ⟨rfl, rfl⟩)
  clear HW
  have e6 := (r6.out.alloc (.cells #[.int .i64 0] 3)).alloc (.cells #[.string s] 9)
  have e8 := (r8.out.alloc (.cells #[.int .i64 0] 3)).alloc (.cells #[.string s] 9)
  have e9 := (BoxOf.new Wa0 (.int .i64 0) 3).alloc (.cells #[.string s] 9)
  have eS := BoxOf.new (Wa0.alloc (.cells #[.int .i64 0] 3)) (.string s) 9
  rw [World.size_alloc] at eS
  have eB := below_alloc (below_alloc (Below.refl Wa0.heap.size Wa0) (.cells #[.int .i64 0] 3)) (.cells #[.string s] 9)
  refine wpIn_rangeFunc_ownF (n := 6) rfl (by decide) (gf := 101) (lb := #[.pointer (some ⟨Wa0.heap.size + 1, 0, none⟩)]) rfl trivial (enters_of Try.func101 (by kernel_rfl) rfl)
    (WS.out (Wa0.heap.size + 1) Wa0.heap.size _ eS.1 (by simp)) belowK_t (belowK_b (by simp; omega)) (Below.refl _ _) (fun _ => rfl)
    (fun pre W => (BoxOf W Wa0.heap.size (.int .i64 (pre.length : Int)) ∧ BoxOf W w2.heap.size (.slice A L.length c0) ∧ BoxOf W (w2.heap.size + 1) (.int .i64 0) ∧ MatR L pre ∧ (pre.length : Int) < most) ∧ Below Wa0.heap.size Wa0 W)
    (fun c pre W => ¬ MatR L pre ∨ (c = .exit 2 ∧ (pre.length : Int) = most ∧ BoxOf W Wa0.heap.size (.int .i64 (pre.length : Int)) ∧ BoxOf W w2.heap.size (.slice A L.length c0) ∧ BoxOf W (w2.heap.size + 1) (.int .i64 0) ∧ Below Wa0.heap.size Wa0 W))
    (OwnFrom.and (Own.from (fun s A B row hs hg hr => ⟨hs.1.grown hg hr, hs.2.1.grown hg hr, hs.2.2.1.grown hg hr, hs.2.2.2⟩) _) (ownFrom_below (Nat.le_refl _) (by simp; omega)))
    (brIx (by simp; omega))
    ⟨⟨e9, e6, e8, MatR.nil L, by simp; omega⟩, eB⟩
    ?aa ?assigna ?bodya ?donea ?stopa
  case assigna =>
    intro l x W K hK
    gi_wp2
    exact hK
  case bodya =>
    rintro l1 pre x W ⟨⟨b9, b6, b8, hM, hbr⟩, hB⟩ hN
    rename_i z1 z2 z3 z4 z5 z6 z7 z8
    try clear z8
    try clear z7
    try clear z6
    try clear z5
    try clear z4
    try clear z3
    try clear z2
    try clear z1
    obtain ⟨r, hr⟩ : ∃ r, L[pre.length]? = some r := ⟨_, List.getElem?_eq_getElem hN⟩
    have hrd := rd_rows hr
    have HLEN := Lib.hid (show (((pre ++ [x]).length : Nat) : Int) = (pre.length : Int) + 1 by simp)
    have hlt0 : (pre.length : Int) < (L.length : Int) := by omega
    have hge0 : (0 : Int) ≤ (pre.length : Int) := by omega
    have HI := Lib.hid (rfl : (pre.length : Int) = (pre.length : Int))
    generalize (pre.length : Int) = i at b9 hrd hlt0 hge0 HLEN HI hbr
    have hBf := rB.out.trans (hB.mono (by have := HSZ.out; omega))
    obtain ⟨ad, hA, x1, x2⟩ := at_T99 (Kd.C_below RC.out hBf) i hge0 hlt0
    subst hA
    rw [hrd] at x1 x2
    clear hrd
    have hi2 : i ≤ 1048576 := by omega
    have hd : decide ((L.length : Int) ≤ i) = false := by simp; omega
    have HM := Lib.hid hM
    have HR := Lib.hid hr
    have HX := Lib.hid (fun (h : MatR L (pre ++ [x])) => (Option.some.inj (h.last.symm.trans hr) : x = r))
    have b3 := q3.out.belowN hBf (by omega)
    have BB := Lib.hid (⟨b9, b6, b8⟩ : BoxOf W Wa0.heap.size (.int .i64 i) ∧ BoxOf W w2.heap.size (.slice (some ad) L.length c0) ∧ BoxOf W (w2.heap.size + 1) (.int .i64 0))
    have b4 := q4.out.belowN hBf (by omega)
    have HB := Lib.hid hB
    have i9 := b9.1
    have f9 := b9.2
    have i6 := b6.1
    have i8 := b8.1
    have i3 := b3.1
    have i4 := b4.1
    have f4 := b4.2
    have j8 := (b8.far (b' := Wa0.heap.size) (u := .int .i64 (i + 1)) (by have := HSZ.out; omega)).1
    have j3 := (b3.far (b' := Wa0.heap.size) (u := .int .i64 (i + 1)) (by have := HSZ.out; omega)).1
    have j9 := (b9.set (u := .int .i64 (i + 1))).1
    have HBR := Lib.hid hbr
    clear hbr
    have HMO := Lib.hid hmost
    clear hmost hN hM hr hB hBf b9 b6 b8 b3 b4 e6 e8 e9 eS eB
    obtain ⟨xk, xl, hxl⟩ := x
    obtain ⟨rk, rl, hrl⟩ := r
    dsimp only [asRow] at x1 x2 ⊢
    by_cases hk : xk = rk
    · subst hk
      by_cases ht : xl = rl
      · subst ht
        have HMM := Lib.hid (HM.out.snoc HR.out)
        by_cases hq : i + 1 = most
        · have hne : (i + 1 == most) = true := by simpa using hq
          have HQ := Lib.hid hq
          clear hq
          gi_wp2
          exact ⟨KeepsOthers.setCell _ _ _, .inr ⟨rfl, by rw [HLEN.out]; exact HQ.out, by rw [HLEN.out]; exact BB.out.1.set, BB.out.2.1.far (by have := HSZ.out; omega), BB.out.2.2.far (by have := HSZ.out; omega), HB.out.setCell (p := ⟨Wa0.heap.size, 0, none⟩) (Nat.le_refl _) _⟩⟩
        · have hne : (i + 1 == most) = false := by simpa using hq
          have HQ := Lib.hid (show i + 1 < most by have := HBR.out; omega)
          clear hq
          gi_wp2
          exact ⟨KeepsOthers.setCell _ _ _, (Below.refl Wa0.heap.size W).setCell (p := ⟨Wa0.heap.size, 0, none⟩) (Nat.le_refl _) _, ⟨⟨by rw [HLEN.out]; exact BB.out.1.set, BB.out.2.1.far (by have := HSZ.out; omega), BB.out.2.2.far (by have := HSZ.out; omega), HMM.out, by rw [HLEN.out]; exact HQ.out⟩, HB.out.setCell (p := ⟨Wa0.heap.size, 0, none⟩) (Nat.le_refl _) _⟩⟩
      · have ht1 := ba_list ht
        have ht2 := ba_list (Ne.symm ht)
        have HZ := Lib.hid (fun h => ht (congrArg Fr.load (HX.out h)))
        clear ht
        gi_wp2
        exact ⟨KeepsOthers.setCell _ _ _, .inl HZ.out⟩
    · have hk1 : (rk == xk) = false := by simpa using Ne.symm hk
      have hk2 : (rk != xk) = true := by simpa using Ne.symm hk
      have HZ := Lib.hid (fun h => hk (congrArg Fr.kind (HX.out h)))
      clear hk
      gi_wp2
      exact ⟨KeepsOthers.setCell _ _ _, .inl HZ.out⟩
  case donea =>
    rintro D ys W hD rfl ⟨⟨_, _, _, _, hbr⟩, _⟩ _
    omega
  case stopa =>
    rintro D cc pre Wx hD hpre hx hK
    rcases hx with hx | ⟨rfl, hpm, b9, b6, b8, hB⟩
    · exact absurd (MatR.of_prefix hpre) hx
    rw [hpm] at b9
    clear hpm hpre
    have hDl : D < Wx.heap.size := (Array.getElem?_eq_some_iff.1 hK).1
    have HK := Lib.hid hK
    have hltW : w2.heap.size + 2 ≤ Wx.heap.size := by have h1 : Wa0.heap.size < Wx.heap.size := World.block_lt_of_cell? Wx _ b9.1; have := HSZ.out; omega
    have hBf := rB.out.trans (hB.mono (by have := HSZ.out; omega))
    have b3 := q3.out.belowN hBf (by omega)
    have i9 := b9.1
    have i6 := b6.1
    have i8 := b8.1
    have i3 := b3.1
    have HLT6 := Lib.hid (show w.heap.size ≤ D by have h1 := hD; simp only [World.size_alloc] at h1; have := HSZ.out; omega)
    have hd1 : decide (most < 1) = false := by simp; omega
    have hd2 : decide ((L.length : Int) < most) = false := by simp; omega
    have HB := Lib.hid hBf
    have HMO := Lib.hid hmost
    have p6 := Lib.hid b6
    clear hK hD hB hBf b3 b9 b6 b8 hmost e6 e8 e9 eS eB r6 r8 rB HSZ
    gi_wp2
    rw [roundsIn_succ]
    have r6 := Lib.hid (p6.out.alloc (.cells #[.int .i64 1] 3))
    have r8 := Lib.hid (BoxOf.new Wx (.int .i64 1) 3)
    have rB := Lib.hid (HB.out.trans ((below_alloc (Below.refl Wx.heap.size Wx) (.cells #[.int .i64 1] 3)).mono (by omega)))
    obtain ⟨Wb0, hW0⟩ : ∃ W0, Wx.alloc (.cells #[.int .i64 1] 3) = W0 := ⟨_, rfl⟩
    have hKb := (Below.heap_alloc Wx (.cells #[.int .i64 1] 3) D hDl).trans HK.out
    rw [hW0] at r6 r8 rB hKb ⊢
    have hsz0 : Wb0.heap.size = Wx.heap.size + 1 := by rw [← hW0]; simp
    have HKb := Lib.hid hKb
    have HSZ := Lib.hid (⟨hsz0, hltW, hDl⟩ : Wb0.heap.size = Wx.heap.size + 1 ∧ w2.heap.size + 2 ≤ Wx.heap.size ∧ D < Wx.heap.size)
    clear hW0 hsz0 hltW hDl HK hKb i9 i6 i8 i3 p6 HB
    have i8 := r8.out.1
    have hmost := HMO.out
    have HW := Lib.hid (Walk_calls s (Wb0.alloc (.cells #[.int .i64 0] 3)))
    gi_wp2_with (refine ⟨trivial, ?_⟩; gi_at_call 68; refine (callsIn_wide.2 HW.out).mono ?_; rintro e w' ⟨rfl, rfl⟩)
    clear HW
    have e6 := (r6.out.alloc (.cells #[.int .i64 0] 3)).alloc (.cells #[.string s] 9)
    have e8 := (r8.out.alloc (.cells #[.int .i64 0] 3)).alloc (.cells #[.string s] 9)
    have e9 := (BoxOf.new Wb0 (.int .i64 0) 3).alloc (.cells #[.string s] 9)
    have eS := BoxOf.new (Wb0.alloc (.cells #[.int .i64 0] 3)) (.string s) 9
    rw [World.size_alloc] at eS
    have eB := below_alloc (below_alloc (Below.refl Wb0.heap.size Wb0) (.cells #[.int .i64 0] 3)) (.cells #[.string s] 9)
    refine wpIn_rangeFunc_ownF (n := 6) rfl (by decide) (gf := 101) (lb := #[.pointer (some ⟨Wb0.heap.size + 1, 0, none⟩)]) rfl trivial (enters_of Try.func101 (by kernel_rfl) rfl)
      (WS.out (Wb0.heap.size + 1) Wb0.heap.size _ eS.1 (by simp)) belowK_t (belowK_b (by simp; omega)) (Below.refl _ _) (fun _ => rfl)
      (fun pre W => (BoxOf W Wb0.heap.size (.int .i64 (pre.length : Int)) ∧ BoxOf W w2.heap.size (.slice A L.length c0) ∧ BoxOf W Wx.heap.size (.int .i64 1) ∧ MatR L pre) ∧ Below Wb0.heap.size Wb0 W)
      (fun _ pre _ => ¬ MatR L pre)
      (OwnFrom.and (Own.from (fun s A B row hs hg hr => ⟨hs.1.grown hg hr, hs.2.1.grown hg hr, hs.2.2.1.grown hg hr, hs.2.2.2⟩) _) (ownFrom_below (Nat.le_refl _) (by simp; omega)))
      (fun _ _ _ _ _ hs _ _ => hs)
      ⟨⟨e9, e6, e8, MatR.nil L⟩, eB⟩
      ?ab ?assignb ?bodyb ?doneb ?stopb
    case assignb =>
      intro l x W K hK
      gi_wp2
      exact hK
    case bodyb =>
      rintro l1 pre x W ⟨⟨b9, b6, b8, hM⟩, hB⟩ hN
      rename_i z1 z2 z3 z4 z5 z6 z7 z8
      try clear z8
      try clear z7
      try clear z6
      try clear z5
      try clear z4
      try clear z3
      try clear z2
      try clear z1
      obtain ⟨r, hr⟩ : ∃ r, L[pre.length]? = some r := ⟨_, List.getElem?_eq_getElem hN⟩
      have hrd := rd_rows hr
      have HLEN := Lib.hid (show (((pre ++ [x]).length : Nat) : Int) = (pre.length : Int) + 1 by simp)
      have hlt0 : (pre.length : Int) < (L.length : Int) := by omega
      have hge0 : (0 : Int) ≤ (pre.length : Int) := by omega
      have HI := Lib.hid (rfl : (pre.length : Int) = (pre.length : Int))
      generalize (pre.length : Int) = i at b9 hrd hlt0 hge0 HLEN HI
      have hBf := rB.out.trans (hB.mono (by have := HSZ.out; omega))
      obtain ⟨ad, hA, x1, x2⟩ := at_T99 (Kd.C_below RC.out hBf) i hge0 hlt0
      subst hA
      rw [hrd] at x1 x2
      clear hrd
      have hi2 : i ≤ 1048576 := by omega
      have hd : decide ((L.length : Int) ≤ i) = false := by simp; omega
      have HM := Lib.hid hM
      have HR := Lib.hid hr
      have HX := Lib.hid (fun (h : MatR L (pre ++ [x])) => (Option.some.inj (h.last.symm.trans hr) : x = r))
      have b3 := q3.out.belowN hBf (by omega)
      have BB := Lib.hid (⟨b9, b6, b8⟩ : BoxOf W Wb0.heap.size (.int .i64 i) ∧ BoxOf W w2.heap.size (.slice (some ad) L.length c0) ∧ BoxOf W Wx.heap.size (.int .i64 1))
      have b4 := q4.out.belowN hBf (by omega)
      have HB := Lib.hid hB
      have i9 := b9.1
      have f9 := b9.2
      have i6 := b6.1
      have i8 := b8.1
      have i3 := b3.1
      have i4 := b4.1
      have f4 := b4.2
      have j8 := (b8.far (b' := Wb0.heap.size) (u := .int .i64 (i + 1)) (by have := HSZ.out; omega)).1
      have j3 := (b3.far (b' := Wb0.heap.size) (u := .int .i64 (i + 1)) (by have := HSZ.out; omega)).1
      have j9 := (b9.set (u := .int .i64 (i + 1))).1
      have HMO := Lib.hid hmost
      clear hmost hN hM hr hB hBf b9 b6 b8 b3 b4 e6 e8 e9 eS eB
      obtain ⟨xk, xl, hxl⟩ := x
      obtain ⟨rk, rl, hrl⟩ := r
      dsimp only [asRow] at x1 x2 ⊢
      by_cases hk : xk = rk
      · subst hk
        by_cases ht : xl = rl
        · subst ht
          have HMM := Lib.hid (HM.out.snoc HR.out)
          gi_wp2
          exact ⟨KeepsOthers.setCell _ _ _, (Below.refl Wb0.heap.size W).setCell (p := ⟨Wb0.heap.size, 0, none⟩) (Nat.le_refl _) _, ⟨⟨by rw [HLEN.out]; exact BB.out.1.set, BB.out.2.1.far (by have := HSZ.out; omega), BB.out.2.2.far (by have := HSZ.out; omega), HMM.out⟩, HB.out.setCell (p := ⟨Wb0.heap.size, 0, none⟩) (Nat.le_refl _) _⟩⟩
        · have ht1 := ba_list ht
          have ht2 := ba_list (Ne.symm ht)
          have HZ := Lib.hid (fun h => ht (congrArg Fr.load (HX.out h)))
          clear ht
          gi_wp2
          exact ⟨KeepsOthers.setCell _ _ _, HZ.out⟩
      · have hk1 : (rk == xk) = false := by simpa using Ne.symm hk
        have hk2 : (rk != xk) = true := by simpa using Ne.symm hk
        have HZ := Lib.hid (fun h => hk (congrArg Fr.kind (HX.out h)))
        clear hk
        gi_wp2
        exact ⟨KeepsOthers.setCell _ _ _, HZ.out⟩
    case stopb =>
      rintro D cc pre W hD hpre hx hK
      exact absurd (MatR.of_prefix hpre) hx
    case doneb =>
      rintro D2 ys Wy hD2 hys ⟨⟨b9, b6, b8, hM⟩, hB⟩ hK
      obtain rfl : L = ys := hys.symm
      clear hM
      have hDl2 : D2 < Wy.heap.size := (Array.getElem?_eq_some_iff.1 hK).1
      have hlx : Wx.heap.size < Wy.heap.size := World.block_lt_of_cell? Wy _ b8.1
      have hlt : D < Wx.heap.size := HSZ.out.2.2
      have hD3 : Wx.heap.size < D2 := by have := HSZ.out.1; simp at hD2; omega
      have HDD := Lib.hid (show D < D2 by omega)
      have hBf := rB.out.trans (hB.mono (by have := HSZ.out; omega))
      have b3 := q3.out.belowN hBf (by omega)
      have HK := Lib.hid hK
      have HK1 := Lib.hid ((hB.block D (by have := HSZ.out; omega)).trans HKb.out)
      have i9 := b9.1
      have i6 := b6.1
      have i8 := b8.1
      have i3 := b3.1
      have hnn : ((L.length : Int) != (L.length : Int)) = false := by simp
      have hgg : ((G : Int) == (G : Int)) = true := by simp
      have g4 := Lib.hid ((q4.out.belowN hBf (by omega)).alloc (.cells #[.int .i64 2] 3))
      have gB := Lib.hid (bstep (qB.out.trans (hBf.mono (by omega))) (below_alloc (Below.refl Wy.heap.size Wy) (.cells #[.int .i64 2] 3)))
      have gK := Lib.hid ((Below.heap_alloc Wy (.cells #[.int .i64 2] 3) D2 hDl2).trans HK.out)
      have gK1 := Lib.hid ((Below.heap_alloc Wy (.cells #[.int .i64 2] 3) D (by omega)).trans HK1.out)
      have HYS := Lib.hid (show D2 < Wy.heap.size from hDl2)
      clear hK hB hBf b3 b9 b6 b8 hmost e6 e8 e9 eS eB r6 r8 rB HSZ HK HK1 HKb hD2 hlx hlt hD3 hDl2
      have HLAST := Lib.hid hlt6
      clear hlt6
      gi_wp2
      rw [roundsIn_succ]
      gi_wp2_with (refine ⟨trivial, ?_⟩; gi_at_call 69; refine (callsIn_wide.2 (HG.out _)).mono ?_; rintro e w5 ⟨rfl, hb⟩; have S4 := Lib.hid (g4.out.below hb); have SB := Lib.hid (bstep gB.out hb); have SK := Lib.hid ((hb.block D2 (Array.getElem?_eq_some_iff.1 gK.out).1).trans gK.out); have SK1 := Lib.hid ((hb.block D (Array.getElem?_eq_some_iff.1 gK1.out).1).trans gK1.out); have s4c := S4.out.1; have s4f := S4.out.2)
      have hK2' := (KeepsOthers.setCell w5 ⟨w.heap.size + 1, 0, none⟩ (.bool true)).same D2 _ SK.out rfl
      have hK1 := (KeepsOthers.setCell w5 ⟨w.heap.size + 1, 0, none⟩ (.bool true)).same D _ SK1.out rfl
      have hX4 := S4.out.set (u := .bool true)
      have hXB := SB.out.setCell (p := ⟨w.heap.size + 1, 0, none⟩) (by show w.heap.size ≤ w.heap.size + 1; omega) (.bool true)
      generalize w5.setCell ⟨w.heap.size + 1, 0, none⟩ (.bool true) = X at hK2' hK1 hX4 hXB ⊢
      have hK1' := ((grownBy_putObj' X D2 (.deferred none)).block D (Array.getElem?_eq_some_iff.1 hK1).1 (by intro e; injection e with e; have := HDD.out; omega)).trans hK1
      have hY4 := hX4.grown (grownBy_putObj' X D2 (.deferred none)) (fun r e => by cases e; exact ⟨_, hK2', rfl⟩)
      have hYB := hXB.trans (belowK_b (w := w) (Nat.le_refl _) X D2 _ (.deferred none) (by have := HDD.out; have := HLT6.out; omega) hK2' rfl rfl)
      refine ⟨by simp, .inl ⟨_, _, rfl, run_takeDeferred hK2', by simp, .inl ⟨_, _, rfl, run_takeDeferred hK1', ?_⟩⟩⟩
      have hZ4 := (hY4.grown (grownBy_putObj' _ D (.deferred none)) (fun r e => by cases e; exact ⟨_, hK1', rfl⟩)).1
      refine ⟨.bool true, ?_, rfl, hYB.trans (belowK_b (w := w) (Nat.le_refl _) _ D _ _ (by have := HLT6.out; omega) hK1' rfl rfl)⟩
      simp [results, Try.f18, go_sem, hZ4]
theorem walks_fin (s : ByteArray) (most : Int) (w : World) (hs : s.size ≤ 1048576) :
    Calls Try.prog 18 #[.string s, .int .i64 most] w fun e w' => e = .returned (.bool true) ∧ Below w.heap.size w w' := by
  rcases (by omega : most < 1 ∨ 1 ≤ most) with h | h
  · exact walks_lo s most w hs _ rfl h
  · rcases (by omega : ((framesF s).length : Int) < most ∨ most ≤ ((framesF s).length : Int)) with h2 | h2
    · exact walks_hi s most w hs _ rfl ⟨h, h2⟩
    · exact walks_br s most w hs _ rfl ⟨h, h2⟩
end Go.Proofs.Ytfemjlhfgmbcmaa
