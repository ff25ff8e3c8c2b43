/- The walk of MailPlays. Laid by gen_pe.py. -/
import Derived.Test.YtijbpncekdiodaaPd
import Derived.Test.YtijbpncekdiodaaPc
namespace Go.Proofs.Ytijbpncekdiodaa
open Go.RowKit Go.Shelf Go.Proofs.YtijbpncekdiodaaW.PrintWords Go.Proofs.YtijbpncekdiodaaW.PrintLast Go.Proofs.YtijbpncekdiodaaW.PrintMore
open Go.Proofs.Ytijbpncekdiodaa.PMailMoves
set_option linter.unusedVariables false
set_option linter.unusedSimpArgs false
attribute [local go_sem] Oper.semAt_some
attribute [local go_sem ↓] Go.wp_at_zero Go.wp_at_succ

/-- How much has been put in at most. -/
def wt50 (a : S50) : Nat := (a.f2.map fun x => x.f1.f12.length + 1).sum + 1
def noPanic (Q : Exit → Act → World → Prop) (e : Exit) (a : Act) (w : World) : Prop := match e with
  | .panic _ => False
  | e => Q e a w
theorem noPanic_le (Q : Exit → Act → World → Prop) : ∀ e a w, noPanic Q e a w → Q e a w := fun e a w h => by
  cases e <;> first | exact h | exact h.elim
theorem heap50 : Kd.Heap k50 := Kd.heap_iso _ (Kd.heap_pair (Kd.heap_int _) (Kd.heap_pair (Kd.heap_int _) (Kd.heap_slice _ heap32)))
theorem wt_step (l : List S50) (k : Nat) (h : k < l.length) : ((l.take (k + 1)).map wt50).sum = ((l.take k).map wt50).sum + wt50 (l.getD k z50) := by
  rw [List.take_succ_eq_append_getElem h, List.map_append, List.sum_append, List.getD_eq_getElem?_getD, List.getElem?_eq_getElem h]
  simp
theorem wt_take (l : List S50) (k : Nat) : ((l.take k).map wt50).sum ≤ (l.map wt50).sum := by
  have h : (l.map wt50).sum = ((l.take k).map wt50).sum + ((l.drop k).map wt50).sum := by rw [← List.sum_append, ← List.map_append, List.take_append_drop]
  omega
theorem len_le (l : List S50) : l.length ≤ (l.map wt50).sum := by
  induction l with
  | nil => exact Nat.zero_le _
  | cons y r ih => simp only [List.length_cons, List.map_cons, List.sum_cons]; unfold wt50 at *; omega
theorem sends_mem (l : List S32) (B : Nat) (h : (l.map fun x => x.f1.f12.length + 1).sum ≤ B) : (∀ x ∈ l, x.f1.f12.length ≤ B) ∧ l.length ≤ (l.map fun x => x.f1.f12.length + 1).sum := by
  induction l with
  | nil => exact ⟨fun x hx => (by cases hx), Nat.zero_le _⟩
  | cons y r ih =>
    simp only [List.map_cons, List.sum_cons] at h ⊢
    obtain ⟨h1, h2⟩ := ih (by omega)
    refine ⟨fun x hx => ?_, by simp only [List.length_cons]; omega⟩
    rcases List.mem_cons.1 hx with rfl | hx
    · omega
    · exact h1 x hx
theorem wt_mem (a : S50) (h : wt50 a ≤ 1048576) : (∀ x ∈ a.f2, x.f1.f12.length ≤ 1048576) ∧ a.f2.length + 1 ≤ wt50 a := by
  unfold wt50 at h ⊢
  have := sends_mem a.f2 1048576 (by omega)
  exact ⟨this.1, by omega⟩
theorem one3 (a b : Int) (A : Option Addr) (n c : Nat) : ∀ q ∈ [Value.int .i64 a, .int .i64 b, .slice A n c], q.oneCell' = true := by
  intro q hq
  simp only [List.mem_cons, List.not_mem_nil, or_false] at hq
  rcases hq with rfl | rfl | rfl <;> rfl

set_option maxRecDepth 100000 in
set_option maxHeartbeats 100000000 in
theorem mailPlays_fin (A : Option Addr) (cA : Nat) (l : List S50) (most : Int) (w : World) (hA : Kd.C k50 w A l.length l) (hl : (l.map wt50).sum ≤ 1048576) :
    Calls Try.prog 6 #[.slice A l.length cA, .int .i64 most] w fun e w' => e = .returned (.bool true) ∧ Below w.heap.size w w' := by
  have HA := Lib.hid hA
  have HL := Lib.hid hl
  clear hA hl
  refine (callsIn_wide (n := 6)).1 ?_
  refine callsIn_of_wp_marks Try.func6 rfl trivial ?_ rfl
  simp only [Try.ntmps6, List.size_toArray, List.length_cons, List.length_nil, Nat.reduceAdd, Nat.reduceSub, Array.replicate_succ, Array.replicate_zero, List.push_toArray, List.append_toArray, List.nil_append, List.cons_append]
  refine wpIn_mono ?_ (noPanic_le _)
  refine wpIn_wide.2 ?_
  go_wp2_with (first | (go_at_call 8; refine (shown_calls _).mono ?_; rintro e w1 ⟨rfl, hb1⟩; have HB1 := Lib.hid hb1; clear hb1) | (go_at_call 9; refine (New_calls _).mono ?_; rintro e w2 ⟨rfl, hw2⟩; have HW2 := Lib.hid hw2; clear hw2))
  have hs1 : w.heap.size + 2 ≤ w1.heap.size := by have := HB1.out.size; simp at this; omega
  have hs2 : w2.heap.size = w1.heap.size + 1 := by rw [HW2.out]; simp
  have hb0 : Below w.heap.size w ((w.alloc (.cells #[.int .i64 most] 3)).alloc (.cells #[.bool false] 4)) := below_alloc (below_alloc (Below.refl _ _) _) _
  have hb1 : Below w.heap.size w w1 := hb0.trans (HB1.out.mono (by simp; omega))
  obtain ⟨p, hpg, hpr, hpM, hpR, hp7, hpb, hpB, hpm⟩ : ∃ p : Pl, p.g = w1.heap.size ∧ p.r = w2.heap.size ∧ p.gM = w.heap.size ∧ p.gR = w.heap.size + 1 ∧ p.g7 = w2.heap.size + 1 ∧ p.base = w.heap.size ∧ p.B0 = w2.heap.size + 2 ∧ p.most = most := ⟨⟨w1.heap.size, w2.heap.size, w.heap.size, w.heap.size + 1, w2.heap.size + 1, w.heap.size, w2.heap.size + 2, most⟩, rfl, rfl, rfl, rfl, rfl, rfl, rfl, rfl⟩
  have hok : p.Ok := by unfold Pl.Ok; omega
  obtain ⟨W0, hW0⟩ : ∃ W0, W0 = (w2.alloc (.cells #[.slice none 0 0] 48)).alloc (.cells #[.pointer (some ⟨w2.heap.size, 0, none⟩)] 46) := ⟨_, rfl⟩
  have hb20 : Below w2.heap.size w2 W0 := hW0 ▸ below_alloc (below_alloc (Below.refl _ _) _) _
  have hb12 : Below w1.heap.size w1 w2 := HW2.out ▸ below_alloc (Below.refl _ _) _
  have hb10 : Below w1.heap.size w1 W0 := hb12.trans (hb20.mono hb12.size)
  have hi0 : p.I w W0 (.slice none 0 0) (.slice none 0 0) [] [] := by
    refine ⟨⟨?_, ?_, ?_⟩, ⟨?_, Kd.N_nil _ _ _ _ _, fun k hk => by have := hk.1; omega, by omega⟩, ⟨?_, Kd.N_nil _ _ _ _ _, fun k hk => by rcases hk.1 with h | h <;> omega, by omega⟩, ?_, ?_⟩
    · rw [hpM, hpm]; exact blk_below (blk_below (blk_alloc (blk_new w _) _) HB1.out) hb10
    · rw [hpR]; exact blk_below (blk_below (heap_alloc2_new w _ _) HB1.out) hb10
    · rw [hp7, hpr, hW0]; exact heap_alloc2_new w2 _ _
    · rw [hpg]; exact blk_below (HW2.out ▸ blk_new w1 _) hb20
    · rw [hpr, hW0]; exact blk_alloc (blk_new w2 _) _
    · rw [hpb]; exact hb1.trans (hb10.mono hb1.size)
    · rw [hpB, hW0]; simp
  have HI0 := Lib.hid hi0
  have HOK := Lib.hid hok
  have HPB := Lib.hid hpb
  rw [← hW0, ← hpR, ← hp7, ← hpr, ← hpg, ← hpM]
  have HHH := Lib.hid hpm
  clear hs1 hs2 hb0 hb1 hpg hpr hpM hpR hp7 hpb hpB hpm hok hW0 hb20 hb12 hb10 hi0 HB1 HW2
  go_loopw [8] (fun iv W => ∃ (j : Int) (v vr : Value) (xs : List S32), iv = .int .i64 j ∧ 0 ≤ j ∧ j ≤ l.length ∧ p.I w W v vr xs xs ∧ (∀ x ∈ xs, x.f1.f12.length ≤ 1048576) ∧ xs.length ≤ ((l.take j.toNat).map wt50).sum) (fun iv _ => l.length - (intOf iv).toNat)
  case atStart => exact ⟨0, _, _, [], rfl, Int.le_refl _, by omega, HI0.out, (fun x hx => by cases hx), by simp⟩
  case round =>
    obtain ⟨j, v, vr, xs, rfl, hj0, hj, hI, hxv, hxl⟩ := hrel
    clear HI0
    have HI := Lib.hid hI
    have HXV := Lib.hid hxv
    have HXL := Lib.hid hxl
    by_cases hlt : j < (l.length : Int)
    · have hjl : j.toNat < l.length := by omega
      obtain ⟨ad, cx, hA2, hcl, hFK, hcc, had⟩ := Kd.F_get (Kd.C_F heap50 HA.out) z50 j hj0 hlt
      have hK := Kd.FK_now hFK
      have hadl : ad.block < w.heap.size := had (by decide)
      clear hFK had
      obtain ⟨a, ha⟩ : ∃ a, a = l.getD j.toNat z50 := ⟨_, rfl⟩
      have hwt := wt_step l j.toNat hjl
      rw [← ha] at hK hwt
      have hsum := wt_take l (j.toNat + 1)
      have HWT := Lib.hid hwt
      have HSU := Lib.hid (show xs.length + wt50 a ≤ 1048576 by have := HL.out; omega)
      have hav := wt_mem a (by have := HL.out; omega)
      obtain ⟨kd, ii, L⟩ := a
      obtain ⟨AL, cL, rfl, hcL, hCL⟩ := k50_open hK
      have HAV := Lib.hid (show ∀ x ∈ L, x.f1.f12.length ≤ 1048576 from hav.1)
      have HLL := Lib.hid (show L.length + 1 ≤ wt50 ⟨kd, ii, L⟩ from hav.2)
      have HFL := Lib.hid (fun (W : World) (hb : Below w.heap.size w W) => F_arg (w := w) hCL hb)
      have hbw : Below w.heap.size w wr := by have := hI.2.2.2.1; rwa [HPB.out] at this
      subst hA2
      have HJL := Lib.hid hjl
      have HC45 := Lib.hid (fun t u h => (by rw [add_add]; exact pw_cell_below' hbw hadl (hcc t u h)) : ∀ t u, [.int .i64 kd, .int .i64 ii, .slice AL L.length cL][t]? = some u → wr.cell? ((ad.add (j.toNat * 3)).add t) = some u)
      have HFP := Lib.hid (fun (W : World) (hb : Below p.base w W) => (show Kd.F k32 W (fun k => k < p.base) AL L.length L by rw [HPB.out] at hb ⊢; exact HFL.out W hb))
      have HVL := Lib.hid (own_lt_box hI)
      have HRL := Lib.hid (own_lt_ref hI)
      have HGS := Lib.hid (show p.g < wr.heap.size ∧ p.r < wr.heap.size from ⟨hI.2.1.lt, hI.2.2.1.lt⟩)
      have hlq : ((L.length : Int) == (L.length : Int)) = true := by simp
      clear hI hxv hxl hj hjl hcl hK hcc ha hwt hsum hav hcL hCL hbw hadl
      have hjb : j ≤ 1048576 := by have := len_le l; have := HL.out; have := HJL.out; omega
      by_cases k1 : kd = 1
      · subst k1
        go_wp2_with (first | ((with_reducible refine gate_dst (N := 45) rfl ?_); refine wpList_load_at rfl 50 (.tmp 44) rfl (ad.add (j.toNat * 3)) rfl _ _ HC45.out Try.underlying50 rfl (by kernel_rfl) ?_) | ((with_reducible refine gate_dst (N := 9) rfl ?_); refine box_event ?hg (N := 9) ?hd (cs := #[.int .i64 0, .int .i64 0, .slice none 0 0]) (t := 50) ?hr ?_; (case hd => rfl); (case hg => rfl); (case hr => first | (go_simp; done) | (go_simp; rfl)); intro g9 hg w4 hz hb; have HG9 := Lib.hid hg; have HZ4 := Lib.hid hz; have HB4 := Lib.hid hb; clear hg hz hb) | (refine wpList_store_row rfl rfl 50 (.tmp 9) (.tmp 45) rfl (g := g9) rfl rfl HZ4.out (by kernel_rfl) rfl (one3 _ _ _ _ _) ?_; intro w5 hz hg; have hb5 := Below.grown HB4.out hg HB4.out.size (fun b e => by injection e with e; have := HG9.out; omega); have HB5 := Lib.hid hb5; have HI5 := Lib.hid (HI.out.below HPB.out.symm hb5); have HZ9 := Lib.hid hz; have i90 := blk_cell hz 0; have i91 := blk_cell hz 1; have i92 := blk_cell hz 2; have i7 := blk_cell HI5.out.1.2.2 0; clear hz hg hb5) | (go_at_call 10; refine (P_put HOK.out HI5.out (HFP.out _ HI5.out.2.2.2.1) HAV.out (by have := HSU.out; have := HLL.out; omega)).mono ?_; rintro e w6 ⟨rfl, hk6, v6, hi6⟩; have hz9 := blk_kept HZ9.out hk6 (by have := HG9.out; have := HGS.out; omega) (fun k e => by have := HVL.out k e; have := HG9.out; omega); clear i90 i91 i92 i7; have i90 := blk_cell hz9 0; have i91 := blk_cell hz9 1; have i92 := blk_cell hz9 2; have i7 := blk_cell hi6.1.2.2 0; have HZ96 := Lib.hid hz9; have HI6 := Lib.hid hi6; clear hz9 hi6 hk6) | (go_at_call 17; refine (R_put HOK.out HI6.out (HFP.out _ HI6.out.2.2.2.1) (by have := HSU.out; have := HLL.out; omega)).mono ?_; rintro e w7 ⟨rfl, hk7, vr7, hi7⟩; have HI7 := Lib.hid hi7; clear hk7 hi7))
        obtain ⟨xe, hxe⟩ : ∃ xe, xe = xs ++ L := ⟨_, rfl⟩
        have hIe : p.I w w7 v6 vr7 xe xe := by rw [hxe]; exact HI7.out
        have HVE := Lib.hid (show ∀ x ∈ xe, x.f1.f12.length ≤ 1048576 by rw [hxe]; exact fun x hx => by rcases List.mem_append.1 hx with h | h; exact HXV.out x h; exact HAV.out x h)
        have HLE := Lib.hid (show xe.length ≤ ((l.take (j.toNat + 1)).map wt50).sum by rw [hxe, HWT.out]; exact by rw [List.length_append]; have := HXL.out; have := HLL.out; omega)
        clear hxe
        obtain ⟨Ar, cr, hvr⟩ := hIe.2.2.1.slice
        have HLEN := Lib.hid (Len_calls p.g p.base xe w7.drew _ v6 (hIe.2.1.below (below_drew1 (Below.refl _ _))))
        have HS := Lib.hid (show w7.drew.cell? ⟨p.g7, 0, none⟩ = some (.pointer (some ⟨p.r, 0, none⟩)) ∧ w7.drew.cell? ⟨p.r, 0, none⟩ = some (.slice Ar xe.length cr) from ⟨(blk_cell hIe.1.2.2 0).trans rfl, (blk_cell hIe.2.2.1.1 0).trans (by rw [hvr]; rfl)⟩)
        have HIE := Lib.hid (hIe.below HPB.out.symm (below_drew1 (Below.refl _ _)))
        have hnn : ((xe.length : Int) != (xe.length : Int)) = false := by simp
        clear hIe
        refine start_ (n := 12) (S := fun w' => w'.cell? ⟨p.g7, 0, none⟩ = some (.pointer (some ⟨p.r, 0, none⟩)) ∧ w'.cell? ⟨p.r, 0, none⟩ = some (.slice Ar xe.length cr)) (ds := []) #[false, false, false, false, false, false, false, false, false, false, false, false] (by kernel_rfl) rfl rfl (HS.out) (fun hHeld => ?_)
        refine pure_ (i := 0) (N := some 137) (v := ?_) (a' := ?_) #[true, false, false, false, false, false, false, false, false, false, false, false] rfl rfl (by kernel_rfl) (fun _ _ _ h => h) (Or.inl ⟨by rfl, ?_⟩) ?_ ?_
        rotate_left
        · intro w'
          go_simp
          with_reducible rfl
        rotate_left
        · simp only [Act.put, List.setIfInBounds_toArray, List.set_cons_zero, List.set_cons_succ, i64_w, i32_w]
          rfl
        refine pure_ (i := 1) (N := some 138) (v := ?_) (a' := ?_) #[true, true, false, false, false, false, false, false, false, false, false, false] rfl rfl (by kernel_rfl) (fun _ _ _ h => h) (Or.inl ⟨by rfl, ?_⟩) ?_ ?_
        rotate_left
        · intro w'
          go_simp
          with_reducible rfl
        rotate_left
        · simp only [Act.put, List.setIfInBounds_toArray, List.set_cons_zero, List.set_cons_succ, i64_w, i32_w]
          rfl
        refine pure_ (i := 2) (N := some 139) (v := ?_) (a' := ?_) #[true, true, true, false, false, false, false, false, false, false, false, false] rfl rfl (by kernel_rfl) (fun _ _ _ h => h) (Or.inl ⟨by rfl, ?_⟩) ?_ ?_
        rotate_left
        · intro w'
          go_simp
          with_reducible rfl
        rotate_left
        · simp only [Act.put, List.setIfInBounds_toArray, List.set_cons_zero, List.set_cons_succ, i64_w, i32_w]
          rfl
        refine pure_ (i := 3) (N := some 140) (v := ?_) (a' := ?_) #[true, true, true, true, false, false, false, false, false, false, false, false] rfl rfl (by kernel_rfl) (fun _ _ _ h => h) (Or.inl ⟨by rfl, ?_⟩) ?_ ?_
        rotate_left
        · intro w'
          go_simp
          with_reducible rfl
        rotate_left
        · simp only [Act.put, List.setIfInBounds_toArray, List.set_cons_zero, List.set_cons_succ, i64_w, i32_w]
          rfl
        refine take_ (i := 5) (N := some 142) (v := ?_) (a' := ?_) #[true, true, true, true, false, true, false, false, false, false, false, false] rfl rfl (by kernel_rfl) (fun _ _ _ h => h) (Or.inl ⟨by rfl, ?_⟩) hHeld ?_ ?_
        rotate_left
        · rintro w' ⟨s0, s1⟩
          go_simp
          with_reducible rfl
        rotate_left
        · simp only [Act.put, List.setIfInBounds_toArray, List.set_cons_zero, List.set_cons_succ, i64_w, i32_w]
          rfl
        refine pure_ (i := 6) (N := some 143) (v := ?_) (a' := ?_) #[true, true, true, true, false, true, true, false, false, false, false, false] rfl rfl (by kernel_rfl) (fun _ _ _ h => h) (Or.inl ⟨by rfl, ?_⟩) ?_ ?_
        rotate_left
        · intro w'
          go_simp
          with_reducible rfl
        rotate_left
        · simp only [Act.put, List.setIfInBounds_toArray, List.set_cons_zero, List.set_cons_succ, i64_w, i32_w]
          rfl
        refine pure_ (i := 7) (N := some 144) (v := ?_) (a' := ?_) #[true, true, true, true, false, true, true, true, false, false, false, false] rfl rfl (by kernel_rfl) (fun _ _ _ h => h) (Or.inl ⟨by rfl, ?_⟩) ?_ ?_
        rotate_left
        · intro w'
          go_simp
          with_reducible rfl
        rotate_left
        · simp only [Act.put, List.setIfInBounds_toArray, List.set_cons_zero, List.set_cons_succ, i64_w, i32_w]
          rfl
        refine take_ (i := 8) (N := some 145) (v := ?_) (a' := ?_) #[true, true, true, true, false, true, true, true, true, false, false, false] rfl rfl (by kernel_rfl) (fun _ _ _ h => h) (Or.inl ⟨by rfl, ?_⟩) hHeld ?_ ?_
        rotate_left
        · rintro w' ⟨s0, s1⟩
          go_simp
          with_reducible rfl
        rotate_left
        · simp only [Act.put, List.setIfInBounds_toArray, List.set_cons_zero, List.set_cons_succ, i64_w, i32_w]
          rfl
        refine pure_ (i := 9) (N := some 146) (v := ?_) (a' := ?_) #[true, true, true, true, false, true, true, true, true, true, false, false] rfl rfl (by kernel_rfl) (fun _ _ _ h => h) (Or.inl ⟨by rfl, ?_⟩) ?_ ?_
        rotate_left
        · intro w'
          go_simp
          with_reducible rfl
        rotate_left
        · simp only [Act.put, List.setIfInBounds_toArray, List.set_cons_zero, List.set_cons_succ, i64_w, i32_w]
          rfl
        refine one_ (i := 4) (N := some 141) #[true, true, true, true, true, true, true, true, true, true, false, false] rfl rfl (by kernel_rfl) (by decide) (fun K hK => ?_)
        refine goes_ Try.func12 (by kernel_rfl) rfl #[.pointer (some ⟨p.g, 0, none⟩)] (by rfl) rfl rfl (by simp only [List.map_toArray, List.map_cons, List.map_nil]; rfl) ?_
        refine HLEN.out.mono ?_
        rintro e wl ⟨rfl, rfl⟩
        refine ⟨_, rfl, ?_⟩
        refine hK.out _ _ (HS.out) (fun hHeld => ?_)
        clear hK K
        refine norm_ (a' := ?_) ?_ ?_
        rotate_left
        · show Act.put _ (some 141) _ = _
          simp only [Act.put, List.setIfInBounds_toArray, List.set_cons_zero, List.set_cons_succ, i64_w, i32_w]
          rfl
        refine pure_ (i := 10) (N := some 147) (v := ?_) (a' := ?_) #[true, true, true, true, true, true, true, true, true, true, true, false] rfl rfl (by kernel_rfl) (fun _ _ _ h => h) (Or.inl ⟨by rfl, ?_⟩) ?_ ?_
        rotate_left
        · intro w'
          go_simp
          with_reducible rfl
        rotate_left
        · simp only [Act.put, List.setIfInBounds_toArray, List.set_cons_zero, List.set_cons_succ, i64_w, i32_w]
          rfl
        refine pure_ (i := 11) (N := some 148) (v := ?_) (a' := ?_) #[true, true, true, true, true, true, true, true, true, true, true, true] rfl rfl (by kernel_rfl) (fun _ _ _ h => h) (Or.inl ⟨by rfl, ?_⟩) ?_ ?_
        rotate_left
        · intro w'
          go_simp
          with_reducible rfl
        rotate_left
        · simp only [Act.put, List.setIfInBounds_toArray, List.set_cons_zero, List.set_cons_succ, i64_w, i32_w]
          rfl
        refine done_ (by kernel_rfl) ?_
        clear hHeld
        go_wp2_with fail
        go_roundw
        case rel => exact ⟨j + 1, _, _, xe, rfl, by omega, by omega, HIE.out, HVE.out, by rw [show (j + 1).toNat = j.toNat + 1 by omega]; exact HLE.out⟩
        case measure => simp [intOf]; omega
      by_cases k2 : kd = 2
      · subst k2
        by_cases hin : 0 ≤ ii ∧ ii < xs.length
        · skip
          obtain ⟨x, hx⟩ : ∃ x, x = xs.getD ii.toNat z32 := ⟨_, rfl⟩
          have HX := Lib.hid hx
          have HXX := Lib.hid (show x.f1.f12.length ≤ 1048576 by rw [hx]; exact HXV.out _ (getD_mem32 (by omega)))
          clear hx
          go_wp2_with (first | ((with_reducible refine gate_dst (N := 45) rfl ?_); refine wpList_load_at rfl 50 (.tmp 44) rfl (ad.add (j.toNat * 3)) rfl _ _ HC45.out Try.underlying50 rfl (by kernel_rfl) ?_) | ((with_reducible refine gate_dst (N := 9) rfl ?_); refine box_event ?hg (N := 9) ?hd (cs := #[.int .i64 0, .int .i64 0, .slice none 0 0]) (t := 50) ?hr ?_; (case hd => rfl); (case hg => rfl); (case hr => first | (go_simp; done) | (go_simp; rfl)); intro g9 hg w4 hz hb; have HG9 := Lib.hid hg; have HZ4 := Lib.hid hz; have HB4 := Lib.hid hb; clear hg hz hb) | (refine wpList_store_row rfl rfl 50 (.tmp 9) (.tmp 45) rfl (g := g9) rfl rfl HZ4.out (by kernel_rfl) rfl (one3 _ _ _ _ _) ?_; intro w5 hz hg; have hb5 := Below.grown HB4.out hg HB4.out.size (fun b e => by injection e with e; have := HG9.out; omega); have HB5 := Lib.hid hb5; have HI5 := Lib.hid (HI.out.below HPB.out.symm hb5); have HZ9 := Lib.hid hz; have i90 := blk_cell hz 0; have i91 := blk_cell hz 1; have i92 := blk_cell hz 2; have i7 := blk_cell HI5.out.1.2.2 0; clear hz hg hb5) | (go_at_call 11; refine (P_take HOK.out HI5.out ii hin.1 hin.2 HXV.out (by have := HSU.out; omega)).mono ?_; rintro e w6 ⟨c6, rfl, hfk6, hk6, v6, hi6⟩; have hz9 := blk_kept HZ9.out hk6 (by have := HG9.out; have := HGS.out; omega) (fun k e => by have := HVL.out k e; have := HG9.out; omega); clear i90 i91 i92 i7; have i90 := blk_cell hz9 0; have i91 := blk_cell hz9 1; have i92 := blk_cell hz9 2; have i7 := blk_cell hi6.1.2.2 0; have HZ96 := Lib.hid hz9; have HI6 := Lib.hid hi6; have HKS := Lib.hid hk6.1; rw [← HX.out] at hfk6; obtain ⟨A6, k6, rfl, hle6, _⟩ := k32_open (Kd.FK_now hfk6); have HK6 := Lib.hid hle6; have HFK6 := Lib.hid (show Kd.FK k32 w6 (fun k => w5.heap.size ≤ k) x [.int .i64 x.f0, .int .i64 x.f1.f0, .int .i64 x.f1.f1, .int .u64 x.f1.f2, .int .i64 x.f1.f3, .int .u64 x.f1.f4, .int .u64 x.f1.f5, .int .u64 x.f1.f6, .int .i64 x.f1.f7, .int .i64 x.f1.f8, .string x.f1.f9, .string x.f1.f10, .string x.f1.f11, .slice A6 x.f1.f12.length k6] from hfk6); clear hfk6 hle6; clear hz9 hi6 hk6) | ((with_reducible refine gate_dst (N := 12) rfl ?_); refine box_event ?hg (N := 12) ?hd (cs := zS.cells) (t := 32) ?hr ?_; (case hd => rfl); (case hg => rfl); (case hr => first | (go_simp; done) | (go_simp; rfl)); intro g12 hg w6b hz hb; have HGg12 := Lib.hid hg; have HZg12 := Lib.hid hz; have HBg12 := Lib.hid hb; clear hg hz hb) | (refine wpList_store_row rfl rfl 32 (.tmp 12) (.tmp 67) rfl (g := g12) rfl rfl HZg12.out (by kernel_rfl) rfl (k32.K_one (Kd.FK_now HFK6.out)) ?_; intro w7 hz hg; have hbb := Below.grown HBg12.out hg HBg12.out.size (fun b e => by injection e with e; have := HGg12.out; omega); have hz9 := blk_below HZ96.out hbb; clear i90 i91 i92 i7; have i90 := blk_cell hz9 0; have i91 := blk_cell hz9 1; have i92 := blk_cell hz9 2; have HI7 := Lib.hid (HI6.out.below HPB.out.symm hbb); have i7 := blk_cell HI7.out.1.2.2 0; have HZ97 := Lib.hid hz9; clear hz9; have HFK67 := Lib.hid (Kd.FK_grown (Kd.FK_below (Kd.FK_bound HFK6.out) HBg12.out) hg (fun b hb e => by injection e with e; have := hb.2; have := HGg12.out; omega)); have HS56 := Lib.hid (show w5.heap.size ≤ w6.heap.size by have h1 := HKS.out; omega); have HZw7 := Lib.hid hz; have HBw7 := Lib.hid hbb; clear hz hg hbb) | (go_at_call 18; refine (R_take HOK.out HI7.out ii hin.1 hin.2 (by have := HSU.out; omega)).mono ?_; rintro e w8 ⟨c8, rfl, hfk8, hk8, vr8, hi8⟩; rw [← HX.out] at hfk8; obtain ⟨A8, k8, rfl, hle8, _⟩ := k32_open (Kd.FK_now hfk8); have HK8 := Lib.hid hle8; have HFK8 := Lib.hid (show Kd.FK k32 w8 (fun _ => True) x [.int .i64 x.f0, .int .i64 x.f1.f0, .int .i64 x.f1.f1, .int .u64 x.f1.f2, .int .i64 x.f1.f3, .int .u64 x.f1.f4, .int .u64 x.f1.f5, .int .u64 x.f1.f6, .int .i64 x.f1.f7, .int .i64 x.f1.f8, .string x.f1.f9, .string x.f1.f10, .string x.f1.f11, .slice A8 x.f1.f12.length k8] from hfk8); have HI8 := Lib.hid hi8; have HZ128 := Lib.hid (blk_kept HZw7.out hk8 (by have := HGg12.out; have := HGS.out; have := HB5.out.size; have := HS56.out; omega) (fun k e => by have := HRL.out k e; have := HGg12.out; have := HB5.out.size; have := HS56.out; omega)); have HFK68 := Lib.hid (Kd.FK_step HFK67.out (fun k hk hlt => hk8.2 k hlt (by rintro (e | e); have := hk.1; have := HGS.out; have := HB5.out.size; omega; have := hk.1; have := HRL.out k e.symm; have := HB5.out.size; omega))); clear i90 i91 i92 i7 hfk8 hk8 hi8 hle8) | ((with_reducible refine gate_dst (N := 14) rfl ?_); refine box_event ?hg (N := 14) ?hd (cs := zS.cells) (t := 32) ?hr ?_; (case hd => rfl); (case hg => rfl); (case hr => first | (go_simp; done) | (go_simp; rfl)); intro g14 hg w8b hz hb; have HGg14 := Lib.hid hg; have HZg14 := Lib.hid hz; have HBg14 := Lib.hid hb; clear hg hz hb) | (refine wpList_store_row rfl rfl 32 (.tmp 14) (.tmp 74) rfl (g := g14) rfl rfl HZg14.out (by kernel_rfl) rfl (k32.K_one (Kd.FK_now HFK8.out)) ?_; intro w9 hz hg; have hbb := Below.grown HBg14.out hg HBg14.out.size (fun b e => by injection e with e; have := HGg14.out; omega); have HI9 := Lib.hid (HI8.out.below HPB.out.symm hbb); have HZ129 := Lib.hid (blk_below HZ128.out hbb); have HFK69 := Lib.hid (Kd.FK_grown (Kd.FK_below (Kd.FK_bound HFK68.out) HBg14.out) hg (fun b hb e => by injection e with e; have := hb.2; have := HGg14.out; omega)); have HFK89 := Lib.hid (Kd.FK_grown (Kd.FK_below (Kd.FK_bound HFK8.out) HBg14.out) hg (fun b hb e => by injection e with e; have := hb.2; have := HGg14.out; omega)); have HZw9 := Lib.hid hz; have HBw9 := Lib.hid hbb; clear hz hg hbb) | ((with_reducible refine gate_dst (N := 76) rfl ?_); refine wpList_load_row rfl 32 (.tmp 12) rfl g12 rfl 32 _ (0, 0) _ HZ129.out Try.underlying32 rfl (by kernel_rfl) ?_) | ((with_reducible refine gate_dst (N := 77) rfl ?_); refine wpList_load_row rfl 32 (.tmp 14) rfl g14 rfl 32 _ (0, 0) _ HZw9.out Try.underlying32 rfl (by kernel_rfl) ?_) | (go_at_call 16; refine (Same16_calls A6 A8 k6 k8 x w9 HXX.out (FK_vars HFK69.out).1 HK6.out (FK_vars HFK89.out).1 HK8.out).mono ?_; rintro e w10 ⟨rfl, hb10⟩; have HI10 := Lib.hid (HI9.out.below HPB.out.symm hb10); clear hb10))
          obtain ⟨xe, hxe⟩ : ∃ xe, xe = xs.eraseIdx ii.toNat := ⟨_, rfl⟩
          have hIe : p.I w w10 v6 vr8 xe xe := by rw [hxe]; exact HI10.out
          have HVE := Lib.hid (show ∀ x ∈ xe, x.f1.f12.length ≤ 1048576 by rw [hxe]; exact fun x hx => HXV.out x (List.mem_of_mem_eraseIdx hx))
          have HLE := Lib.hid (show xe.length ≤ ((l.take (j.toNat + 1)).map wt50).sum by rw [hxe, HWT.out]; exact by rw [List.length_eraseIdx]; have := HXL.out; split <;> omega)
          clear hxe
          obtain ⟨Ar, cr, hvr⟩ := hIe.2.2.1.slice
          have HLEN := Lib.hid (Len_calls p.g p.base xe w10.drew _ v6 (hIe.2.1.below (below_drew1 (Below.refl _ _))))
          have HS := Lib.hid (show w10.drew.cell? ⟨p.g7, 0, none⟩ = some (.pointer (some ⟨p.r, 0, none⟩)) ∧ w10.drew.cell? ⟨p.r, 0, none⟩ = some (.slice Ar xe.length cr) from ⟨(blk_cell hIe.1.2.2 0).trans rfl, (blk_cell hIe.2.2.1.1 0).trans (by rw [hvr]; rfl)⟩)
          have HIE := Lib.hid (hIe.below HPB.out.symm (below_drew1 (Below.refl _ _)))
          have hnn : ((xe.length : Int) != (xe.length : Int)) = false := by simp
          clear hIe
          refine start_ (n := 12) (S := fun w' => w'.cell? ⟨p.g7, 0, none⟩ = some (.pointer (some ⟨p.r, 0, none⟩)) ∧ w'.cell? ⟨p.r, 0, none⟩ = some (.slice Ar xe.length cr)) (ds := []) #[false, false, false, false, false, false, false, false, false, false, false, false] (by kernel_rfl) rfl rfl (HS.out) (fun hHeld => ?_)
          refine pure_ (i := 0) (N := some 137) (v := ?_) (a' := ?_) #[true, false, false, false, false, false, false, false, false, false, false, false] rfl rfl (by kernel_rfl) (fun _ _ _ h => h) (Or.inl ⟨by rfl, ?_⟩) ?_ ?_
          rotate_left
          · intro w'
            go_simp
            with_reducible rfl
          rotate_left
          · simp only [Act.put, List.setIfInBounds_toArray, List.set_cons_zero, List.set_cons_succ, i64_w, i32_w]
            rfl
          refine pure_ (i := 1) (N := some 138) (v := ?_) (a' := ?_) #[true, true, false, false, false, false, false, false, false, false, false, false] rfl rfl (by kernel_rfl) (fun _ _ _ h => h) (Or.inl ⟨by rfl, ?_⟩) ?_ ?_
          rotate_left
          · intro w'
            go_simp
            with_reducible rfl
          rotate_left
          · simp only [Act.put, List.setIfInBounds_toArray, List.set_cons_zero, List.set_cons_succ, i64_w, i32_w]
            rfl
          refine pure_ (i := 2) (N := some 139) (v := ?_) (a' := ?_) #[true, true, true, false, false, false, false, false, false, false, false, false] rfl rfl (by kernel_rfl) (fun _ _ _ h => h) (Or.inl ⟨by rfl, ?_⟩) ?_ ?_
          rotate_left
          · intro w'
            go_simp
            with_reducible rfl
          rotate_left
          · simp only [Act.put, List.setIfInBounds_toArray, List.set_cons_zero, List.set_cons_succ, i64_w, i32_w]
            rfl
          refine pure_ (i := 3) (N := some 140) (v := ?_) (a' := ?_) #[true, true, true, true, false, false, false, false, false, false, false, false] rfl rfl (by kernel_rfl) (fun _ _ _ h => h) (Or.inl ⟨by rfl, ?_⟩) ?_ ?_
          rotate_left
          · intro w'
            go_simp
            with_reducible rfl
          rotate_left
          · simp only [Act.put, List.setIfInBounds_toArray, List.set_cons_zero, List.set_cons_succ, i64_w, i32_w]
            rfl
          refine take_ (i := 5) (N := some 142) (v := ?_) (a' := ?_) #[true, true, true, true, false, true, false, false, false, false, false, false] rfl rfl (by kernel_rfl) (fun _ _ _ h => h) (Or.inl ⟨by rfl, ?_⟩) hHeld ?_ ?_
          rotate_left
          · rintro w' ⟨s0, s1⟩
            go_simp
            with_reducible rfl
          rotate_left
          · simp only [Act.put, List.setIfInBounds_toArray, List.set_cons_zero, List.set_cons_succ, i64_w, i32_w]
            rfl
          refine pure_ (i := 6) (N := some 143) (v := ?_) (a' := ?_) #[true, true, true, true, false, true, true, false, false, false, false, false] rfl rfl (by kernel_rfl) (fun _ _ _ h => h) (Or.inl ⟨by rfl, ?_⟩) ?_ ?_
          rotate_left
          · intro w'
            go_simp
            with_reducible rfl
          rotate_left
          · simp only [Act.put, List.setIfInBounds_toArray, List.set_cons_zero, List.set_cons_succ, i64_w, i32_w]
            rfl
          refine pure_ (i := 7) (N := some 144) (v := ?_) (a' := ?_) #[true, true, true, true, false, true, true, true, false, false, false, false] rfl rfl (by kernel_rfl) (fun _ _ _ h => h) (Or.inl ⟨by rfl, ?_⟩) ?_ ?_
          rotate_left
          · intro w'
            go_simp
            with_reducible rfl
          rotate_left
          · simp only [Act.put, List.setIfInBounds_toArray, List.set_cons_zero, List.set_cons_succ, i64_w, i32_w]
            rfl
          refine take_ (i := 8) (N := some 145) (v := ?_) (a' := ?_) #[true, true, true, true, false, true, true, true, true, false, false, false] rfl rfl (by kernel_rfl) (fun _ _ _ h => h) (Or.inl ⟨by rfl, ?_⟩) hHeld ?_ ?_
          rotate_left
          · rintro w' ⟨s0, s1⟩
            go_simp
            with_reducible rfl
          rotate_left
          · simp only [Act.put, List.setIfInBounds_toArray, List.set_cons_zero, List.set_cons_succ, i64_w, i32_w]
            rfl
          refine pure_ (i := 9) (N := some 146) (v := ?_) (a' := ?_) #[true, true, true, true, false, true, true, true, true, true, false, false] rfl rfl (by kernel_rfl) (fun _ _ _ h => h) (Or.inl ⟨by rfl, ?_⟩) ?_ ?_
          rotate_left
          · intro w'
            go_simp
            with_reducible rfl
          rotate_left
          · simp only [Act.put, List.setIfInBounds_toArray, List.set_cons_zero, List.set_cons_succ, i64_w, i32_w]
            rfl
          refine one_ (i := 4) (N := some 141) #[true, true, true, true, true, true, true, true, true, true, false, false] rfl rfl (by kernel_rfl) (by decide) (fun K hK => ?_)
          refine goes_ Try.func12 (by kernel_rfl) rfl #[.pointer (some ⟨p.g, 0, none⟩)] (by rfl) rfl rfl (by simp only [List.map_toArray, List.map_cons, List.map_nil]; rfl) ?_
          refine HLEN.out.mono ?_
          rintro e wl ⟨rfl, rfl⟩
          refine ⟨_, rfl, ?_⟩
          refine hK.out _ _ (HS.out) (fun hHeld => ?_)
          clear hK K
          refine norm_ (a' := ?_) ?_ ?_
          rotate_left
          · show Act.put _ (some 141) _ = _
            simp only [Act.put, List.setIfInBounds_toArray, List.set_cons_zero, List.set_cons_succ, i64_w, i32_w]
            rfl
          refine pure_ (i := 10) (N := some 147) (v := ?_) (a' := ?_) #[true, true, true, true, true, true, true, true, true, true, true, false] rfl rfl (by kernel_rfl) (fun _ _ _ h => h) (Or.inl ⟨by rfl, ?_⟩) ?_ ?_
          rotate_left
          · intro w'
            go_simp
            with_reducible rfl
          rotate_left
          · simp only [Act.put, List.setIfInBounds_toArray, List.set_cons_zero, List.set_cons_succ, i64_w, i32_w]
            rfl
          refine pure_ (i := 11) (N := some 148) (v := ?_) (a' := ?_) #[true, true, true, true, true, true, true, true, true, true, true, true] rfl rfl (by kernel_rfl) (fun _ _ _ h => h) (Or.inl ⟨by rfl, ?_⟩) ?_ ?_
          rotate_left
          · intro w'
            go_simp
            with_reducible rfl
          rotate_left
          · simp only [Act.put, List.setIfInBounds_toArray, List.set_cons_zero, List.set_cons_succ, i64_w, i32_w]
            rfl
          refine done_ (by kernel_rfl) ?_
          clear hHeld
          go_wp2_with fail
          go_roundw
          case rel => exact ⟨j + 1, _, _, xe, rfl, by omega, by omega, HIE.out, HVE.out, by rw [show (j + 1).toNat = j.toNat + 1 by omega]; exact HLE.out⟩
          case measure => simp [intOf]; omega
        · skip
          go_wp2_with (first | ((with_reducible refine gate_dst (N := 45) rfl ?_); refine wpList_load_at rfl 50 (.tmp 44) rfl (ad.add (j.toNat * 3)) rfl _ _ HC45.out Try.underlying50 rfl (by kernel_rfl) ?_) | ((with_reducible refine gate_dst (N := 9) rfl ?_); refine box_event ?hg (N := 9) ?hd (cs := #[.int .i64 0, .int .i64 0, .slice none 0 0]) (t := 50) ?hr ?_; (case hd => rfl); (case hg => rfl); (case hr => first | (go_simp; done) | (go_simp; rfl)); intro g9 hg w4 hz hb; have HG9 := Lib.hid hg; have HZ4 := Lib.hid hz; have HB4 := Lib.hid hb; clear hg hz hb) | (refine wpList_store_row rfl rfl 50 (.tmp 9) (.tmp 45) rfl (g := g9) rfl rfl HZ4.out (by kernel_rfl) rfl (one3 _ _ _ _ _) ?_; intro w5 hz hg; have hb5 := Below.grown HB4.out hg HB4.out.size (fun b e => by injection e with e; have := HG9.out; omega); have HB5 := Lib.hid hb5; have HI5 := Lib.hid (HI.out.below HPB.out.symm hb5); have HZ9 := Lib.hid hz; have i90 := blk_cell hz 0; have i91 := blk_cell hz 1; have i92 := blk_cell hz 2; have i7 := blk_cell HI5.out.1.2.2 0; clear hz hg hb5) | (go_at_call 11; refine (Take_out p.g p.base ii xs w5 _ v HI5.out.2.1 (by omega)).mono ?_; rintro e w6 ⟨rfl, hb6⟩; have hi6 := HI5.out.below HPB.out.symm hb6; have hz9 := blk_below HZ9.out hb6; clear i90 i91 i92 i7; have i90 := blk_cell hz9 0; have i91 := blk_cell hz9 1; have i92 := blk_cell hz9 2; have i7 := blk_cell hi6.1.2.2 0; have HZ96 := Lib.hid hz9; have HI6 := Lib.hid hi6; clear hz9 hi6 hb6) | ((with_reducible refine gate_dst (N := 12) rfl ?_); refine box_event ?hg (N := 12) ?hd (cs := zS.cells) (t := 32) ?hr ?_; (case hd => rfl); (case hg => rfl); (case hr => first | (go_simp; done) | (go_simp; rfl)); intro g12 hg w6b hz hb; have HGg12 := Lib.hid hg; have HZg12 := Lib.hid hz; have HBg12 := Lib.hid hb; clear hg hz hb) | (refine wpList_store_row rfl rfl 32 (.tmp 12) (.tmp 67) rfl (g := g12) rfl rfl HZg12.out (by kernel_rfl) rfl (one14 (x := z32) rfl) ?_; intro w7 hz hg; have hbb := Below.grown HBg12.out hg HBg12.out.size (fun b e => by injection e with e; have := HGg12.out; omega); have hz9 := blk_below HZ96.out hbb; clear i90 i91 i92 i7; have i90 := blk_cell hz9 0; have i91 := blk_cell hz9 1; have i92 := blk_cell hz9 2; have HI7 := Lib.hid (HI6.out.below HPB.out.symm hbb); have i7 := blk_cell HI7.out.1.2.2 0; have HZ97 := Lib.hid hz9; clear hz9; have HZw7 := Lib.hid hz; have HBw7 := Lib.hid hbb; clear hz hg hbb) | (go_at_call 18; refine (RTake_out p.r p.base ii xs vr w7 _ HI7.out.2.2.1 (by omega)).mono ?_; rintro e w8 ⟨rfl, hb8⟩; have HI8 := Lib.hid (HI7.out.below HPB.out.symm hb8); have HZ128 := Lib.hid (blk_below HZw7.out hb8); clear i90 i91 i92 i7 hb8) | ((with_reducible refine gate_dst (N := 14) rfl ?_); refine box_event ?hg (N := 14) ?hd (cs := zS.cells) (t := 32) ?hr ?_; (case hd => rfl); (case hg => rfl); (case hr => first | (go_simp; done) | (go_simp; rfl)); intro g14 hg w8b hz hb; have HGg14 := Lib.hid hg; have HZg14 := Lib.hid hz; have HBg14 := Lib.hid hb; clear hg hz hb) | (refine wpList_store_row rfl rfl 32 (.tmp 14) (.tmp 74) rfl (g := g14) rfl rfl HZg14.out (by kernel_rfl) rfl (one14 (x := z32) rfl) ?_; intro w9 hz hg; have hbb := Below.grown HBg14.out hg HBg14.out.size (fun b e => by injection e with e; have := HGg14.out; omega); have HI9 := Lib.hid (HI8.out.below HPB.out.symm hbb); have HZ129 := Lib.hid (blk_below HZ128.out hbb); have HZw9 := Lib.hid hz; have HBw9 := Lib.hid hbb; clear hz hg hbb) | ((with_reducible refine gate_dst (N := 76) rfl ?_); refine wpList_load_row rfl 32 (.tmp 12) rfl g12 rfl 32 _ (0, 0) _ HZ129.out Try.underlying32 rfl (by kernel_rfl) ?_) | ((with_reducible refine gate_dst (N := 77) rfl ?_); refine wpList_load_row rfl 32 (.tmp 14) rfl g14 rfl 32 _ (0, 0) _ HZw9.out Try.underlying32 rfl (by kernel_rfl) ?_) | (go_at_call 16; refine (Same16_calls none none 0 0 z32 w9 (by decide) (Kd.C_nil k41 w9) (Nat.le_refl _) (Kd.C_nil k41 w9) (Nat.le_refl _)).mono ?_; rintro e w10 ⟨rfl, hb10⟩; have HI10 := Lib.hid (HI9.out.below HPB.out.symm hb10); clear hb10))
          obtain ⟨xe, hxe⟩ : ∃ xe, xe = xs := ⟨_, rfl⟩
          have hIe : p.I w w10 v vr xe xe := by rw [hxe]; exact HI10.out
          have HVE := Lib.hid (show ∀ x ∈ xe, x.f1.f12.length ≤ 1048576 by rw [hxe]; exact HXV.out)
          have HLE := Lib.hid (show xe.length ≤ ((l.take (j.toNat + 1)).map wt50).sum by rw [hxe, HWT.out]; exact by have := HXL.out; omega)
          clear hxe
          obtain ⟨Ar, cr, hvr⟩ := hIe.2.2.1.slice
          have HLEN := Lib.hid (Len_calls p.g p.base xe w10.drew _ v (hIe.2.1.below (below_drew1 (Below.refl _ _))))
          have HS := Lib.hid (show w10.drew.cell? ⟨p.g7, 0, none⟩ = some (.pointer (some ⟨p.r, 0, none⟩)) ∧ w10.drew.cell? ⟨p.r, 0, none⟩ = some (.slice Ar xe.length cr) from ⟨(blk_cell hIe.1.2.2 0).trans rfl, (blk_cell hIe.2.2.1.1 0).trans (by rw [hvr]; rfl)⟩)
          have HIE := Lib.hid (hIe.below HPB.out.symm (below_drew1 (Below.refl _ _)))
          have hnn : ((xe.length : Int) != (xe.length : Int)) = false := by simp
          clear hIe
          refine start_ (n := 12) (S := fun w' => w'.cell? ⟨p.g7, 0, none⟩ = some (.pointer (some ⟨p.r, 0, none⟩)) ∧ w'.cell? ⟨p.r, 0, none⟩ = some (.slice Ar xe.length cr)) (ds := []) #[false, false, false, false, false, false, false, false, false, false, false, false] (by kernel_rfl) rfl rfl (HS.out) (fun hHeld => ?_)
          refine pure_ (i := 0) (N := some 137) (v := ?_) (a' := ?_) #[true, false, false, false, false, false, false, false, false, false, false, false] rfl rfl (by kernel_rfl) (fun _ _ _ h => h) (Or.inl ⟨by rfl, ?_⟩) ?_ ?_
          rotate_left
          · intro w'
            go_simp
            with_reducible rfl
          rotate_left
          · simp only [Act.put, List.setIfInBounds_toArray, List.set_cons_zero, List.set_cons_succ, i64_w, i32_w]
            rfl
          refine pure_ (i := 1) (N := some 138) (v := ?_) (a' := ?_) #[true, true, false, false, false, false, false, false, false, false, false, false] rfl rfl (by kernel_rfl) (fun _ _ _ h => h) (Or.inl ⟨by rfl, ?_⟩) ?_ ?_
          rotate_left
          · intro w'
            go_simp
            with_reducible rfl
          rotate_left
          · simp only [Act.put, List.setIfInBounds_toArray, List.set_cons_zero, List.set_cons_succ, i64_w, i32_w]
            rfl
          refine pure_ (i := 2) (N := some 139) (v := ?_) (a' := ?_) #[true, true, true, false, false, false, false, false, false, false, false, false] rfl rfl (by kernel_rfl) (fun _ _ _ h => h) (Or.inl ⟨by rfl, ?_⟩) ?_ ?_
          rotate_left
          · intro w'
            go_simp
            with_reducible rfl
          rotate_left
          · simp only [Act.put, List.setIfInBounds_toArray, List.set_cons_zero, List.set_cons_succ, i64_w, i32_w]
            rfl
          refine pure_ (i := 3) (N := some 140) (v := ?_) (a' := ?_) #[true, true, true, true, false, false, false, false, false, false, false, false] rfl rfl (by kernel_rfl) (fun _ _ _ h => h) (Or.inl ⟨by rfl, ?_⟩) ?_ ?_
          rotate_left
          · intro w'
            go_simp
            with_reducible rfl
          rotate_left
          · simp only [Act.put, List.setIfInBounds_toArray, List.set_cons_zero, List.set_cons_succ, i64_w, i32_w]
            rfl
          refine take_ (i := 5) (N := some 142) (v := ?_) (a' := ?_) #[true, true, true, true, false, true, false, false, false, false, false, false] rfl rfl (by kernel_rfl) (fun _ _ _ h => h) (Or.inl ⟨by rfl, ?_⟩) hHeld ?_ ?_
          rotate_left
          · rintro w' ⟨s0, s1⟩
            go_simp
            with_reducible rfl
          rotate_left
          · simp only [Act.put, List.setIfInBounds_toArray, List.set_cons_zero, List.set_cons_succ, i64_w, i32_w]
            rfl
          refine pure_ (i := 6) (N := some 143) (v := ?_) (a' := ?_) #[true, true, true, true, false, true, true, false, false, false, false, false] rfl rfl (by kernel_rfl) (fun _ _ _ h => h) (Or.inl ⟨by rfl, ?_⟩) ?_ ?_
          rotate_left
          · intro w'
            go_simp
            with_reducible rfl
          rotate_left
          · simp only [Act.put, List.setIfInBounds_toArray, List.set_cons_zero, List.set_cons_succ, i64_w, i32_w]
            rfl
          refine pure_ (i := 7) (N := some 144) (v := ?_) (a' := ?_) #[true, true, true, true, false, true, true, true, false, false, false, false] rfl rfl (by kernel_rfl) (fun _ _ _ h => h) (Or.inl ⟨by rfl, ?_⟩) ?_ ?_
          rotate_left
          · intro w'
            go_simp
            with_reducible rfl
          rotate_left
          · simp only [Act.put, List.setIfInBounds_toArray, List.set_cons_zero, List.set_cons_succ, i64_w, i32_w]
            rfl
          refine take_ (i := 8) (N := some 145) (v := ?_) (a' := ?_) #[true, true, true, true, false, true, true, true, true, false, false, false] rfl rfl (by kernel_rfl) (fun _ _ _ h => h) (Or.inl ⟨by rfl, ?_⟩) hHeld ?_ ?_
          rotate_left
          · rintro w' ⟨s0, s1⟩
            go_simp
            with_reducible rfl
          rotate_left
          · simp only [Act.put, List.setIfInBounds_toArray, List.set_cons_zero, List.set_cons_succ, i64_w, i32_w]
            rfl
          refine pure_ (i := 9) (N := some 146) (v := ?_) (a' := ?_) #[true, true, true, true, false, true, true, true, true, true, false, false] rfl rfl (by kernel_rfl) (fun _ _ _ h => h) (Or.inl ⟨by rfl, ?_⟩) ?_ ?_
          rotate_left
          · intro w'
            go_simp
            with_reducible rfl
          rotate_left
          · simp only [Act.put, List.setIfInBounds_toArray, List.set_cons_zero, List.set_cons_succ, i64_w, i32_w]
            rfl
          refine one_ (i := 4) (N := some 141) #[true, true, true, true, true, true, true, true, true, true, false, false] rfl rfl (by kernel_rfl) (by decide) (fun K hK => ?_)
          refine goes_ Try.func12 (by kernel_rfl) rfl #[.pointer (some ⟨p.g, 0, none⟩)] (by rfl) rfl rfl (by simp only [List.map_toArray, List.map_cons, List.map_nil]; rfl) ?_
          refine HLEN.out.mono ?_
          rintro e wl ⟨rfl, rfl⟩
          refine ⟨_, rfl, ?_⟩
          refine hK.out _ _ (HS.out) (fun hHeld => ?_)
          clear hK K
          refine norm_ (a' := ?_) ?_ ?_
          rotate_left
          · show Act.put _ (some 141) _ = _
            simp only [Act.put, List.setIfInBounds_toArray, List.set_cons_zero, List.set_cons_succ, i64_w, i32_w]
            rfl
          refine pure_ (i := 10) (N := some 147) (v := ?_) (a' := ?_) #[true, true, true, true, true, true, true, true, true, true, true, false] rfl rfl (by kernel_rfl) (fun _ _ _ h => h) (Or.inl ⟨by rfl, ?_⟩) ?_ ?_
          rotate_left
          · intro w'
            go_simp
            with_reducible rfl
          rotate_left
          · simp only [Act.put, List.setIfInBounds_toArray, List.set_cons_zero, List.set_cons_succ, i64_w, i32_w]
            rfl
          refine pure_ (i := 11) (N := some 148) (v := ?_) (a' := ?_) #[true, true, true, true, true, true, true, true, true, true, true, true] rfl rfl (by kernel_rfl) (fun _ _ _ h => h) (Or.inl ⟨by rfl, ?_⟩) ?_ ?_
          rotate_left
          · intro w'
            go_simp
            with_reducible rfl
          rotate_left
          · simp only [Act.put, List.setIfInBounds_toArray, List.set_cons_zero, List.set_cons_succ, i64_w, i32_w]
            rfl
          refine done_ (by kernel_rfl) ?_
          clear hHeld
          go_wp2_with fail
          go_roundw
          case rel => exact ⟨j + 1, _, _, xe, rfl, by omega, by omega, HIE.out, HVE.out, by rw [show (j + 1).toNat = j.toNat + 1 by omega]; exact HLE.out⟩
          case measure => simp [intOf]; omega
      by_cases k3 : kd = 3
      · subst k3
        by_cases hin : 0 ≤ ii ∧ ii < xs.length
        · skip
          go_wp2_with (first | ((with_reducible refine gate_dst (N := 45) rfl ?_); refine wpList_load_at rfl 50 (.tmp 44) rfl (ad.add (j.toNat * 3)) rfl _ _ HC45.out Try.underlying50 rfl (by kernel_rfl) ?_) | ((with_reducible refine gate_dst (N := 9) rfl ?_); refine box_event ?hg (N := 9) ?hd (cs := #[.int .i64 0, .int .i64 0, .slice none 0 0]) (t := 50) ?hr ?_; (case hd => rfl); (case hg => rfl); (case hr => first | (go_simp; done) | (go_simp; rfl)); intro g9 hg w4 hz hb; have HG9 := Lib.hid hg; have HZ4 := Lib.hid hz; have HB4 := Lib.hid hb; clear hg hz hb) | (refine wpList_store_row rfl rfl 50 (.tmp 9) (.tmp 45) rfl (g := g9) rfl rfl HZ4.out (by kernel_rfl) rfl (one3 _ _ _ _ _) ?_; intro w5 hz hg; have hb5 := Below.grown HB4.out hg HB4.out.size (fun b e => by injection e with e; have := HG9.out; omega); have HB5 := Lib.hid hb5; have HI5 := Lib.hid (HI.out.below HPB.out.symm hb5); have HZ9 := Lib.hid hz; have i90 := blk_cell hz 0; have i91 := blk_cell hz 1; have i92 := blk_cell hz 2; have i7 := blk_cell HI5.out.1.2.2 0; clear hz hg hb5) | (go_at_call 15; refine (P_copy HOK.out HI5.out ii hin.1 hin.2 HXV.out (by have := HSU.out; omega)).mono ?_; rintro e w6 ⟨rfl, hk6, v6, hi6⟩; have hz9 := blk_kept HZ9.out hk6 (by have := HG9.out; have := HGS.out; omega) (fun k e => by have := HVL.out k e; have := HG9.out; omega); clear i90 i91 i92 i7; have i90 := blk_cell hz9 0; have i91 := blk_cell hz9 1; have i92 := blk_cell hz9 2; have i7 := blk_cell hi6.1.2.2 0; have HZ96 := Lib.hid hz9; have HI6 := Lib.hid hi6; clear hz9 hi6 hk6) | (go_at_call 19; refine (R_copy HOK.out HI6.out ii hin.1 hin.2 (by have := HSU.out; omega)).mono ?_; rintro e w7 ⟨rfl, hk7, vr7, hi7⟩; have HI7 := Lib.hid hi7; clear hk7 hi7))
          obtain ⟨xe, hxe⟩ : ∃ xe, xe = xs ++ [xs.getD ii.toNat z32] := ⟨_, rfl⟩
          have hIe : p.I w w7 v6 vr7 xe xe := by rw [hxe]; exact HI7.out
          have HVE := Lib.hid (show ∀ x ∈ xe, x.f1.f12.length ≤ 1048576 by rw [hxe]; exact fun x hx => by rcases List.mem_append.1 hx with h | h; exact HXV.out x h; rw [List.mem_singleton] at h; rw [h]; exact HXV.out _ (getD_mem32 (by omega)))
          have HLE := Lib.hid (show xe.length ≤ ((l.take (j.toNat + 1)).map wt50).sum by rw [hxe, HWT.out]; exact by rw [List.length_append]; have := HXL.out; have := HLL.out; simp only [List.length_cons, List.length_nil]; omega)
          clear hxe
          obtain ⟨Ar, cr, hvr⟩ := hIe.2.2.1.slice
          have HLEN := Lib.hid (Len_calls p.g p.base xe w7.drew _ v6 (hIe.2.1.below (below_drew1 (Below.refl _ _))))
          have HS := Lib.hid (show w7.drew.cell? ⟨p.g7, 0, none⟩ = some (.pointer (some ⟨p.r, 0, none⟩)) ∧ w7.drew.cell? ⟨p.r, 0, none⟩ = some (.slice Ar xe.length cr) from ⟨(blk_cell hIe.1.2.2 0).trans rfl, (blk_cell hIe.2.2.1.1 0).trans (by rw [hvr]; rfl)⟩)
          have HIE := Lib.hid (hIe.below HPB.out.symm (below_drew1 (Below.refl _ _)))
          have hnn : ((xe.length : Int) != (xe.length : Int)) = false := by simp
          clear hIe
          refine start_ (n := 12) (S := fun w' => w'.cell? ⟨p.g7, 0, none⟩ = some (.pointer (some ⟨p.r, 0, none⟩)) ∧ w'.cell? ⟨p.r, 0, none⟩ = some (.slice Ar xe.length cr)) (ds := []) #[false, false, false, false, false, false, false, false, false, false, false, false] (by kernel_rfl) rfl rfl (HS.out) (fun hHeld => ?_)
          refine pure_ (i := 0) (N := some 137) (v := ?_) (a' := ?_) #[true, false, false, false, false, false, false, false, false, false, false, false] rfl rfl (by kernel_rfl) (fun _ _ _ h => h) (Or.inl ⟨by rfl, ?_⟩) ?_ ?_
          rotate_left
          · intro w'
            go_simp
            with_reducible rfl
          rotate_left
          · simp only [Act.put, List.setIfInBounds_toArray, List.set_cons_zero, List.set_cons_succ, i64_w, i32_w]
            rfl
          refine pure_ (i := 1) (N := some 138) (v := ?_) (a' := ?_) #[true, true, false, false, false, false, false, false, false, false, false, false] rfl rfl (by kernel_rfl) (fun _ _ _ h => h) (Or.inl ⟨by rfl, ?_⟩) ?_ ?_
          rotate_left
          · intro w'
            go_simp
            with_reducible rfl
          rotate_left
          · simp only [Act.put, List.setIfInBounds_toArray, List.set_cons_zero, List.set_cons_succ, i64_w, i32_w]
            rfl
          refine pure_ (i := 2) (N := some 139) (v := ?_) (a' := ?_) #[true, true, true, false, false, false, false, false, false, false, false, false] rfl rfl (by kernel_rfl) (fun _ _ _ h => h) (Or.inl ⟨by rfl, ?_⟩) ?_ ?_
          rotate_left
          · intro w'
            go_simp
            with_reducible rfl
          rotate_left
          · simp only [Act.put, List.setIfInBounds_toArray, List.set_cons_zero, List.set_cons_succ, i64_w, i32_w]
            rfl
          refine pure_ (i := 3) (N := some 140) (v := ?_) (a' := ?_) #[true, true, true, true, false, false, false, false, false, false, false, false] rfl rfl (by kernel_rfl) (fun _ _ _ h => h) (Or.inl ⟨by rfl, ?_⟩) ?_ ?_
          rotate_left
          · intro w'
            go_simp
            with_reducible rfl
          rotate_left
          · simp only [Act.put, List.setIfInBounds_toArray, List.set_cons_zero, List.set_cons_succ, i64_w, i32_w]
            rfl
          refine take_ (i := 5) (N := some 142) (v := ?_) (a' := ?_) #[true, true, true, true, false, true, false, false, false, false, false, false] rfl rfl (by kernel_rfl) (fun _ _ _ h => h) (Or.inl ⟨by rfl, ?_⟩) hHeld ?_ ?_
          rotate_left
          · rintro w' ⟨s0, s1⟩
            go_simp
            with_reducible rfl
          rotate_left
          · simp only [Act.put, List.setIfInBounds_toArray, List.set_cons_zero, List.set_cons_succ, i64_w, i32_w]
            rfl
          refine pure_ (i := 6) (N := some 143) (v := ?_) (a' := ?_) #[true, true, true, true, false, true, true, false, false, false, false, false] rfl rfl (by kernel_rfl) (fun _ _ _ h => h) (Or.inl ⟨by rfl, ?_⟩) ?_ ?_
          rotate_left
          · intro w'
            go_simp
            with_reducible rfl
          rotate_left
          · simp only [Act.put, List.setIfInBounds_toArray, List.set_cons_zero, List.set_cons_succ, i64_w, i32_w]
            rfl
          refine pure_ (i := 7) (N := some 144) (v := ?_) (a' := ?_) #[true, true, true, true, false, true, true, true, false, false, false, false] rfl rfl (by kernel_rfl) (fun _ _ _ h => h) (Or.inl ⟨by rfl, ?_⟩) ?_ ?_
          rotate_left
          · intro w'
            go_simp
            with_reducible rfl
          rotate_left
          · simp only [Act.put, List.setIfInBounds_toArray, List.set_cons_zero, List.set_cons_succ, i64_w, i32_w]
            rfl
          refine take_ (i := 8) (N := some 145) (v := ?_) (a' := ?_) #[true, true, true, true, false, true, true, true, true, false, false, false] rfl rfl (by kernel_rfl) (fun _ _ _ h => h) (Or.inl ⟨by rfl, ?_⟩) hHeld ?_ ?_
          rotate_left
          · rintro w' ⟨s0, s1⟩
            go_simp
            with_reducible rfl
          rotate_left
          · simp only [Act.put, List.setIfInBounds_toArray, List.set_cons_zero, List.set_cons_succ, i64_w, i32_w]
            rfl
          refine pure_ (i := 9) (N := some 146) (v := ?_) (a' := ?_) #[true, true, true, true, false, true, true, true, true, true, false, false] rfl rfl (by kernel_rfl) (fun _ _ _ h => h) (Or.inl ⟨by rfl, ?_⟩) ?_ ?_
          rotate_left
          · intro w'
            go_simp
            with_reducible rfl
          rotate_left
          · simp only [Act.put, List.setIfInBounds_toArray, List.set_cons_zero, List.set_cons_succ, i64_w, i32_w]
            rfl
          refine one_ (i := 4) (N := some 141) #[true, true, true, true, true, true, true, true, true, true, false, false] rfl rfl (by kernel_rfl) (by decide) (fun K hK => ?_)
          refine goes_ Try.func12 (by kernel_rfl) rfl #[.pointer (some ⟨p.g, 0, none⟩)] (by rfl) rfl rfl (by simp only [List.map_toArray, List.map_cons, List.map_nil]; rfl) ?_
          refine HLEN.out.mono ?_
          rintro e wl ⟨rfl, rfl⟩
          refine ⟨_, rfl, ?_⟩
          refine hK.out _ _ (HS.out) (fun hHeld => ?_)
          clear hK K
          refine norm_ (a' := ?_) ?_ ?_
          rotate_left
          · show Act.put _ (some 141) _ = _
            simp only [Act.put, List.setIfInBounds_toArray, List.set_cons_zero, List.set_cons_succ, i64_w, i32_w]
            rfl
          refine pure_ (i := 10) (N := some 147) (v := ?_) (a' := ?_) #[true, true, true, true, true, true, true, true, true, true, true, false] rfl rfl (by kernel_rfl) (fun _ _ _ h => h) (Or.inl ⟨by rfl, ?_⟩) ?_ ?_
          rotate_left
          · intro w'
            go_simp
            with_reducible rfl
          rotate_left
          · simp only [Act.put, List.setIfInBounds_toArray, List.set_cons_zero, List.set_cons_succ, i64_w, i32_w]
            rfl
          refine pure_ (i := 11) (N := some 148) (v := ?_) (a' := ?_) #[true, true, true, true, true, true, true, true, true, true, true, true] rfl rfl (by kernel_rfl) (fun _ _ _ h => h) (Or.inl ⟨by rfl, ?_⟩) ?_ ?_
          rotate_left
          · intro w'
            go_simp
            with_reducible rfl
          rotate_left
          · simp only [Act.put, List.setIfInBounds_toArray, List.set_cons_zero, List.set_cons_succ, i64_w, i32_w]
            rfl
          refine done_ (by kernel_rfl) ?_
          clear hHeld
          go_wp2_with fail
          go_roundw
          case rel => exact ⟨j + 1, _, _, xe, rfl, by omega, by omega, HIE.out, HVE.out, by rw [show (j + 1).toNat = j.toNat + 1 by omega]; exact HLE.out⟩
          case measure => simp [intOf]; omega
        · skip
          go_wp2_with (first | ((with_reducible refine gate_dst (N := 45) rfl ?_); refine wpList_load_at rfl 50 (.tmp 44) rfl (ad.add (j.toNat * 3)) rfl _ _ HC45.out Try.underlying50 rfl (by kernel_rfl) ?_) | ((with_reducible refine gate_dst (N := 9) rfl ?_); refine box_event ?hg (N := 9) ?hd (cs := #[.int .i64 0, .int .i64 0, .slice none 0 0]) (t := 50) ?hr ?_; (case hd => rfl); (case hg => rfl); (case hr => first | (go_simp; done) | (go_simp; rfl)); intro g9 hg w4 hz hb; have HG9 := Lib.hid hg; have HZ4 := Lib.hid hz; have HB4 := Lib.hid hb; clear hg hz hb) | (refine wpList_store_row rfl rfl 50 (.tmp 9) (.tmp 45) rfl (g := g9) rfl rfl HZ4.out (by kernel_rfl) rfl (one3 _ _ _ _ _) ?_; intro w5 hz hg; have hb5 := Below.grown HB4.out hg HB4.out.size (fun b e => by injection e with e; have := HG9.out; omega); have HB5 := Lib.hid hb5; have HI5 := Lib.hid (HI.out.below HPB.out.symm hb5); have HZ9 := Lib.hid hz; have i90 := blk_cell hz 0; have i91 := blk_cell hz 1; have i92 := blk_cell hz 2; have i7 := blk_cell HI5.out.1.2.2 0; clear hz hg hb5) | (go_at_call 15; refine (Copy_out p.g p.base ii xs w5 _ v HI5.out.2.1 (by omega)).mono ?_; rintro e w6 ⟨rfl, hb6⟩; have hi6 := HI5.out.below HPB.out.symm hb6; have hz9 := blk_below HZ9.out hb6; clear i90 i91 i92 i7; have i90 := blk_cell hz9 0; have i91 := blk_cell hz9 1; have i92 := blk_cell hz9 2; have i7 := blk_cell hi6.1.2.2 0; have HZ96 := Lib.hid hz9; have HI6 := Lib.hid hi6; clear hz9 hi6 hb6) | (go_at_call 19; refine (RCopy_out p.r p.base ii xs vr w6 _ HI6.out.2.2.1 (by omega)).mono ?_; rintro e w7 ⟨rfl, rfl⟩))
          obtain ⟨xe, hxe⟩ : ∃ xe, xe = xs := ⟨_, rfl⟩
          have hIe : p.I w w6 v vr xe xe := by rw [hxe]; exact HI6.out
          have HVE := Lib.hid (show ∀ x ∈ xe, x.f1.f12.length ≤ 1048576 by rw [hxe]; exact HXV.out)
          have HLE := Lib.hid (show xe.length ≤ ((l.take (j.toNat + 1)).map wt50).sum by rw [hxe, HWT.out]; exact by have := HXL.out; omega)
          clear hxe
          obtain ⟨Ar, cr, hvr⟩ := hIe.2.2.1.slice
          have HLEN := Lib.hid (Len_calls p.g p.base xe w6.drew _ v (hIe.2.1.below (below_drew1 (Below.refl _ _))))
          have HS := Lib.hid (show w6.drew.cell? ⟨p.g7, 0, none⟩ = some (.pointer (some ⟨p.r, 0, none⟩)) ∧ w6.drew.cell? ⟨p.r, 0, none⟩ = some (.slice Ar xe.length cr) from ⟨(blk_cell hIe.1.2.2 0).trans rfl, (blk_cell hIe.2.2.1.1 0).trans (by rw [hvr]; rfl)⟩)
          have HIE := Lib.hid (hIe.below HPB.out.symm (below_drew1 (Below.refl _ _)))
          have hnn : ((xe.length : Int) != (xe.length : Int)) = false := by simp
          clear hIe
          refine start_ (n := 12) (S := fun w' => w'.cell? ⟨p.g7, 0, none⟩ = some (.pointer (some ⟨p.r, 0, none⟩)) ∧ w'.cell? ⟨p.r, 0, none⟩ = some (.slice Ar xe.length cr)) (ds := []) #[false, false, false, false, false, false, false, false, false, false, false, false] (by kernel_rfl) rfl rfl (HS.out) (fun hHeld => ?_)
          refine pure_ (i := 0) (N := some 137) (v := ?_) (a' := ?_) #[true, false, false, false, false, false, false, false, false, false, false, false] rfl rfl (by kernel_rfl) (fun _ _ _ h => h) (Or.inl ⟨by rfl, ?_⟩) ?_ ?_
          rotate_left
          · intro w'
            go_simp
            with_reducible rfl
          rotate_left
          · simp only [Act.put, List.setIfInBounds_toArray, List.set_cons_zero, List.set_cons_succ, i64_w, i32_w]
            rfl
          refine pure_ (i := 1) (N := some 138) (v := ?_) (a' := ?_) #[true, true, false, false, false, false, false, false, false, false, false, false] rfl rfl (by kernel_rfl) (fun _ _ _ h => h) (Or.inl ⟨by rfl, ?_⟩) ?_ ?_
          rotate_left
          · intro w'
            go_simp
            with_reducible rfl
          rotate_left
          · simp only [Act.put, List.setIfInBounds_toArray, List.set_cons_zero, List.set_cons_succ, i64_w, i32_w]
            rfl
          refine pure_ (i := 2) (N := some 139) (v := ?_) (a' := ?_) #[true, true, true, false, false, false, false, false, false, false, false, false] rfl rfl (by kernel_rfl) (fun _ _ _ h => h) (Or.inl ⟨by rfl, ?_⟩) ?_ ?_
          rotate_left
          · intro w'
            go_simp
            with_reducible rfl
          rotate_left
          · simp only [Act.put, List.setIfInBounds_toArray, List.set_cons_zero, List.set_cons_succ, i64_w, i32_w]
            rfl
          refine pure_ (i := 3) (N := some 140) (v := ?_) (a' := ?_) #[true, true, true, true, false, false, false, false, false, false, false, false] rfl rfl (by kernel_rfl) (fun _ _ _ h => h) (Or.inl ⟨by rfl, ?_⟩) ?_ ?_
          rotate_left
          · intro w'
            go_simp
            with_reducible rfl
          rotate_left
          · simp only [Act.put, List.setIfInBounds_toArray, List.set_cons_zero, List.set_cons_succ, i64_w, i32_w]
            rfl
          refine take_ (i := 5) (N := some 142) (v := ?_) (a' := ?_) #[true, true, true, true, false, true, false, false, false, false, false, false] rfl rfl (by kernel_rfl) (fun _ _ _ h => h) (Or.inl ⟨by rfl, ?_⟩) hHeld ?_ ?_
          rotate_left
          · rintro w' ⟨s0, s1⟩
            go_simp
            with_reducible rfl
          rotate_left
          · simp only [Act.put, List.setIfInBounds_toArray, List.set_cons_zero, List.set_cons_succ, i64_w, i32_w]
            rfl
          refine pure_ (i := 6) (N := some 143) (v := ?_) (a' := ?_) #[true, true, true, true, false, true, true, false, false, false, false, false] rfl rfl (by kernel_rfl) (fun _ _ _ h => h) (Or.inl ⟨by rfl, ?_⟩) ?_ ?_
          rotate_left
          · intro w'
            go_simp
            with_reducible rfl
          rotate_left
          · simp only [Act.put, List.setIfInBounds_toArray, List.set_cons_zero, List.set_cons_succ, i64_w, i32_w]
            rfl
          refine pure_ (i := 7) (N := some 144) (v := ?_) (a' := ?_) #[true, true, true, true, false, true, true, true, false, false, false, false] rfl rfl (by kernel_rfl) (fun _ _ _ h => h) (Or.inl ⟨by rfl, ?_⟩) ?_ ?_
          rotate_left
          · intro w'
            go_simp
            with_reducible rfl
          rotate_left
          · simp only [Act.put, List.setIfInBounds_toArray, List.set_cons_zero, List.set_cons_succ, i64_w, i32_w]
            rfl
          refine take_ (i := 8) (N := some 145) (v := ?_) (a' := ?_) #[true, true, true, true, false, true, true, true, true, false, false, false] rfl rfl (by kernel_rfl) (fun _ _ _ h => h) (Or.inl ⟨by rfl, ?_⟩) hHeld ?_ ?_
          rotate_left
          · rintro w' ⟨s0, s1⟩
            go_simp
            with_reducible rfl
          rotate_left
          · simp only [Act.put, List.setIfInBounds_toArray, List.set_cons_zero, List.set_cons_succ, i64_w, i32_w]
            rfl
          refine pure_ (i := 9) (N := some 146) (v := ?_) (a' := ?_) #[true, true, true, true, false, true, true, true, true, true, false, false] rfl rfl (by kernel_rfl) (fun _ _ _ h => h) (Or.inl ⟨by rfl, ?_⟩) ?_ ?_
          rotate_left
          · intro w'
            go_simp
            with_reducible rfl
          rotate_left
          · simp only [Act.put, List.setIfInBounds_toArray, List.set_cons_zero, List.set_cons_succ, i64_w, i32_w]
            rfl
          refine one_ (i := 4) (N := some 141) #[true, true, true, true, true, true, true, true, true, true, false, false] rfl rfl (by kernel_rfl) (by decide) (fun K hK => ?_)
          refine goes_ Try.func12 (by kernel_rfl) rfl #[.pointer (some ⟨p.g, 0, none⟩)] (by rfl) rfl rfl (by simp only [List.map_toArray, List.map_cons, List.map_nil]; rfl) ?_
          refine HLEN.out.mono ?_
          rintro e wl ⟨rfl, rfl⟩
          refine ⟨_, rfl, ?_⟩
          refine hK.out _ _ (HS.out) (fun hHeld => ?_)
          clear hK K
          refine norm_ (a' := ?_) ?_ ?_
          rotate_left
          · show Act.put _ (some 141) _ = _
            simp only [Act.put, List.setIfInBounds_toArray, List.set_cons_zero, List.set_cons_succ, i64_w, i32_w]
            rfl
          refine pure_ (i := 10) (N := some 147) (v := ?_) (a' := ?_) #[true, true, true, true, true, true, true, true, true, true, true, false] rfl rfl (by kernel_rfl) (fun _ _ _ h => h) (Or.inl ⟨by rfl, ?_⟩) ?_ ?_
          rotate_left
          · intro w'
            go_simp
            with_reducible rfl
          rotate_left
          · simp only [Act.put, List.setIfInBounds_toArray, List.set_cons_zero, List.set_cons_succ, i64_w, i32_w]
            rfl
          refine pure_ (i := 11) (N := some 148) (v := ?_) (a' := ?_) #[true, true, true, true, true, true, true, true, true, true, true, true] rfl rfl (by kernel_rfl) (fun _ _ _ h => h) (Or.inl ⟨by rfl, ?_⟩) ?_ ?_
          rotate_left
          · intro w'
            go_simp
            with_reducible rfl
          rotate_left
          · simp only [Act.put, List.setIfInBounds_toArray, List.set_cons_zero, List.set_cons_succ, i64_w, i32_w]
            rfl
          refine done_ (by kernel_rfl) ?_
          clear hHeld
          go_wp2_with fail
          go_roundw
          case rel => exact ⟨j + 1, _, _, xe, rfl, by omega, by omega, HIE.out, HVE.out, by rw [show (j + 1).toNat = j.toNat + 1 by omega]; exact HLE.out⟩
          case measure => simp [intOf]; omega
      by_cases k4 : kd = 4
      · subst k4
        by_cases hin : 0 ≤ ii ∧ ii < xs.length
        · skip
          obtain ⟨x, hx⟩ : ∃ x, x = xs.getD ii.toNat z32 := ⟨_, rfl⟩
          have HX := Lib.hid hx
          have HXX := Lib.hid (show x.f1.f12.length ≤ 1048576 by rw [hx]; exact HXV.out _ (getD_mem32 (by omega)))
          have hd1 : decide (ii < 0) = false := by simp; omega
          have hd2 : decide ((xs.length : Int) ≤ ii) = false := by simp; omega
          clear hx
          obtain ⟨Ar, cr, rfl⟩ := HI.out.2.2.1.slice
          go_wp2_with (first | ((with_reducible refine gate_dst (N := 45) rfl ?_); refine wpList_load_at rfl 50 (.tmp 44) rfl (ad.add (j.toNat * 3)) rfl _ _ HC45.out Try.underlying50 rfl (by kernel_rfl) ?_) | ((with_reducible refine gate_dst (N := 9) rfl ?_); refine box_event ?hg (N := 9) ?hd (cs := #[.int .i64 0, .int .i64 0, .slice none 0 0]) (t := 50) ?hr ?_; (case hd => rfl); (case hg => rfl); (case hr => first | (go_simp; done) | (go_simp; rfl)); intro g9 hg w4 hz hb; have HG9 := Lib.hid hg; have HZ4 := Lib.hid hz; have HB4 := Lib.hid hb; clear hg hz hb) | (refine wpList_store_row rfl rfl 50 (.tmp 9) (.tmp 45) rfl (g := g9) rfl rfl HZ4.out (by kernel_rfl) rfl (one3 _ _ _ _ _) ?_; intro w5 hz hg; have hb5 := Below.grown HB4.out hg HB4.out.size (fun b e => by injection e with e; have := HG9.out; omega); have HB5 := Lib.hid hb5; have HI5 := Lib.hid (HI.out.below HPB.out.symm hb5); have HZ9 := Lib.hid hz; have i90 := blk_cell hz 0; have i91 := blk_cell hz 1; have i92 := blk_cell hz 2; have i7 := blk_cell HI5.out.1.2.2 0; clear hz hg hb5) | (go_at_call 14; refine (Peek_in p.g p.base ii xs w5 _ v HI5.out.2.1 (HI5.out.fresh HOK.out) hin.1 hin.2 (fits_all HXV.out) (by have := HSU.out; omega)).mono ?_; rintro e w6 ⟨c6, rfl, hfk6, hb6⟩; rw [← HX.out] at hfk6; obtain ⟨A6, k6, rfl, hle6, _⟩ := k32_open (Kd.FK_now hfk6); have HK6 := Lib.hid hle6; have HFK6 := Lib.hid (show Kd.FK k32 w6 (fun k => w5.heap.size ≤ k) x [.int .i64 x.f0, .int .i64 x.f1.f0, .int .i64 x.f1.f1, .int .u64 x.f1.f2, .int .i64 x.f1.f3, .int .u64 x.f1.f4, .int .u64 x.f1.f5, .int .u64 x.f1.f6, .int .i64 x.f1.f7, .int .i64 x.f1.f8, .string x.f1.f9, .string x.f1.f10, .string x.f1.f11, .slice A6 x.f1.f12.length k6] from hfk6); have hi6 := HI5.out.below HPB.out.symm hb6; have HZ96 := Lib.hid (blk_below HZ9.out hb6); have HI6 := Lib.hid hi6; clear hfk6 hle6 hi6 hb6) | ((with_reducible refine gate_dst (N := 19) rfl ?_); refine box_event ?hg (N := 19) ?hd (cs := zS.cells) (t := 32) ?hr ?_; (case hd => rfl); (case hg => rfl); (case hr => first | (go_simp; done) | (go_simp; rfl)); intro g19 hg w6b hz hb; have HGg19 := Lib.hid hg; have HZg19 := Lib.hid hz; have HBg19 := Lib.hid hb; clear hg hz hb) | (refine wpList_store_row rfl rfl 32 (.tmp 19) (.tmp 105) rfl (g := g19) rfl rfl HZg19.out (by kernel_rfl) rfl (k32.K_one (Kd.FK_now HFK6.out)) ?_; intro w7 hz hg; have hbb := Below.grown HBg19.out hg HBg19.out.size (fun b e => by injection e with e; have := HGg19.out; omega); have HI7 := Lib.hid (HI6.out.below HPB.out.symm hbb); have HZ97 := Lib.hid (blk_below HZ96.out hbb); clear i90 i91 i92 i7; have HFK67 := Lib.hid (Kd.FK_grown (Kd.FK_below (Kd.FK_bound HFK6.out) HBg19.out) hg (fun b hb e => by injection e with e; have := hb.2; have := HGg19.out; omega)); have HZw7 := Lib.hid hz; have HBw7 := Lib.hid hbb; clear hz hg hbb))
          have HS26 := Lib.hid (show w7.drew.cell? ⟨g9, 1, none⟩ = some (.int .i64 ii) ∧ w7.drew.cell? ⟨p.g7, 0, none⟩ = some (.pointer (some ⟨p.r, 0, none⟩)) ∧ w7.drew.cell? ⟨p.r, 0, none⟩ = some (.slice Ar xs.length cr) from ⟨(blk_cell HZ97.out 1).trans rfl, (blk_cell HI7.out.1.2.2 0).trans rfl, (blk_cell HI7.out.2.2.1.1 0).trans rfl⟩)
          refine start_ (n := 13) (S := fun w' => w'.cell? ⟨g9, 1, none⟩ = some (.int .i64 ii) ∧ w'.cell? ⟨p.g7, 0, none⟩ = some (.pointer (some ⟨p.r, 0, none⟩)) ∧ w'.cell? ⟨p.r, 0, none⟩ = some (.slice Ar xs.length cr)) (ds := []) #[false, false, false, false, false, false, false, false, false, false, false, false, false] (by kernel_rfl) rfl rfl (HS26.out) (fun hHeld => ?_)
          refine pure_ (i := 0) (N := some 107) (v := ?_) (a' := ?_) #[true, false, false, false, false, false, false, false, false, false, false, false, false] rfl rfl (by kernel_rfl) (fun _ _ _ h => h) (Or.inl ⟨by rfl, ?_⟩) ?_ ?_
          rotate_left
          · intro w'
            go_simp
            with_reducible rfl
          rotate_left
          · simp only [Act.put, List.setIfInBounds_toArray, List.set_cons_zero, List.set_cons_succ, i64_w, i32_w]
            rfl
          refine take_ (i := 1) (N := some 108) (v := ?_) (a' := ?_) #[true, true, false, false, false, false, false, false, false, false, false, false, false] rfl rfl (by kernel_rfl) (fun _ _ _ h => h) (Or.inl ⟨by rfl, ?_⟩) hHeld ?_ ?_
          rotate_left
          · rintro w' ⟨s0, s1, s2⟩
            go_simp
            with_reducible rfl
          rotate_left
          · simp only [Act.put, List.setIfInBounds_toArray, List.set_cons_zero, List.set_cons_succ, i64_w, i32_w]
            rfl
          refine pure_ (i := 2) (N := some 109) (v := ?_) (a' := ?_) #[true, true, true, false, false, false, false, false, false, false, false, false, false] rfl rfl (by kernel_rfl) (fun _ _ _ h => h) (Or.inl ⟨by rfl, ?_⟩) ?_ ?_
          rotate_left
          · intro w'
            go_simp
            with_reducible rfl
          rotate_left
          · simp only [Act.put, List.setIfInBounds_toArray, List.set_cons_zero, List.set_cons_succ, i64_w, i32_w]
            rfl
          refine pure_ (i := 3) (N := some 110) (v := ?_) (a' := ?_) #[true, true, true, true, false, false, false, false, false, false, false, false, false] rfl rfl (by kernel_rfl) (fun _ _ _ h => h) (Or.inl ⟨by rfl, ?_⟩) ?_ ?_
          rotate_left
          · intro w'
            go_simp
            with_reducible rfl
          rotate_left
          · simp only [Act.put, List.setIfInBounds_toArray, List.set_cons_zero, List.set_cons_succ, i64_w, i32_w]
            rfl
          refine pure_ (i := 4) (N := some 111) (v := ?_) (a' := ?_) #[true, true, true, true, true, false, false, false, false, false, false, false, false] rfl rfl (by kernel_rfl) (fun _ _ _ h => h) (Or.inl ⟨by rfl, ?_⟩) ?_ ?_
          rotate_left
          · intro w'
            go_simp
            with_reducible rfl
          rotate_left
          · simp only [Act.put, List.setIfInBounds_toArray, List.set_cons_zero, List.set_cons_succ, i64_w, i32_w]
            rfl
          refine take_ (i := 5) (N := some 112) (v := ?_) (a' := ?_) #[true, true, true, true, true, true, false, false, false, false, false, false, false] rfl rfl (by kernel_rfl) (fun _ _ _ h => h) (Or.inl ⟨by rfl, ?_⟩) hHeld ?_ ?_
          rotate_left
          · rintro w' ⟨s0, s1, s2⟩
            go_simp
            with_reducible rfl
          rotate_left
          · simp only [Act.put, List.setIfInBounds_toArray, List.set_cons_zero, List.set_cons_succ, i64_w, i32_w]
            rfl
          refine take_ (i := 6) (N := some 113) (v := ?_) (a' := ?_) #[true, true, true, true, true, true, true, false, false, false, false, false, false] rfl rfl (by kernel_rfl) (fun _ _ _ h => h) (Or.inl ⟨by rfl, ?_⟩) hHeld ?_ ?_
          rotate_left
          · rintro w' ⟨s0, s1, s2⟩
            go_simp
            with_reducible rfl
          rotate_left
          · simp only [Act.put, List.setIfInBounds_toArray, List.set_cons_zero, List.set_cons_succ, i64_w, i32_w]
            rfl
          refine pure_ (i := 7) (N := some 114) (v := ?_) (a' := ?_) #[true, true, true, true, true, true, true, true, false, false, false, false, false] rfl rfl (by kernel_rfl) (fun _ _ _ h => h) (Or.inl ⟨by rfl, ?_⟩) ?_ ?_
          rotate_left
          · intro w'
            go_simp
            with_reducible rfl
          rotate_left
          · simp only [Act.put, List.setIfInBounds_toArray, List.set_cons_zero, List.set_cons_succ, i64_w, i32_w]
            rfl
          refine pure_ (i := 8) (N := some 115) (v := ?_) (a' := ?_) #[true, true, true, true, true, true, true, true, true, false, false, false, false] rfl rfl (by kernel_rfl) (fun _ _ _ h => h) (Or.inl ⟨by rfl, ?_⟩) ?_ ?_
          rotate_left
          · intro w'
            go_simp
            with_reducible rfl
          rotate_left
          · simp only [Act.put, List.setIfInBounds_toArray, List.set_cons_zero, List.set_cons_succ, i64_w, i32_w]
            rfl
          refine take_ (i := 9) (N := some 116) (v := ?_) (a' := ?_) #[true, true, true, true, true, true, true, true, true, true, false, false, false] rfl rfl (by kernel_rfl) (fun _ _ _ h => h) (Or.inl ⟨by rfl, ?_⟩) hHeld ?_ ?_
          rotate_left
          · rintro w' ⟨s0, s1, s2⟩
            go_simp
            with_reducible rfl
          rotate_left
          · simp only [Act.put, List.setIfInBounds_toArray, List.set_cons_zero, List.set_cons_succ, i64_w, i32_w]
            rfl
          refine pure_ (i := 10) (N := some 117) (v := ?_) (a' := ?_) #[true, true, true, true, true, true, true, true, true, true, true, false, false] rfl rfl (by kernel_rfl) (fun _ _ _ h => h) (Or.inl ⟨by rfl, ?_⟩) ?_ ?_
          rotate_left
          · intro w'
            go_simp
            with_reducible rfl
          rotate_left
          · simp only [Act.put, List.setIfInBounds_toArray, List.set_cons_zero, List.set_cons_succ, i64_w, i32_w]
            rfl
          refine pure_ (i := 11) (N := some 118) (v := ?_) (a' := ?_) #[true, true, true, true, true, true, true, true, true, true, true, true, false] rfl rfl (by kernel_rfl) (fun _ _ _ h => h) (Or.inl ⟨by rfl, ?_⟩) ?_ ?_
          rotate_left
          · intro w'
            go_simp
            with_reducible rfl
          rotate_left
          · simp only [Act.put, List.setIfInBounds_toArray, List.set_cons_zero, List.set_cons_succ, i64_w, i32_w]
            rfl
          refine pure_ (i := 12) (N := some 119) (v := ?_) (a' := ?_) #[true, true, true, true, true, true, true, true, true, true, true, true, true] rfl rfl (by kernel_rfl) (fun _ _ _ h => h) (Or.inl ⟨by rfl, ?_⟩) ?_ ?_
          rotate_left
          · intro w'
            go_simp
            with_reducible rfl
          rotate_left
          · simp only [Act.put, List.setIfInBounds_toArray, List.set_cons_zero, List.set_cons_succ, i64_w, i32_w]
            rfl
          refine done_ (by kernel_rfl) ?_
          clear hHeld
          obtain ⟨ad2, cy, hA3, _, hFKy, hcy, had2⟩ := Kd.F_get (Kd.F_bound (Kd.N_F HI7.out.2.2.1.2.1)) z32 ii hin.1 (by omega)
          rw [← HX.out] at hFKy
          obtain ⟨A8, k8, rfl, hle8, _⟩ := k32_open (Kd.FK_now hFKy)
          subst hA3
          have hb77 : Below w7.heap.size w7 w7.drew.drew := below_drew1 (below_drew1 (Below.refl _ _))
          have HS28 := Lib.hid (show w7.drew.drew.rangeAt g19 0 [.int .i64 x.f0, .int .i64 x.f1.f0, .int .i64 x.f1.f1, .int .u64 x.f1.f2, .int .i64 x.f1.f3, .int .u64 x.f1.f4, .int .u64 x.f1.f5, .int .u64 x.f1.f6, .int .i64 x.f1.f7, .int .i64 x.f1.f8, .string x.f1.f9, .string x.f1.f10, .string x.f1.f11, .slice A6 x.f1.f12.length k6] ∧ w7.drew.drew.cell? ⟨p.g7, 0, none⟩ = some (.pointer (some ⟨p.r, 0, none⟩)) ∧ w7.drew.drew.cell? ⟨p.r, 0, none⟩ = some (.slice (some ad2) xs.length cr) ∧ w7.drew.drew.cell? ⟨g9, 1, none⟩ = some (.int .i64 ii) ∧ (∀ t u, [.int .i64 x.f0, .int .i64 x.f1.f0, .int .i64 x.f1.f1, .int .u64 x.f1.f2, .int .i64 x.f1.f3, .int .u64 x.f1.f4, .int .u64 x.f1.f5, .int .u64 x.f1.f6, .int .i64 x.f1.f7, .int .i64 x.f1.f8, .string x.f1.f9, .string x.f1.f10, .string x.f1.f11, .slice A8 x.f1.f12.length k8][t]? = some u → w7.drew.drew.cell? ((ad2.add (ii.toNat * 14)).add t) = some u) from ⟨fun t u ht => by rw [Nat.zero_add, blk_cell (blk_below HZw7.out hb77) t]; simpa using ht, (blk_cell (blk_below HI7.out.1.2.2 hb77) 0).trans rfl, (blk_cell (blk_below HI7.out.2.2.1.1 hb77) 0).trans rfl, (blk_cell (blk_below HZ97.out hb77) 1).trans rfl, fun t u h => by rw [add_add]; exact pw_cell_below' hb77 (had2 (by decide)).2 (hcy t u h)⟩)
          have C16 := Lib.hid (Same16_calls A6 A8 k6 k8 x w7.drew.drew HXX.out (FK_vars (Kd.FK_below HFK67.out hb77)).1 HK6.out (FK_vars (Kd.FK_below hFKy hb77)).1 hle8)
          clear hFKy hcy had2 hle8
          go_wp2_with fail
          refine start_ (n := 11) (S := fun w' => w'.rangeAt g19 0 [.int .i64 x.f0, .int .i64 x.f1.f0, .int .i64 x.f1.f1, .int .u64 x.f1.f2, .int .i64 x.f1.f3, .int .u64 x.f1.f4, .int .u64 x.f1.f5, .int .u64 x.f1.f6, .int .i64 x.f1.f7, .int .i64 x.f1.f8, .string x.f1.f9, .string x.f1.f10, .string x.f1.f11, .slice A6 x.f1.f12.length k6] ∧ w'.cell? ⟨p.g7, 0, none⟩ = some (.pointer (some ⟨p.r, 0, none⟩)) ∧ w'.cell? ⟨p.r, 0, none⟩ = some (.slice (some ad2) xs.length cr) ∧ w'.cell? ⟨g9, 1, none⟩ = some (.int .i64 ii) ∧ (∀ t u, [.int .i64 x.f0, .int .i64 x.f1.f0, .int .i64 x.f1.f1, .int .u64 x.f1.f2, .int .i64 x.f1.f3, .int .u64 x.f1.f4, .int .u64 x.f1.f5, .int .u64 x.f1.f6, .int .i64 x.f1.f7, .int .i64 x.f1.f8, .string x.f1.f9, .string x.f1.f10, .string x.f1.f11, .slice A8 x.f1.f12.length k8][t]? = some u → w'.cell? ((ad2.add (ii.toNat * 14)).add t) = some u)) (ds := []) #[false, false, false, false, false, false, false, false, false, false, false] (by kernel_rfl) rfl rfl (HS28.out) (fun hHeld => ?_)
          refine take_ (i := 0) (N := some 122) (v := .agg [.int .i64 x.f0, .int .i64 x.f1.f0, .int .i64 x.f1.f1, .int .u64 x.f1.f2, .int .i64 x.f1.f3, .int .u64 x.f1.f4, .int .u64 x.f1.f5, .int .u64 x.f1.f6, .int .i64 x.f1.f7, .int .i64 x.f1.f8, .string x.f1.f9, .string x.f1.f10, .string x.f1.f11, .slice A6 x.f1.f12.length k6].toArray) (a' := ?_) #[true, false, false, false, false, false, false, false, false, false, false] rfl rfl (by kernel_rfl) (fun _ _ _ h => h) (yieldsIf_load_mid (by rfl) 32 (.tmp 19) rfl g19 (0) rfl [.int .i64 x.f0, .int .i64 x.f1.f0, .int .i64 x.f1.f1, .int .u64 x.f1.f2, .int .i64 x.f1.f3, .int .u64 x.f1.f4, .int .u64 x.f1.f5, .int .u64 x.f1.f6, .int .i64 x.f1.f7, .int .i64 x.f1.f8, .string x.f1.f9, .string x.f1.f10, .string x.f1.f11, .slice A6 x.f1.f12.length k6] _ (fun w' h => h.1) Try.underlying32 rfl (by kernel_rfl)) hHeld ?_ ?_
          rotate_left
          · simp only [Act.put, List.setIfInBounds_toArray, List.set_cons_zero, List.set_cons_succ, i64_w, i32_w]
            rfl
          refine take_ (i := 1) (N := some 123) (v := ?_) (a' := ?_) #[true, true, false, false, false, false, false, false, false, false, false] rfl rfl (by kernel_rfl) (fun _ _ _ h => h) (Or.inl ⟨by rfl, ?_⟩) hHeld ?_ ?_
          rotate_left
          · rintro w' ⟨s0, s1, s2, s3, s4⟩
            go_simp
            with_reducible rfl
          rotate_left
          · simp only [Act.put, List.setIfInBounds_toArray, List.set_cons_zero, List.set_cons_succ, i64_w, i32_w]
            rfl
          refine pure_ (i := 2) (N := some 124) (v := ?_) (a' := ?_) #[true, true, true, false, false, false, false, false, false, false, false] rfl rfl (by kernel_rfl) (fun _ _ _ h => h) (Or.inl ⟨by rfl, ?_⟩) ?_ ?_
          rotate_left
          · intro w'
            go_simp
            with_reducible rfl
          rotate_left
          · simp only [Act.put, List.setIfInBounds_toArray, List.set_cons_zero, List.set_cons_succ, i64_w, i32_w]
            rfl
          refine pure_ (i := 3) (N := some 125) (v := ?_) (a' := ?_) #[true, true, true, true, false, false, false, false, false, false, false] rfl rfl (by kernel_rfl) (fun _ _ _ h => h) (Or.inl ⟨by rfl, ?_⟩) ?_ ?_
          rotate_left
          · intro w'
            go_simp
            with_reducible rfl
          rotate_left
          · simp only [Act.put, List.setIfInBounds_toArray, List.set_cons_zero, List.set_cons_succ, i64_w, i32_w]
            rfl
          refine take_ (i := 4) (N := some 126) (v := ?_) (a' := ?_) #[true, true, true, true, true, false, false, false, false, false, false] rfl rfl (by kernel_rfl) (fun _ _ _ h => h) (Or.inl ⟨by rfl, ?_⟩) hHeld ?_ ?_
          rotate_left
          · rintro w' ⟨s0, s1, s2, s3, s4⟩
            go_simp
            with_reducible rfl
          rotate_left
          · simp only [Act.put, List.setIfInBounds_toArray, List.set_cons_zero, List.set_cons_succ, i64_w, i32_w]
            rfl
          refine pure_ (i := 5) (N := some 127) (v := ?_) (a' := ?_) #[true, true, true, true, true, true, false, false, false, false, false] rfl rfl (by kernel_rfl) (fun _ _ _ h => h) (Or.inl ⟨by rfl, ?_⟩) ?_ ?_
          rotate_left
          · intro w'
            go_simp
            with_reducible rfl
          rotate_left
          · simp only [Act.put, List.setIfInBounds_toArray, List.set_cons_zero, List.set_cons_succ, i64_w, i32_w]
            rfl
          refine take_ (i := 6) (N := some 128) (v := ?_) (a' := ?_) #[true, true, true, true, true, true, true, false, false, false, false] rfl rfl (by kernel_rfl) (fun _ _ _ h => h) (Or.inl ⟨by rfl, ?_⟩) hHeld ?_ ?_
          rotate_left
          · rintro w' ⟨s0, s1, s2, s3, s4⟩
            go_simp
            with_reducible rfl
          rotate_left
          · simp only [Act.put, List.setIfInBounds_toArray, List.set_cons_zero, List.set_cons_succ, i64_w, i32_w]
            rfl
          refine pure_ (i := 7) (N := some 129) (v := ?_) (a' := ?_) #[true, true, true, true, true, true, true, true, false, false, false] rfl rfl (by kernel_rfl) (fun _ _ _ h => h) (Or.inl ⟨by rfl, ?_⟩) ?_ ?_
          rotate_left
          · intro w'
            go_simp
            with_reducible rfl
          rotate_left
          · simp only [Act.put, List.setIfInBounds_toArray, List.set_cons_zero, List.set_cons_succ, i64_w, i32_w]
            rfl
          refine take_ (i := 8) (N := some 130) (v := .agg [.int .i64 x.f0, .int .i64 x.f1.f0, .int .i64 x.f1.f1, .int .u64 x.f1.f2, .int .i64 x.f1.f3, .int .u64 x.f1.f4, .int .u64 x.f1.f5, .int .u64 x.f1.f6, .int .i64 x.f1.f7, .int .i64 x.f1.f8, .string x.f1.f9, .string x.f1.f10, .string x.f1.f11, .slice A8 x.f1.f12.length k8].toArray) (a' := ?_) #[true, true, true, true, true, true, true, true, true, false, false] rfl rfl (by kernel_rfl) (fun _ _ _ h => h) (yieldsIf_load_adr (by rfl) 32 (.tmp 129) rfl (ad2.add (ii.toNat * 14)) rfl [.int .i64 x.f0, .int .i64 x.f1.f0, .int .i64 x.f1.f1, .int .u64 x.f1.f2, .int .i64 x.f1.f3, .int .u64 x.f1.f4, .int .u64 x.f1.f5, .int .u64 x.f1.f6, .int .i64 x.f1.f7, .int .i64 x.f1.f8, .string x.f1.f9, .string x.f1.f10, .string x.f1.f11, .slice A8 x.f1.f12.length k8] _ (fun w' h => h.2.2.2.2) Try.underlying32 rfl (by kernel_rfl)) hHeld ?_ ?_
          rotate_left
          · simp only [Act.put, List.setIfInBounds_toArray, List.set_cons_zero, List.set_cons_succ, i64_w, i32_w]
            rfl
          refine one_ (i := 9) (N := some 131) #[true, true, true, true, true, true, true, true, true, true, false] rfl rfl (by kernel_rfl) (by decide) (fun K hK => ?_)
          refine goes_ Try.func16 (by kernel_rfl) rfl #[.agg [.int .i64 x.f0, .int .i64 x.f1.f0, .int .i64 x.f1.f1, .int .u64 x.f1.f2, .int .i64 x.f1.f3, .int .u64 x.f1.f4, .int .u64 x.f1.f5, .int .u64 x.f1.f6, .int .i64 x.f1.f7, .int .i64 x.f1.f8, .string x.f1.f9, .string x.f1.f10, .string x.f1.f11, .slice A6 x.f1.f12.length k6].toArray, .agg [.int .i64 x.f0, .int .i64 x.f1.f0, .int .i64 x.f1.f1, .int .u64 x.f1.f2, .int .i64 x.f1.f3, .int .u64 x.f1.f4, .int .u64 x.f1.f5, .int .u64 x.f1.f6, .int .i64 x.f1.f7, .int .i64 x.f1.f8, .string x.f1.f9, .string x.f1.f10, .string x.f1.f11, .slice A8 x.f1.f12.length k8].toArray] (by rfl) rfl rfl (by simp only [List.map_toArray, List.map_cons, List.map_nil]; rfl) ?_
          refine C16.out.mono ?_
          rintro e w8 ⟨rfl, hb8⟩
          refine ⟨_, rfl, ?_⟩
          refine hK.out _ _ (⟨rangeAt_below hHeld.1 hb8, pw_cell_below hb8 hHeld.2.1, pw_cell_below hb8 hHeld.2.2.1, pw_cell_below hb8 hHeld.2.2.2.1, fun t u ht => pw_cell_below hb8 (hHeld.2.2.2.2 t u ht)⟩) (fun hHeld => ?_)
          clear hK K
          refine norm_ (a' := ?_) ?_ ?_
          rotate_left
          · show Act.put _ (some 131) _ = _
            simp only [Act.put, List.setIfInBounds_toArray, List.set_cons_zero, List.set_cons_succ, i64_w, i32_w]
            rfl
          refine pure_ (i := 10) (N := some 21) (v := ?_) (a' := ?_) #[true, true, true, true, true, true, true, true, true, true, true] rfl rfl (by kernel_rfl) (fun _ _ _ h => h) (Or.inl ⟨by rfl, ?_⟩) ?_ ?_
          rotate_left
          · intro w'
            go_simp
            with_reducible rfl
          rotate_left
          · simp only [Act.put, List.setIfInBounds_toArray, List.set_cons_zero, List.set_cons_succ, i64_w, i32_w]
            rfl
          refine done_ (by kernel_rfl) ?_
          have HI8 := Lib.hid ((HI7.out.below HPB.out.symm hb77).below HPB.out.symm hb8)
          clear hHeld hb8 hb77
          go_wp2_with fail
          obtain ⟨xe, hxe⟩ : ∃ xe, xe = xs := ⟨_, rfl⟩
          have hIe : p.I w w8 v (.slice (some ad2) xs.length cr) xe xe := by rw [hxe]; exact HI8.out
          have HVE := Lib.hid (show ∀ x ∈ xe, x.f1.f12.length ≤ 1048576 by rw [hxe]; exact HXV.out)
          have HLE := Lib.hid (show xe.length ≤ ((l.take (j.toNat + 1)).map wt50).sum by rw [hxe, HWT.out]; exact by have := HXL.out; omega)
          clear hxe
          obtain ⟨Ar, cr, hvr⟩ := hIe.2.2.1.slice
          have HLEN := Lib.hid (Len_calls p.g p.base xe w8.drew _ v (hIe.2.1.below (below_drew1 (Below.refl _ _))))
          have HS := Lib.hid (show w8.drew.cell? ⟨p.g7, 0, none⟩ = some (.pointer (some ⟨p.r, 0, none⟩)) ∧ w8.drew.cell? ⟨p.r, 0, none⟩ = some (.slice Ar xe.length cr) from ⟨(blk_cell hIe.1.2.2 0).trans rfl, (blk_cell hIe.2.2.1.1 0).trans (by rw [hvr]; rfl)⟩)
          have HIE := Lib.hid (hIe.below HPB.out.symm (below_drew1 (Below.refl _ _)))
          have hnn : ((xe.length : Int) != (xe.length : Int)) = false := by simp
          clear hIe
          refine start_ (n := 12) (S := fun w' => w'.cell? ⟨p.g7, 0, none⟩ = some (.pointer (some ⟨p.r, 0, none⟩)) ∧ w'.cell? ⟨p.r, 0, none⟩ = some (.slice Ar xe.length cr)) (ds := []) #[false, false, false, false, false, false, false, false, false, false, false, false] (by kernel_rfl) rfl rfl (HS.out) (fun hHeld => ?_)
          refine pure_ (i := 0) (N := some 137) (v := ?_) (a' := ?_) #[true, false, false, false, false, false, false, false, false, false, false, false] rfl rfl (by kernel_rfl) (fun _ _ _ h => h) (Or.inl ⟨by rfl, ?_⟩) ?_ ?_
          rotate_left
          · intro w'
            go_simp
            with_reducible rfl
          rotate_left
          · simp only [Act.put, List.setIfInBounds_toArray, List.set_cons_zero, List.set_cons_succ, i64_w, i32_w]
            rfl
          refine pure_ (i := 1) (N := some 138) (v := ?_) (a' := ?_) #[true, true, false, false, false, false, false, false, false, false, false, false] rfl rfl (by kernel_rfl) (fun _ _ _ h => h) (Or.inl ⟨by rfl, ?_⟩) ?_ ?_
          rotate_left
          · intro w'
            go_simp
            with_reducible rfl
          rotate_left
          · simp only [Act.put, List.setIfInBounds_toArray, List.set_cons_zero, List.set_cons_succ, i64_w, i32_w]
            rfl
          refine pure_ (i := 2) (N := some 139) (v := ?_) (a' := ?_) #[true, true, true, false, false, false, false, false, false, false, false, false] rfl rfl (by kernel_rfl) (fun _ _ _ h => h) (Or.inl ⟨by rfl, ?_⟩) ?_ ?_
          rotate_left
          · intro w'
            go_simp
            with_reducible rfl
          rotate_left
          · simp only [Act.put, List.setIfInBounds_toArray, List.set_cons_zero, List.set_cons_succ, i64_w, i32_w]
            rfl
          refine pure_ (i := 3) (N := some 140) (v := ?_) (a' := ?_) #[true, true, true, true, false, false, false, false, false, false, false, false] rfl rfl (by kernel_rfl) (fun _ _ _ h => h) (Or.inl ⟨by rfl, ?_⟩) ?_ ?_
          rotate_left
          · intro w'
            go_simp
            with_reducible rfl
          rotate_left
          · simp only [Act.put, List.setIfInBounds_toArray, List.set_cons_zero, List.set_cons_succ, i64_w, i32_w]
            rfl
          refine take_ (i := 5) (N := some 142) (v := ?_) (a' := ?_) #[true, true, true, true, false, true, false, false, false, false, false, false] rfl rfl (by kernel_rfl) (fun _ _ _ h => h) (Or.inl ⟨by rfl, ?_⟩) hHeld ?_ ?_
          rotate_left
          · rintro w' ⟨s0, s1⟩
            go_simp
            with_reducible rfl
          rotate_left
          · simp only [Act.put, List.setIfInBounds_toArray, List.set_cons_zero, List.set_cons_succ, i64_w, i32_w]
            rfl
          refine pure_ (i := 6) (N := some 143) (v := ?_) (a' := ?_) #[true, true, true, true, false, true, true, false, false, false, false, false] rfl rfl (by kernel_rfl) (fun _ _ _ h => h) (Or.inl ⟨by rfl, ?_⟩) ?_ ?_
          rotate_left
          · intro w'
            go_simp
            with_reducible rfl
          rotate_left
          · simp only [Act.put, List.setIfInBounds_toArray, List.set_cons_zero, List.set_cons_succ, i64_w, i32_w]
            rfl
          refine pure_ (i := 7) (N := some 144) (v := ?_) (a' := ?_) #[true, true, true, true, false, true, true, true, false, false, false, false] rfl rfl (by kernel_rfl) (fun _ _ _ h => h) (Or.inl ⟨by rfl, ?_⟩) ?_ ?_
          rotate_left
          · intro w'
            go_simp
            with_reducible rfl
          rotate_left
          · simp only [Act.put, List.setIfInBounds_toArray, List.set_cons_zero, List.set_cons_succ, i64_w, i32_w]
            rfl
          refine take_ (i := 8) (N := some 145) (v := ?_) (a' := ?_) #[true, true, true, true, false, true, true, true, true, false, false, false] rfl rfl (by kernel_rfl) (fun _ _ _ h => h) (Or.inl ⟨by rfl, ?_⟩) hHeld ?_ ?_
          rotate_left
          · rintro w' ⟨s0, s1⟩
            go_simp
            with_reducible rfl
          rotate_left
          · simp only [Act.put, List.setIfInBounds_toArray, List.set_cons_zero, List.set_cons_succ, i64_w, i32_w]
            rfl
          refine pure_ (i := 9) (N := some 146) (v := ?_) (a' := ?_) #[true, true, true, true, false, true, true, true, true, true, false, false] rfl rfl (by kernel_rfl) (fun _ _ _ h => h) (Or.inl ⟨by rfl, ?_⟩) ?_ ?_
          rotate_left
          · intro w'
            go_simp
            with_reducible rfl
          rotate_left
          · simp only [Act.put, List.setIfInBounds_toArray, List.set_cons_zero, List.set_cons_succ, i64_w, i32_w]
            rfl
          refine one_ (i := 4) (N := some 141) #[true, true, true, true, true, true, true, true, true, true, false, false] rfl rfl (by kernel_rfl) (by decide) (fun K hK => ?_)
          refine goes_ Try.func12 (by kernel_rfl) rfl #[.pointer (some ⟨p.g, 0, none⟩)] (by rfl) rfl rfl (by simp only [List.map_toArray, List.map_cons, List.map_nil]; rfl) ?_
          refine HLEN.out.mono ?_
          rintro e wl ⟨rfl, rfl⟩
          refine ⟨_, rfl, ?_⟩
          refine hK.out _ _ (HS.out) (fun hHeld => ?_)
          clear hK K
          refine norm_ (a' := ?_) ?_ ?_
          rotate_left
          · show Act.put _ (some 141) _ = _
            simp only [Act.put, List.setIfInBounds_toArray, List.set_cons_zero, List.set_cons_succ, i64_w, i32_w]
            rfl
          refine pure_ (i := 10) (N := some 147) (v := ?_) (a' := ?_) #[true, true, true, true, true, true, true, true, true, true, true, false] rfl rfl (by kernel_rfl) (fun _ _ _ h => h) (Or.inl ⟨by rfl, ?_⟩) ?_ ?_
          rotate_left
          · intro w'
            go_simp
            with_reducible rfl
          rotate_left
          · simp only [Act.put, List.setIfInBounds_toArray, List.set_cons_zero, List.set_cons_succ, i64_w, i32_w]
            rfl
          refine pure_ (i := 11) (N := some 148) (v := ?_) (a' := ?_) #[true, true, true, true, true, true, true, true, true, true, true, true] rfl rfl (by kernel_rfl) (fun _ _ _ h => h) (Or.inl ⟨by rfl, ?_⟩) ?_ ?_
          rotate_left
          · intro w'
            go_simp
            with_reducible rfl
          rotate_left
          · simp only [Act.put, List.setIfInBounds_toArray, List.set_cons_zero, List.set_cons_succ, i64_w, i32_w]
            rfl
          refine done_ (by kernel_rfl) ?_
          clear hHeld
          go_wp2_with fail
          go_roundw
          case rel => exact ⟨j + 1, _, _, xe, rfl, by omega, by omega, HIE.out, HVE.out, by rw [show (j + 1).toNat = j.toNat + 1 by omega]; exact HLE.out⟩
          case measure => simp [intOf]; omega
        · by_cases hn : ii < 0
          · have hd1 : decide (ii < 0) = true := by simpa using hn
            obtain ⟨Ar, cr, rfl⟩ := HI.out.2.2.1.slice
            go_wp2_with (first | ((with_reducible refine gate_dst (N := 45) rfl ?_); refine wpList_load_at rfl 50 (.tmp 44) rfl (ad.add (j.toNat * 3)) rfl _ _ HC45.out Try.underlying50 rfl (by kernel_rfl) ?_) | ((with_reducible refine gate_dst (N := 9) rfl ?_); refine box_event ?hg (N := 9) ?hd (cs := #[.int .i64 0, .int .i64 0, .slice none 0 0]) (t := 50) ?hr ?_; (case hd => rfl); (case hg => rfl); (case hr => first | (go_simp; done) | (go_simp; rfl)); intro g9 hg w4 hz hb; have HG9 := Lib.hid hg; have HZ4 := Lib.hid hz; have HB4 := Lib.hid hb; clear hg hz hb) | (refine wpList_store_row rfl rfl 50 (.tmp 9) (.tmp 45) rfl (g := g9) rfl rfl HZ4.out (by kernel_rfl) rfl (one3 _ _ _ _ _) ?_; intro w5 hz hg; have hb5 := Below.grown HB4.out hg HB4.out.size (fun b e => by injection e with e; have := HG9.out; omega); have HB5 := Lib.hid hb5; have HI5 := Lib.hid (HI.out.below HPB.out.symm hb5); have HZ9 := Lib.hid hz; have i90 := blk_cell hz 0; have i91 := blk_cell hz 1; have i92 := blk_cell hz 2; have i7 := blk_cell HI5.out.1.2.2 0; clear hz hg hb5) | (go_at_call 14; refine (Peek_out p.g p.base ii xs w5 _ v HI5.out.2.1 (by omega)).mono ?_; rintro e w6 ⟨rfl, hb6⟩; have hi6 := HI5.out.below HPB.out.symm hb6; have HZ96 := Lib.hid (blk_below HZ9.out hb6); have HI6 := Lib.hid hi6; clear hi6 hb6) | ((with_reducible refine gate_dst (N := 19) rfl ?_); refine box_event ?hg (N := 19) ?hd (cs := zS.cells) (t := 32) ?hr ?_; (case hd => rfl); (case hg => rfl); (case hr => first | (go_simp; done) | (go_simp; rfl)); intro g19 hg w6b hz hb; have HGg19 := Lib.hid hg; have HZg19 := Lib.hid hz; have HBg19 := Lib.hid hb; clear hg hz hb) | (refine wpList_store_row rfl rfl 32 (.tmp 19) (.tmp 105) rfl (g := g19) rfl rfl HZg19.out (by kernel_rfl) rfl (one14 (x := z32) rfl) ?_; intro w7 hz hg; have hbb := Below.grown HBg19.out hg HBg19.out.size (fun b e => by injection e with e; have := HGg19.out; omega); have HI7 := Lib.hid (HI6.out.below HPB.out.symm hbb); have HZ97 := Lib.hid (blk_below HZ96.out hbb); clear i90 i91 i92 i7; have HZw7 := Lib.hid hz; have HBw7 := Lib.hid hbb; clear hz hg hbb))
            have HS26 := Lib.hid (show w7.drew.cell? ⟨g9, 1, none⟩ = some (.int .i64 ii) ∧ w7.drew.cell? ⟨p.g7, 0, none⟩ = some (.pointer (some ⟨p.r, 0, none⟩)) ∧ w7.drew.cell? ⟨p.r, 0, none⟩ = some (.slice Ar xs.length cr) from ⟨(blk_cell HZ97.out 1).trans rfl, (blk_cell HI7.out.1.2.2 0).trans rfl, (blk_cell HI7.out.2.2.1.1 0).trans rfl⟩)
            refine start_ (n := 13) (S := fun w' => w'.cell? ⟨g9, 1, none⟩ = some (.int .i64 ii) ∧ w'.cell? ⟨p.g7, 0, none⟩ = some (.pointer (some ⟨p.r, 0, none⟩)) ∧ w'.cell? ⟨p.r, 0, none⟩ = some (.slice Ar xs.length cr)) (ds := []) #[false, false, false, false, false, false, false, false, false, false, false, false, false] (by kernel_rfl) rfl rfl (HS26.out) (fun hHeld => ?_)
            refine pure_ (i := 0) (N := some 107) (v := ?_) (a' := ?_) #[true, false, false, false, false, false, false, false, false, false, false, false, false] rfl rfl (by kernel_rfl) (fun _ _ _ h => h) (Or.inl ⟨by rfl, ?_⟩) ?_ ?_
            rotate_left
            · intro w'
              go_simp
              with_reducible rfl
            rotate_left
            · simp only [Act.put, List.setIfInBounds_toArray, List.set_cons_zero, List.set_cons_succ, i64_w, i32_w]
              rfl
            refine take_ (i := 1) (N := some 108) (v := ?_) (a' := ?_) #[true, true, false, false, false, false, false, false, false, false, false, false, false] rfl rfl (by kernel_rfl) (fun _ _ _ h => h) (Or.inl ⟨by rfl, ?_⟩) hHeld ?_ ?_
            rotate_left
            · rintro w' ⟨s0, s1, s2⟩
              go_simp
              with_reducible rfl
            rotate_left
            · simp only [Act.put, List.setIfInBounds_toArray, List.set_cons_zero, List.set_cons_succ, i64_w, i32_w]
              rfl
            refine pure_ (i := 2) (N := some 109) (v := ?_) (a' := ?_) #[true, true, true, false, false, false, false, false, false, false, false, false, false] rfl rfl (by kernel_rfl) (fun _ _ _ h => h) (Or.inl ⟨by rfl, ?_⟩) ?_ ?_
            rotate_left
            · intro w'
              go_simp
              with_reducible rfl
            rotate_left
            · simp only [Act.put, List.setIfInBounds_toArray, List.set_cons_zero, List.set_cons_succ, i64_w, i32_w]
              rfl
            refine pure_ (i := 3) (N := some 110) (v := ?_) (a' := ?_) #[true, true, true, true, false, false, false, false, false, false, false, false, false] rfl rfl (by kernel_rfl) (fun _ _ _ h => h) (Or.inl ⟨by rfl, ?_⟩) ?_ ?_
            rotate_left
            · intro w'
              go_simp
              with_reducible rfl
            rotate_left
            · simp only [Act.put, List.setIfInBounds_toArray, List.set_cons_zero, List.set_cons_succ, i64_w, i32_w]
              rfl
            refine pure_ (i := 4) (N := some 111) (v := undef) (a' := ?_) #[true, true, true, true, true, false, false, false, false, false, false, false, false] rfl rfl (by kernel_rfl) (fun _ _ _ h => h) (Or.inr ⟨by rfl, rfl⟩) ?_ ?_
            rotate_left
            · simp only [Act.put, List.setIfInBounds_toArray, List.set_cons_zero, List.set_cons_succ, i64_w, i32_w]
              rfl
            refine pure_ (i := 5) (N := some 112) (v := undef) (a' := ?_) #[true, true, true, true, true, true, false, false, false, false, false, false, false] rfl rfl (by kernel_rfl) (fun _ _ _ h => h) (Or.inr ⟨by rfl, rfl⟩) ?_ ?_
            rotate_left
            · simp only [Act.put, List.setIfInBounds_toArray, List.set_cons_zero, List.set_cons_succ, i64_w, i32_w]
              rfl
            refine pure_ (i := 6) (N := some 113) (v := undef) (a' := ?_) #[true, true, true, true, true, true, true, false, false, false, false, false, false] rfl rfl (by kernel_rfl) (fun _ _ _ h => h) (Or.inr ⟨by rfl, rfl⟩) ?_ ?_
            rotate_left
            · simp only [Act.put, List.setIfInBounds_toArray, List.set_cons_zero, List.set_cons_succ, i64_w, i32_w]
              rfl
            refine pure_ (i := 7) (N := some 114) (v := undef) (a' := ?_) #[true, true, true, true, true, true, true, true, false, false, false, false, false] rfl rfl (by kernel_rfl) (fun _ _ _ h => h) (Or.inr ⟨by rfl, rfl⟩) ?_ ?_
            rotate_left
            · simp only [Act.put, List.setIfInBounds_toArray, List.set_cons_zero, List.set_cons_succ, i64_w, i32_w]
              rfl
            refine pure_ (i := 8) (N := some 115) (v := undef) (a' := ?_) #[true, true, true, true, true, true, true, true, true, false, false, false, false] rfl rfl (by kernel_rfl) (fun _ _ _ h => h) (Or.inr ⟨by rfl, rfl⟩) ?_ ?_
            rotate_left
            · simp only [Act.put, List.setIfInBounds_toArray, List.set_cons_zero, List.set_cons_succ, i64_w, i32_w]
              rfl
            refine pure_ (i := 9) (N := some 116) (v := undef) (a' := ?_) #[true, true, true, true, true, true, true, true, true, true, false, false, false] rfl rfl (by kernel_rfl) (fun _ _ _ h => h) (Or.inr ⟨by rfl, rfl⟩) ?_ ?_
            rotate_left
            · simp only [Act.put, List.setIfInBounds_toArray, List.set_cons_zero, List.set_cons_succ, i64_w, i32_w]
              rfl
            refine pure_ (i := 10) (N := some 117) (v := undef) (a' := ?_) #[true, true, true, true, true, true, true, true, true, true, true, false, false] rfl rfl (by kernel_rfl) (fun _ _ _ h => h) (Or.inr ⟨by rfl, rfl⟩) ?_ ?_
            rotate_left
            · simp only [Act.put, List.setIfInBounds_toArray, List.set_cons_zero, List.set_cons_succ, i64_w, i32_w]
              rfl
            refine pure_ (i := 11) (N := some 118) (v := undef) (a' := ?_) #[true, true, true, true, true, true, true, true, true, true, true, true, false] rfl rfl (by kernel_rfl) (fun _ _ _ h => h) (Or.inr ⟨by rfl, rfl⟩) ?_ ?_
            rotate_left
            · simp only [Act.put, List.setIfInBounds_toArray, List.set_cons_zero, List.set_cons_succ, i64_w, i32_w]
              rfl
            refine pure_ (i := 12) (N := some 119) (v := ?_) (a' := ?_) #[true, true, true, true, true, true, true, true, true, true, true, true, true] rfl rfl (by kernel_rfl) (fun _ _ _ h => h) (Or.inl ⟨by rfl, ?_⟩) ?_ ?_
            rotate_left
            · intro w'
              go_simp
              with_reducible rfl
            rotate_left
            · simp only [Act.put, List.setIfInBounds_toArray, List.set_cons_zero, List.set_cons_succ, i64_w, i32_w]
              rfl
            refine done_ (by kernel_rfl) ?_
            clear hHeld
            have HI8 := Lib.hid (HI7.out.below HPB.out.symm (below_drew1 (Below.refl _ _)))
            go_wp2_with fail
            obtain ⟨xe, hxe⟩ : ∃ xe, xe = xs := ⟨_, rfl⟩
            have hIe : p.I w w7.drew v (.slice Ar xs.length cr) xe xe := by rw [hxe]; exact HI8.out
            have HVE := Lib.hid (show ∀ x ∈ xe, x.f1.f12.length ≤ 1048576 by rw [hxe]; exact HXV.out)
            have HLE := Lib.hid (show xe.length ≤ ((l.take (j.toNat + 1)).map wt50).sum by rw [hxe, HWT.out]; exact by have := HXL.out; omega)
            clear hxe
            obtain ⟨Ar, cr, hvr⟩ := hIe.2.2.1.slice
            have HLEN := Lib.hid (Len_calls p.g p.base xe w7.drew.drew _ v (hIe.2.1.below (below_drew1 (Below.refl _ _))))
            have HS := Lib.hid (show w7.drew.drew.cell? ⟨p.g7, 0, none⟩ = some (.pointer (some ⟨p.r, 0, none⟩)) ∧ w7.drew.drew.cell? ⟨p.r, 0, none⟩ = some (.slice Ar xe.length cr) from ⟨(blk_cell hIe.1.2.2 0).trans rfl, (blk_cell hIe.2.2.1.1 0).trans (by rw [hvr]; rfl)⟩)
            have HIE := Lib.hid (hIe.below HPB.out.symm (below_drew1 (Below.refl _ _)))
            have hnn : ((xe.length : Int) != (xe.length : Int)) = false := by simp
            clear hIe
            refine start_ (n := 12) (S := fun w' => w'.cell? ⟨p.g7, 0, none⟩ = some (.pointer (some ⟨p.r, 0, none⟩)) ∧ w'.cell? ⟨p.r, 0, none⟩ = some (.slice Ar xe.length cr)) (ds := []) #[false, false, false, false, false, false, false, false, false, false, false, false] (by kernel_rfl) rfl rfl (HS.out) (fun hHeld => ?_)
            refine pure_ (i := 0) (N := some 137) (v := ?_) (a' := ?_) #[true, false, false, false, false, false, false, false, false, false, false, false] rfl rfl (by kernel_rfl) (fun _ _ _ h => h) (Or.inl ⟨by rfl, ?_⟩) ?_ ?_
            rotate_left
            · intro w'
              go_simp
              with_reducible rfl
            rotate_left
            · simp only [Act.put, List.setIfInBounds_toArray, List.set_cons_zero, List.set_cons_succ, i64_w, i32_w]
              rfl
            refine pure_ (i := 1) (N := some 138) (v := ?_) (a' := ?_) #[true, true, false, false, false, false, false, false, false, false, false, false] rfl rfl (by kernel_rfl) (fun _ _ _ h => h) (Or.inl ⟨by rfl, ?_⟩) ?_ ?_
            rotate_left
            · intro w'
              go_simp
              with_reducible rfl
            rotate_left
            · simp only [Act.put, List.setIfInBounds_toArray, List.set_cons_zero, List.set_cons_succ, i64_w, i32_w]
              rfl
            refine pure_ (i := 2) (N := some 139) (v := ?_) (a' := ?_) #[true, true, true, false, false, false, false, false, false, false, false, false] rfl rfl (by kernel_rfl) (fun _ _ _ h => h) (Or.inl ⟨by rfl, ?_⟩) ?_ ?_
            rotate_left
            · intro w'
              go_simp
              with_reducible rfl
            rotate_left
            · simp only [Act.put, List.setIfInBounds_toArray, List.set_cons_zero, List.set_cons_succ, i64_w, i32_w]
              rfl
            refine pure_ (i := 3) (N := some 140) (v := ?_) (a' := ?_) #[true, true, true, true, false, false, false, false, false, false, false, false] rfl rfl (by kernel_rfl) (fun _ _ _ h => h) (Or.inl ⟨by rfl, ?_⟩) ?_ ?_
            rotate_left
            · intro w'
              go_simp
              with_reducible rfl
            rotate_left
            · simp only [Act.put, List.setIfInBounds_toArray, List.set_cons_zero, List.set_cons_succ, i64_w, i32_w]
              rfl
            refine take_ (i := 5) (N := some 142) (v := ?_) (a' := ?_) #[true, true, true, true, false, true, false, false, false, false, false, false] rfl rfl (by kernel_rfl) (fun _ _ _ h => h) (Or.inl ⟨by rfl, ?_⟩) hHeld ?_ ?_
            rotate_left
            · rintro w' ⟨s0, s1⟩
              go_simp
              with_reducible rfl
            rotate_left
            · simp only [Act.put, List.setIfInBounds_toArray, List.set_cons_zero, List.set_cons_succ, i64_w, i32_w]
              rfl
            refine pure_ (i := 6) (N := some 143) (v := ?_) (a' := ?_) #[true, true, true, true, false, true, true, false, false, false, false, false] rfl rfl (by kernel_rfl) (fun _ _ _ h => h) (Or.inl ⟨by rfl, ?_⟩) ?_ ?_
            rotate_left
            · intro w'
              go_simp
              with_reducible rfl
            rotate_left
            · simp only [Act.put, List.setIfInBounds_toArray, List.set_cons_zero, List.set_cons_succ, i64_w, i32_w]
              rfl
            refine pure_ (i := 7) (N := some 144) (v := ?_) (a' := ?_) #[true, true, true, true, false, true, true, true, false, false, false, false] rfl rfl (by kernel_rfl) (fun _ _ _ h => h) (Or.inl ⟨by rfl, ?_⟩) ?_ ?_
            rotate_left
            · intro w'
              go_simp
              with_reducible rfl
            rotate_left
            · simp only [Act.put, List.setIfInBounds_toArray, List.set_cons_zero, List.set_cons_succ, i64_w, i32_w]
              rfl
            refine take_ (i := 8) (N := some 145) (v := ?_) (a' := ?_) #[true, true, true, true, false, true, true, true, true, false, false, false] rfl rfl (by kernel_rfl) (fun _ _ _ h => h) (Or.inl ⟨by rfl, ?_⟩) hHeld ?_ ?_
            rotate_left
            · rintro w' ⟨s0, s1⟩
              go_simp
              with_reducible rfl
            rotate_left
            · simp only [Act.put, List.setIfInBounds_toArray, List.set_cons_zero, List.set_cons_succ, i64_w, i32_w]
              rfl
            refine pure_ (i := 9) (N := some 146) (v := ?_) (a' := ?_) #[true, true, true, true, false, true, true, true, true, true, false, false] rfl rfl (by kernel_rfl) (fun _ _ _ h => h) (Or.inl ⟨by rfl, ?_⟩) ?_ ?_
            rotate_left
            · intro w'
              go_simp
              with_reducible rfl
            rotate_left
            · simp only [Act.put, List.setIfInBounds_toArray, List.set_cons_zero, List.set_cons_succ, i64_w, i32_w]
              rfl
            refine one_ (i := 4) (N := some 141) #[true, true, true, true, true, true, true, true, true, true, false, false] rfl rfl (by kernel_rfl) (by decide) (fun K hK => ?_)
            refine goes_ Try.func12 (by kernel_rfl) rfl #[.pointer (some ⟨p.g, 0, none⟩)] (by rfl) rfl rfl (by simp only [List.map_toArray, List.map_cons, List.map_nil]; rfl) ?_
            refine HLEN.out.mono ?_
            rintro e wl ⟨rfl, rfl⟩
            refine ⟨_, rfl, ?_⟩
            refine hK.out _ _ (HS.out) (fun hHeld => ?_)
            clear hK K
            refine norm_ (a' := ?_) ?_ ?_
            rotate_left
            · show Act.put _ (some 141) _ = _
              simp only [Act.put, List.setIfInBounds_toArray, List.set_cons_zero, List.set_cons_succ, i64_w, i32_w]
              rfl
            refine pure_ (i := 10) (N := some 147) (v := ?_) (a' := ?_) #[true, true, true, true, true, true, true, true, true, true, true, false] rfl rfl (by kernel_rfl) (fun _ _ _ h => h) (Or.inl ⟨by rfl, ?_⟩) ?_ ?_
            rotate_left
            · intro w'
              go_simp
              with_reducible rfl
            rotate_left
            · simp only [Act.put, List.setIfInBounds_toArray, List.set_cons_zero, List.set_cons_succ, i64_w, i32_w]
              rfl
            refine pure_ (i := 11) (N := some 148) (v := ?_) (a' := ?_) #[true, true, true, true, true, true, true, true, true, true, true, true] rfl rfl (by kernel_rfl) (fun _ _ _ h => h) (Or.inl ⟨by rfl, ?_⟩) ?_ ?_
            rotate_left
            · intro w'
              go_simp
              with_reducible rfl
            rotate_left
            · simp only [Act.put, List.setIfInBounds_toArray, List.set_cons_zero, List.set_cons_succ, i64_w, i32_w]
              rfl
            refine done_ (by kernel_rfl) ?_
            clear hHeld
            go_wp2_with fail
            go_roundw
            case rel => exact ⟨j + 1, _, _, xe, rfl, by omega, by omega, HIE.out, HVE.out, by rw [show (j + 1).toNat = j.toNat + 1 by omega]; exact HLE.out⟩
            case measure => simp [intOf]; omega
          · have hd1 : decide (ii < 0) = false := by simpa using hn
            have hd2 : decide ((xs.length : Int) ≤ ii) = true := by simp; omega
            obtain ⟨Ar, cr, rfl⟩ := HI.out.2.2.1.slice
            go_wp2_with (first | ((with_reducible refine gate_dst (N := 45) rfl ?_); refine wpList_load_at rfl 50 (.tmp 44) rfl (ad.add (j.toNat * 3)) rfl _ _ HC45.out Try.underlying50 rfl (by kernel_rfl) ?_) | ((with_reducible refine gate_dst (N := 9) rfl ?_); refine box_event ?hg (N := 9) ?hd (cs := #[.int .i64 0, .int .i64 0, .slice none 0 0]) (t := 50) ?hr ?_; (case hd => rfl); (case hg => rfl); (case hr => first | (go_simp; done) | (go_simp; rfl)); intro g9 hg w4 hz hb; have HG9 := Lib.hid hg; have HZ4 := Lib.hid hz; have HB4 := Lib.hid hb; clear hg hz hb) | (refine wpList_store_row rfl rfl 50 (.tmp 9) (.tmp 45) rfl (g := g9) rfl rfl HZ4.out (by kernel_rfl) rfl (one3 _ _ _ _ _) ?_; intro w5 hz hg; have hb5 := Below.grown HB4.out hg HB4.out.size (fun b e => by injection e with e; have := HG9.out; omega); have HB5 := Lib.hid hb5; have HI5 := Lib.hid (HI.out.below HPB.out.symm hb5); have HZ9 := Lib.hid hz; have i90 := blk_cell hz 0; have i91 := blk_cell hz 1; have i92 := blk_cell hz 2; have i7 := blk_cell HI5.out.1.2.2 0; clear hz hg hb5) | (go_at_call 14; refine (Peek_out p.g p.base ii xs w5 _ v HI5.out.2.1 (by omega)).mono ?_; rintro e w6 ⟨rfl, hb6⟩; have hi6 := HI5.out.below HPB.out.symm hb6; have HZ96 := Lib.hid (blk_below HZ9.out hb6); have HI6 := Lib.hid hi6; clear hi6 hb6) | ((with_reducible refine gate_dst (N := 19) rfl ?_); refine box_event ?hg (N := 19) ?hd (cs := zS.cells) (t := 32) ?hr ?_; (case hd => rfl); (case hg => rfl); (case hr => first | (go_simp; done) | (go_simp; rfl)); intro g19 hg w6b hz hb; have HGg19 := Lib.hid hg; have HZg19 := Lib.hid hz; have HBg19 := Lib.hid hb; clear hg hz hb) | (refine wpList_store_row rfl rfl 32 (.tmp 19) (.tmp 105) rfl (g := g19) rfl rfl HZg19.out (by kernel_rfl) rfl (one14 (x := z32) rfl) ?_; intro w7 hz hg; have hbb := Below.grown HBg19.out hg HBg19.out.size (fun b e => by injection e with e; have := HGg19.out; omega); have HI7 := Lib.hid (HI6.out.below HPB.out.symm hbb); have HZ97 := Lib.hid (blk_below HZ96.out hbb); clear i90 i91 i92 i7; have HZw7 := Lib.hid hz; have HBw7 := Lib.hid hbb; clear hz hg hbb))
            have HS26 := Lib.hid (show w7.drew.cell? ⟨g9, 1, none⟩ = some (.int .i64 ii) ∧ w7.drew.cell? ⟨p.g7, 0, none⟩ = some (.pointer (some ⟨p.r, 0, none⟩)) ∧ w7.drew.cell? ⟨p.r, 0, none⟩ = some (.slice Ar xs.length cr) from ⟨(blk_cell HZ97.out 1).trans rfl, (blk_cell HI7.out.1.2.2 0).trans rfl, (blk_cell HI7.out.2.2.1.1 0).trans rfl⟩)
            refine start_ (n := 13) (S := fun w' => w'.cell? ⟨g9, 1, none⟩ = some (.int .i64 ii) ∧ w'.cell? ⟨p.g7, 0, none⟩ = some (.pointer (some ⟨p.r, 0, none⟩)) ∧ w'.cell? ⟨p.r, 0, none⟩ = some (.slice Ar xs.length cr)) (ds := []) #[false, false, false, false, false, false, false, false, false, false, false, false, false] (by kernel_rfl) rfl rfl (HS26.out) (fun hHeld => ?_)
            refine pure_ (i := 0) (N := some 107) (v := ?_) (a' := ?_) #[true, false, false, false, false, false, false, false, false, false, false, false, false] rfl rfl (by kernel_rfl) (fun _ _ _ h => h) (Or.inl ⟨by rfl, ?_⟩) ?_ ?_
            rotate_left
            · intro w'
              go_simp
              with_reducible rfl
            rotate_left
            · simp only [Act.put, List.setIfInBounds_toArray, List.set_cons_zero, List.set_cons_succ, i64_w, i32_w]
              rfl
            refine take_ (i := 1) (N := some 108) (v := ?_) (a' := ?_) #[true, true, false, false, false, false, false, false, false, false, false, false, false] rfl rfl (by kernel_rfl) (fun _ _ _ h => h) (Or.inl ⟨by rfl, ?_⟩) hHeld ?_ ?_
            rotate_left
            · rintro w' ⟨s0, s1, s2⟩
              go_simp
              with_reducible rfl
            rotate_left
            · simp only [Act.put, List.setIfInBounds_toArray, List.set_cons_zero, List.set_cons_succ, i64_w, i32_w]
              rfl
            refine pure_ (i := 2) (N := some 109) (v := ?_) (a' := ?_) #[true, true, true, false, false, false, false, false, false, false, false, false, false] rfl rfl (by kernel_rfl) (fun _ _ _ h => h) (Or.inl ⟨by rfl, ?_⟩) ?_ ?_
            rotate_left
            · intro w'
              go_simp
              with_reducible rfl
            rotate_left
            · simp only [Act.put, List.setIfInBounds_toArray, List.set_cons_zero, List.set_cons_succ, i64_w, i32_w]
              rfl
            refine pure_ (i := 3) (N := some 110) (v := ?_) (a' := ?_) #[true, true, true, true, false, false, false, false, false, false, false, false, false] rfl rfl (by kernel_rfl) (fun _ _ _ h => h) (Or.inl ⟨by rfl, ?_⟩) ?_ ?_
            rotate_left
            · intro w'
              go_simp
              with_reducible rfl
            rotate_left
            · simp only [Act.put, List.setIfInBounds_toArray, List.set_cons_zero, List.set_cons_succ, i64_w, i32_w]
              rfl
            refine pure_ (i := 4) (N := some 111) (v := ?_) (a' := ?_) #[true, true, true, true, true, false, false, false, false, false, false, false, false] rfl rfl (by kernel_rfl) (fun _ _ _ h => h) (Or.inl ⟨by rfl, ?_⟩) ?_ ?_
            rotate_left
            · intro w'
              go_simp
              with_reducible rfl
            rotate_left
            · simp only [Act.put, List.setIfInBounds_toArray, List.set_cons_zero, List.set_cons_succ, i64_w, i32_w]
              rfl
            refine take_ (i := 5) (N := some 112) (v := ?_) (a' := ?_) #[true, true, true, true, true, true, false, false, false, false, false, false, false] rfl rfl (by kernel_rfl) (fun _ _ _ h => h) (Or.inl ⟨by rfl, ?_⟩) hHeld ?_ ?_
            rotate_left
            · rintro w' ⟨s0, s1, s2⟩
              go_simp
              with_reducible rfl
            rotate_left
            · simp only [Act.put, List.setIfInBounds_toArray, List.set_cons_zero, List.set_cons_succ, i64_w, i32_w]
              rfl
            refine take_ (i := 6) (N := some 113) (v := ?_) (a' := ?_) #[true, true, true, true, true, true, true, false, false, false, false, false, false] rfl rfl (by kernel_rfl) (fun _ _ _ h => h) (Or.inl ⟨by rfl, ?_⟩) hHeld ?_ ?_
            rotate_left
            · rintro w' ⟨s0, s1, s2⟩
              go_simp
              with_reducible rfl
            rotate_left
            · simp only [Act.put, List.setIfInBounds_toArray, List.set_cons_zero, List.set_cons_succ, i64_w, i32_w]
              rfl
            refine pure_ (i := 7) (N := some 114) (v := ?_) (a' := ?_) #[true, true, true, true, true, true, true, true, false, false, false, false, false] rfl rfl (by kernel_rfl) (fun _ _ _ h => h) (Or.inl ⟨by rfl, ?_⟩) ?_ ?_
            rotate_left
            · intro w'
              go_simp
              with_reducible rfl
            rotate_left
            · simp only [Act.put, List.setIfInBounds_toArray, List.set_cons_zero, List.set_cons_succ, i64_w, i32_w]
              rfl
            refine pure_ (i := 8) (N := some 115) (v := ?_) (a' := ?_) #[true, true, true, true, true, true, true, true, true, false, false, false, false] rfl rfl (by kernel_rfl) (fun _ _ _ h => h) (Or.inl ⟨by rfl, ?_⟩) ?_ ?_
            rotate_left
            · intro w'
              go_simp
              with_reducible rfl
            rotate_left
            · simp only [Act.put, List.setIfInBounds_toArray, List.set_cons_zero, List.set_cons_succ, i64_w, i32_w]
              rfl
            refine take_ (i := 9) (N := some 116) (v := ?_) (a' := ?_) #[true, true, true, true, true, true, true, true, true, true, false, false, false] rfl rfl (by kernel_rfl) (fun _ _ _ h => h) (Or.inl ⟨by rfl, ?_⟩) hHeld ?_ ?_
            rotate_left
            · rintro w' ⟨s0, s1, s2⟩
              go_simp
              with_reducible rfl
            rotate_left
            · simp only [Act.put, List.setIfInBounds_toArray, List.set_cons_zero, List.set_cons_succ, i64_w, i32_w]
              rfl
            refine pure_ (i := 10) (N := some 117) (v := ?_) (a' := ?_) #[true, true, true, true, true, true, true, true, true, true, true, false, false] rfl rfl (by kernel_rfl) (fun _ _ _ h => h) (Or.inl ⟨by rfl, ?_⟩) ?_ ?_
            rotate_left
            · intro w'
              go_simp
              with_reducible rfl
            rotate_left
            · simp only [Act.put, List.setIfInBounds_toArray, List.set_cons_zero, List.set_cons_succ, i64_w, i32_w]
              rfl
            refine pure_ (i := 11) (N := some 118) (v := ?_) (a' := ?_) #[true, true, true, true, true, true, true, true, true, true, true, true, false] rfl rfl (by kernel_rfl) (fun _ _ _ h => h) (Or.inl ⟨by rfl, ?_⟩) ?_ ?_
            rotate_left
            · intro w'
              go_simp
              with_reducible rfl
            rotate_left
            · simp only [Act.put, List.setIfInBounds_toArray, List.set_cons_zero, List.set_cons_succ, i64_w, i32_w]
              rfl
            refine pure_ (i := 12) (N := some 119) (v := ?_) (a' := ?_) #[true, true, true, true, true, true, true, true, true, true, true, true, true] rfl rfl (by kernel_rfl) (fun _ _ _ h => h) (Or.inl ⟨by rfl, ?_⟩) ?_ ?_
            rotate_left
            · intro w'
              go_simp
              with_reducible rfl
            rotate_left
            · simp only [Act.put, List.setIfInBounds_toArray, List.set_cons_zero, List.set_cons_succ, i64_w, i32_w]
              rfl
            refine done_ (by kernel_rfl) ?_
            clear hHeld
            have HI8 := Lib.hid (HI7.out.below HPB.out.symm (below_drew1 (Below.refl _ _)))
            go_wp2_with fail
            obtain ⟨xe, hxe⟩ : ∃ xe, xe = xs := ⟨_, rfl⟩
            have hIe : p.I w w7.drew v (.slice Ar xs.length cr) xe xe := by rw [hxe]; exact HI8.out
            have HVE := Lib.hid (show ∀ x ∈ xe, x.f1.f12.length ≤ 1048576 by rw [hxe]; exact HXV.out)
            have HLE := Lib.hid (show xe.length ≤ ((l.take (j.toNat + 1)).map wt50).sum by rw [hxe, HWT.out]; exact by have := HXL.out; omega)
            clear hxe
            obtain ⟨Ar, cr, hvr⟩ := hIe.2.2.1.slice
            have HLEN := Lib.hid (Len_calls p.g p.base xe w7.drew.drew _ v (hIe.2.1.below (below_drew1 (Below.refl _ _))))
            have HS := Lib.hid (show w7.drew.drew.cell? ⟨p.g7, 0, none⟩ = some (.pointer (some ⟨p.r, 0, none⟩)) ∧ w7.drew.drew.cell? ⟨p.r, 0, none⟩ = some (.slice Ar xe.length cr) from ⟨(blk_cell hIe.1.2.2 0).trans rfl, (blk_cell hIe.2.2.1.1 0).trans (by rw [hvr]; rfl)⟩)
            have HIE := Lib.hid (hIe.below HPB.out.symm (below_drew1 (Below.refl _ _)))
            have hnn : ((xe.length : Int) != (xe.length : Int)) = false := by simp
            clear hIe
            refine start_ (n := 12) (S := fun w' => w'.cell? ⟨p.g7, 0, none⟩ = some (.pointer (some ⟨p.r, 0, none⟩)) ∧ w'.cell? ⟨p.r, 0, none⟩ = some (.slice Ar xe.length cr)) (ds := []) #[false, false, false, false, false, false, false, false, false, false, false, false] (by kernel_rfl) rfl rfl (HS.out) (fun hHeld => ?_)
            refine pure_ (i := 0) (N := some 137) (v := ?_) (a' := ?_) #[true, false, false, false, false, false, false, false, false, false, false, false] rfl rfl (by kernel_rfl) (fun _ _ _ h => h) (Or.inl ⟨by rfl, ?_⟩) ?_ ?_
            rotate_left
            · intro w'
              go_simp
              with_reducible rfl
            rotate_left
            · simp only [Act.put, List.setIfInBounds_toArray, List.set_cons_zero, List.set_cons_succ, i64_w, i32_w]
              rfl
            refine pure_ (i := 1) (N := some 138) (v := ?_) (a' := ?_) #[true, true, false, false, false, false, false, false, false, false, false, false] rfl rfl (by kernel_rfl) (fun _ _ _ h => h) (Or.inl ⟨by rfl, ?_⟩) ?_ ?_
            rotate_left
            · intro w'
              go_simp
              with_reducible rfl
            rotate_left
            · simp only [Act.put, List.setIfInBounds_toArray, List.set_cons_zero, List.set_cons_succ, i64_w, i32_w]
              rfl
            refine pure_ (i := 2) (N := some 139) (v := ?_) (a' := ?_) #[true, true, true, false, false, false, false, false, false, false, false, false] rfl rfl (by kernel_rfl) (fun _ _ _ h => h) (Or.inl ⟨by rfl, ?_⟩) ?_ ?_
            rotate_left
            · intro w'
              go_simp
              with_reducible rfl
            rotate_left
            · simp only [Act.put, List.setIfInBounds_toArray, List.set_cons_zero, List.set_cons_succ, i64_w, i32_w]
              rfl
            refine pure_ (i := 3) (N := some 140) (v := ?_) (a' := ?_) #[true, true, true, true, false, false, false, false, false, false, false, false] rfl rfl (by kernel_rfl) (fun _ _ _ h => h) (Or.inl ⟨by rfl, ?_⟩) ?_ ?_
            rotate_left
            · intro w'
              go_simp
              with_reducible rfl
            rotate_left
            · simp only [Act.put, List.setIfInBounds_toArray, List.set_cons_zero, List.set_cons_succ, i64_w, i32_w]
              rfl
            refine take_ (i := 5) (N := some 142) (v := ?_) (a' := ?_) #[true, true, true, true, false, true, false, false, false, false, false, false] rfl rfl (by kernel_rfl) (fun _ _ _ h => h) (Or.inl ⟨by rfl, ?_⟩) hHeld ?_ ?_
            rotate_left
            · rintro w' ⟨s0, s1⟩
              go_simp
              with_reducible rfl
            rotate_left
            · simp only [Act.put, List.setIfInBounds_toArray, List.set_cons_zero, List.set_cons_succ, i64_w, i32_w]
              rfl
            refine pure_ (i := 6) (N := some 143) (v := ?_) (a' := ?_) #[true, true, true, true, false, true, true, false, false, false, false, false] rfl rfl (by kernel_rfl) (fun _ _ _ h => h) (Or.inl ⟨by rfl, ?_⟩) ?_ ?_
            rotate_left
            · intro w'
              go_simp
              with_reducible rfl
            rotate_left
            · simp only [Act.put, List.setIfInBounds_toArray, List.set_cons_zero, List.set_cons_succ, i64_w, i32_w]
              rfl
            refine pure_ (i := 7) (N := some 144) (v := ?_) (a' := ?_) #[true, true, true, true, false, true, true, true, false, false, false, false] rfl rfl (by kernel_rfl) (fun _ _ _ h => h) (Or.inl ⟨by rfl, ?_⟩) ?_ ?_
            rotate_left
            · intro w'
              go_simp
              with_reducible rfl
            rotate_left
            · simp only [Act.put, List.setIfInBounds_toArray, List.set_cons_zero, List.set_cons_succ, i64_w, i32_w]
              rfl
            refine take_ (i := 8) (N := some 145) (v := ?_) (a' := ?_) #[true, true, true, true, false, true, true, true, true, false, false, false] rfl rfl (by kernel_rfl) (fun _ _ _ h => h) (Or.inl ⟨by rfl, ?_⟩) hHeld ?_ ?_
            rotate_left
            · rintro w' ⟨s0, s1⟩
              go_simp
              with_reducible rfl
            rotate_left
            · simp only [Act.put, List.setIfInBounds_toArray, List.set_cons_zero, List.set_cons_succ, i64_w, i32_w]
              rfl
            refine pure_ (i := 9) (N := some 146) (v := ?_) (a' := ?_) #[true, true, true, true, false, true, true, true, true, true, false, false] rfl rfl (by kernel_rfl) (fun _ _ _ h => h) (Or.inl ⟨by rfl, ?_⟩) ?_ ?_
            rotate_left
            · intro w'
              go_simp
              with_reducible rfl
            rotate_left
            · simp only [Act.put, List.setIfInBounds_toArray, List.set_cons_zero, List.set_cons_succ, i64_w, i32_w]
              rfl
            refine one_ (i := 4) (N := some 141) #[true, true, true, true, true, true, true, true, true, true, false, false] rfl rfl (by kernel_rfl) (by decide) (fun K hK => ?_)
            refine goes_ Try.func12 (by kernel_rfl) rfl #[.pointer (some ⟨p.g, 0, none⟩)] (by rfl) rfl rfl (by simp only [List.map_toArray, List.map_cons, List.map_nil]; rfl) ?_
            refine HLEN.out.mono ?_
            rintro e wl ⟨rfl, rfl⟩
            refine ⟨_, rfl, ?_⟩
            refine hK.out _ _ (HS.out) (fun hHeld => ?_)
            clear hK K
            refine norm_ (a' := ?_) ?_ ?_
            rotate_left
            · show Act.put _ (some 141) _ = _
              simp only [Act.put, List.setIfInBounds_toArray, List.set_cons_zero, List.set_cons_succ, i64_w, i32_w]
              rfl
            refine pure_ (i := 10) (N := some 147) (v := ?_) (a' := ?_) #[true, true, true, true, true, true, true, true, true, true, true, false] rfl rfl (by kernel_rfl) (fun _ _ _ h => h) (Or.inl ⟨by rfl, ?_⟩) ?_ ?_
            rotate_left
            · intro w'
              go_simp
              with_reducible rfl
            rotate_left
            · simp only [Act.put, List.setIfInBounds_toArray, List.set_cons_zero, List.set_cons_succ, i64_w, i32_w]
              rfl
            refine pure_ (i := 11) (N := some 148) (v := ?_) (a' := ?_) #[true, true, true, true, true, true, true, true, true, true, true, true] rfl rfl (by kernel_rfl) (fun _ _ _ h => h) (Or.inl ⟨by rfl, ?_⟩) ?_ ?_
            rotate_left
            · intro w'
              go_simp
              with_reducible rfl
            rotate_left
            · simp only [Act.put, List.setIfInBounds_toArray, List.set_cons_zero, List.set_cons_succ, i64_w, i32_w]
              rfl
            refine done_ (by kernel_rfl) ?_
            clear hHeld
            go_wp2_with fail
            go_roundw
            case rel => exact ⟨j + 1, _, _, xe, rfl, by omega, by omega, HIE.out, HVE.out, by rw [show (j + 1).toNat = j.toNat + 1 by omega]; exact HLE.out⟩
            case measure => simp [intOf]; omega
      have e1 : (kd == 1) = false := by simpa using k1
      have e2 : (kd == 2) = false := by simpa using k2
      have e3 : (kd == 3) = false := by simpa using k3
      have e4 : (kd == 4) = false := by simpa using k4
      go_wp2_with (first | ((with_reducible refine gate_dst (N := 45) rfl ?_); refine wpList_load_at rfl 50 (.tmp 44) rfl (ad.add (j.toNat * 3)) rfl _ _ HC45.out Try.underlying50 rfl (by kernel_rfl) ?_) | ((with_reducible refine gate_dst (N := 9) rfl ?_); refine box_event ?hg (N := 9) ?hd (cs := #[.int .i64 0, .int .i64 0, .slice none 0 0]) (t := 50) ?hr ?_; (case hd => rfl); (case hg => rfl); (case hr => first | (go_simp; done) | (go_simp; rfl)); intro g9 hg w4 hz hb; have HG9 := Lib.hid hg; have HZ4 := Lib.hid hz; have HB4 := Lib.hid hb; clear hg hz hb) | (refine wpList_store_row rfl rfl 50 (.tmp 9) (.tmp 45) rfl (g := g9) rfl rfl HZ4.out (by kernel_rfl) rfl (one3 _ _ _ _ _) ?_; intro w5 hz hg; have hb5 := Below.grown HB4.out hg HB4.out.size (fun b e => by injection e with e; have := HG9.out; omega); have HB5 := Lib.hid hb5; have HI5 := Lib.hid (HI.out.below HPB.out.symm hb5); have HZ9 := Lib.hid hz; have i90 := blk_cell hz 0; have i91 := blk_cell hz 1; have i92 := blk_cell hz 2; have i7 := blk_cell HI5.out.1.2.2 0; clear hz hg hb5))
      obtain ⟨xe, hxe⟩ : ∃ xe, xe = xs := ⟨_, rfl⟩
      have hIe : p.I w w5 v vr xe xe := by rw [hxe]; exact HI5.out
      have HVE := Lib.hid (show ∀ x ∈ xe, x.f1.f12.length ≤ 1048576 by rw [hxe]; exact HXV.out)
      have HLE := Lib.hid (show xe.length ≤ ((l.take (j.toNat + 1)).map wt50).sum by rw [hxe, HWT.out]; exact by have := HXL.out; omega)
      clear hxe
      obtain ⟨Ar, cr, hvr⟩ := hIe.2.2.1.slice
      have HLEN := Lib.hid (Len_calls p.g p.base xe w5.drew _ v (hIe.2.1.below (below_drew1 (Below.refl _ _))))
      have HS := Lib.hid (show w5.drew.cell? ⟨p.g7, 0, none⟩ = some (.pointer (some ⟨p.r, 0, none⟩)) ∧ w5.drew.cell? ⟨p.r, 0, none⟩ = some (.slice Ar xe.length cr) from ⟨(blk_cell hIe.1.2.2 0).trans rfl, (blk_cell hIe.2.2.1.1 0).trans (by rw [hvr]; rfl)⟩)
      have HIE := Lib.hid (hIe.below HPB.out.symm (below_drew1 (Below.refl _ _)))
      have hnn : ((xe.length : Int) != (xe.length : Int)) = false := by simp
      clear hIe
      refine start_ (n := 12) (S := fun w' => w'.cell? ⟨p.g7, 0, none⟩ = some (.pointer (some ⟨p.r, 0, none⟩)) ∧ w'.cell? ⟨p.r, 0, none⟩ = some (.slice Ar xe.length cr)) (ds := []) #[false, false, false, false, false, false, false, false, false, false, false, false] (by kernel_rfl) rfl rfl (HS.out) (fun hHeld => ?_)
      refine pure_ (i := 0) (N := some 137) (v := ?_) (a' := ?_) #[true, false, false, false, false, false, false, false, false, false, false, false] rfl rfl (by kernel_rfl) (fun _ _ _ h => h) (Or.inl ⟨by rfl, ?_⟩) ?_ ?_
      rotate_left
      · intro w'
        go_simp
        with_reducible rfl
      rotate_left
      · simp only [Act.put, List.setIfInBounds_toArray, List.set_cons_zero, List.set_cons_succ, i64_w, i32_w]
        rfl
      refine pure_ (i := 1) (N := some 138) (v := ?_) (a' := ?_) #[true, true, false, false, false, false, false, false, false, false, false, false] rfl rfl (by kernel_rfl) (fun _ _ _ h => h) (Or.inl ⟨by rfl, ?_⟩) ?_ ?_
      rotate_left
      · intro w'
        go_simp
        with_reducible rfl
      rotate_left
      · simp only [Act.put, List.setIfInBounds_toArray, List.set_cons_zero, List.set_cons_succ, i64_w, i32_w]
        rfl
      refine pure_ (i := 2) (N := some 139) (v := ?_) (a' := ?_) #[true, true, true, false, false, false, false, false, false, false, false, false] rfl rfl (by kernel_rfl) (fun _ _ _ h => h) (Or.inl ⟨by rfl, ?_⟩) ?_ ?_
      rotate_left
      · intro w'
        go_simp
        with_reducible rfl
      rotate_left
      · simp only [Act.put, List.setIfInBounds_toArray, List.set_cons_zero, List.set_cons_succ, i64_w, i32_w]
        rfl
      refine pure_ (i := 3) (N := some 140) (v := ?_) (a' := ?_) #[true, true, true, true, false, false, false, false, false, false, false, false] rfl rfl (by kernel_rfl) (fun _ _ _ h => h) (Or.inl ⟨by rfl, ?_⟩) ?_ ?_
      rotate_left
      · intro w'
        go_simp
        with_reducible rfl
      rotate_left
      · simp only [Act.put, List.setIfInBounds_toArray, List.set_cons_zero, List.set_cons_succ, i64_w, i32_w]
        rfl
      refine take_ (i := 5) (N := some 142) (v := ?_) (a' := ?_) #[true, true, true, true, false, true, false, false, false, false, false, false] rfl rfl (by kernel_rfl) (fun _ _ _ h => h) (Or.inl ⟨by rfl, ?_⟩) hHeld ?_ ?_
      rotate_left
      · rintro w' ⟨s0, s1⟩
        go_simp
        with_reducible rfl
      rotate_left
      · simp only [Act.put, List.setIfInBounds_toArray, List.set_cons_zero, List.set_cons_succ, i64_w, i32_w]
        rfl
      refine pure_ (i := 6) (N := some 143) (v := ?_) (a' := ?_) #[true, true, true, true, false, true, true, false, false, false, false, false] rfl rfl (by kernel_rfl) (fun _ _ _ h => h) (Or.inl ⟨by rfl, ?_⟩) ?_ ?_
      rotate_left
      · intro w'
        go_simp
        with_reducible rfl
      rotate_left
      · simp only [Act.put, List.setIfInBounds_toArray, List.set_cons_zero, List.set_cons_succ, i64_w, i32_w]
        rfl
      refine pure_ (i := 7) (N := some 144) (v := ?_) (a' := ?_) #[true, true, true, true, false, true, true, true, false, false, false, false] rfl rfl (by kernel_rfl) (fun _ _ _ h => h) (Or.inl ⟨by rfl, ?_⟩) ?_ ?_
      rotate_left
      · intro w'
        go_simp
        with_reducible rfl
      rotate_left
      · simp only [Act.put, List.setIfInBounds_toArray, List.set_cons_zero, List.set_cons_succ, i64_w, i32_w]
        rfl
      refine take_ (i := 8) (N := some 145) (v := ?_) (a' := ?_) #[true, true, true, true, false, true, true, true, true, false, false, false] rfl rfl (by kernel_rfl) (fun _ _ _ h => h) (Or.inl ⟨by rfl, ?_⟩) hHeld ?_ ?_
      rotate_left
      · rintro w' ⟨s0, s1⟩
        go_simp
        with_reducible rfl
      rotate_left
      · simp only [Act.put, List.setIfInBounds_toArray, List.set_cons_zero, List.set_cons_succ, i64_w, i32_w]
        rfl
      refine pure_ (i := 9) (N := some 146) (v := ?_) (a' := ?_) #[true, true, true, true, false, true, true, true, true, true, false, false] rfl rfl (by kernel_rfl) (fun _ _ _ h => h) (Or.inl ⟨by rfl, ?_⟩) ?_ ?_
      rotate_left
      · intro w'
        go_simp
        with_reducible rfl
      rotate_left
      · simp only [Act.put, List.setIfInBounds_toArray, List.set_cons_zero, List.set_cons_succ, i64_w, i32_w]
        rfl
      refine one_ (i := 4) (N := some 141) #[true, true, true, true, true, true, true, true, true, true, false, false] rfl rfl (by kernel_rfl) (by decide) (fun K hK => ?_)
      refine goes_ Try.func12 (by kernel_rfl) rfl #[.pointer (some ⟨p.g, 0, none⟩)] (by rfl) rfl rfl (by simp only [List.map_toArray, List.map_cons, List.map_nil]; rfl) ?_
      refine HLEN.out.mono ?_
      rintro e wl ⟨rfl, rfl⟩
      refine ⟨_, rfl, ?_⟩
      refine hK.out _ _ (HS.out) (fun hHeld => ?_)
      clear hK K
      refine norm_ (a' := ?_) ?_ ?_
      rotate_left
      · show Act.put _ (some 141) _ = _
        simp only [Act.put, List.setIfInBounds_toArray, List.set_cons_zero, List.set_cons_succ, i64_w, i32_w]
        rfl
      refine pure_ (i := 10) (N := some 147) (v := ?_) (a' := ?_) #[true, true, true, true, true, true, true, true, true, true, true, false] rfl rfl (by kernel_rfl) (fun _ _ _ h => h) (Or.inl ⟨by rfl, ?_⟩) ?_ ?_
      rotate_left
      · intro w'
        go_simp
        with_reducible rfl
      rotate_left
      · simp only [Act.put, List.setIfInBounds_toArray, List.set_cons_zero, List.set_cons_succ, i64_w, i32_w]
        rfl
      refine pure_ (i := 11) (N := some 148) (v := ?_) (a' := ?_) #[true, true, true, true, true, true, true, true, true, true, true, true] rfl rfl (by kernel_rfl) (fun _ _ _ h => h) (Or.inl ⟨by rfl, ?_⟩) ?_ ?_
      rotate_left
      · intro w'
        go_simp
        with_reducible rfl
      rotate_left
      · simp only [Act.put, List.setIfInBounds_toArray, List.set_cons_zero, List.set_cons_succ, i64_w, i32_w]
        rfl
      refine done_ (by kernel_rfl) ?_
      clear hHeld
      go_wp2_with fail
      go_roundw
      case rel => exact ⟨j + 1, _, _, xe, rfl, by omega, by omega, HIE.out, HVE.out, by rw [show (j + 1).toNat = j.toNat + 1 by omega]; exact HLE.out⟩
      case measure => simp [intOf]; omega
    · have hjj : j = l.length := by omega
      have hdj : decide (j < (l.length : Int)) = false := by simp; omega
      have hxb : xs.length ≤ 1048576 := by have := wt_take l j.toNat; have := HL.out; omega
      have HXB := Lib.hid hxb
      clear hI hxv hxl hj hxb
      obtain ⟨Ar, cr, rfl⟩ := HI.out.2.2.1.slice
      go_wp2_with (go_at_call 20; refine (All_calls (some ⟨p.g, 0, none⟩) _).mono ?_; rintro e w9 ⟨rfl, rfl⟩)
      refine (wpIn_wide (n := 6)).1 ?_
      obtain ⟨W2, hW2⟩ : ∃ W2, W2 = (wr.alloc (.cells #[.int .i64 0] 3)).alloc (.cells #[.pointer (some ⟨p.g, 0, none⟩)] 24) := ⟨_, rfl⟩
      rw [← hW2]
      have HS2 := Lib.hid (show W2.heap.size = wr.heap.size + 2 by rw [hW2]; simp)
      have HB2 := Lib.hid (show Below wr.heap.size wr W2 from hW2 ▸ below_alloc (below_alloc (Below.refl _ _) _) _)
      have H22 := Lib.hid (show W2.heap[wr.heap.size]? = some (.cells #[.int .i64 0] 3 (0, 0)) from hW2 ▸ blk_alloc (blk_new wr _) _)
      have HBS := Lib.hid (show W2.heap[wr.heap.size + 1]? = some (.cells #[.pointer (some ⟨p.g, 0, none⟩)] 24 (0, 0)) from hW2 ▸ heap_alloc2_new wr _ _)
      clear hW2
      refine range_enter (n := 5) 30 #[.pointer (some ⟨wr.heap.size + 1, 0, none⟩)] rfl (enters_of Try.func30 (by kernel_rfl) rfl) ?_
      intro r W1 hr hpn hps has hbd htm hl hD hb1 hs1
      have HRR := Lib.hid hr
      have HPN := Lib.hid hpn
      have HL1 := Lib.hid hl
      have HD1 := Lib.hid hD
      have HBW1 := Lib.hid (HB2.out.trans (hb1.mono (by have := HS2.out; omega)))
      have HS1 := Lib.hid (show W1.heap.size = wr.heap.size + 4 by have := HS2.out; omega)
      have H221 := Lib.hid (blk_below H22.out hb1)
      have HBS1 := Lib.hid (blk_below HBS.out hb1)
      have hbx := (HI.out.2.1.bound).below HBW1.out
      have HBX := Lib.hid hbx
      have HXE := Lib.hid (show p.most = most from HHH.out)
      obtain ⟨l2, hl2⟩ : ∃ l2, l2 = W2.heap.size + 1 := ⟨_, rfl⟩
      have HL2 := Lib.hid (show l2 = wr.heap.size + 3 by have := HS2.out; omega)
      clear hl hD hb1 hs1 hbx
      rw [← hl2] at HL1 ⊢
      clear hl2
      refine (All1_in 5 l2 (wr.heap.size + 1) p.g p.base (by decide) xs v _ (fun k => k = wr.heap.size ∨ k = l2) W1 ((blk_cell HBS1.out 0).trans rfl) HBX.out (fun k hk => by have := hk.2; have := HL2.out; omega) (fun k hk => by have := HS1.out; have := HL2.out; omega) (fits_all HXV.out) (by have := HXB.out; omega)
        (fun j W' => Below wr.heap.size wr W' ∧ W'.heap[wr.heap.size]? = some (.cells #[.int .i64 (j : Int)] 3 (0, 0)) ∧ W'.heap[l2]? = some (.loop r) ∧ W'.heap[W2.heap.size]? = some (.deferred (some [])))
        (fun W' => Below wr.heap.size wr W' ∧ W'.heap[wr.heap.size]? = some (.cells #[.int .i64 most] 3 (0, 0)) ∧ (∃ r2 : Loop, W'.heap[l2]? = some (.loop r2) ∧ r2.state = .done ∧ r2.pending = some (.exit 3)) ∧ W'.heap[W2.heap.size]? = some (.deferred (some [])))
        ?hJ ?hY ?h0).mono ?post
      case hJ => exact fun j A B hj hb => ⟨hj.1.trans (hb.mono hj.1.size), blk_below hj.2.1 hb, (hb.block _ (blk_lt hj.2.2.1)).trans hj.2.2.1, (hb.block _ (blk_lt hj.2.2.2)).trans hj.2.2.2⟩
      case h0 => exact ⟨HBW1.out, H221.out, HL1.out, HD1.out⟩
      case hY =>
        intro j W3 x Ax cx hJ hjn hx hfk
        obtain ⟨ji, hji⟩ : ∃ ji : Int, (j : Int) = ji := ⟨_, rfl⟩
        have hjt : ji.toNat = j := by omega
        have hj0 : 0 ≤ ji := by omega
        have hj1 : ji ≤ 1048576 := by have := HXB.out; omega
        have hjx : ji < (xs.length : Int) := by omega
        have hd36 : decide ((xs.length : Int) ≤ ji) = false := by simp; omega
        have hne : (ji != ji) = false := by simp
        have HXX := Lib.hid (show x.f1.f12.length ≤ 1048576 by rw [hx]; exact HXV.out _ (getD_mem32 hjn))
        obtain ⟨hb3, h22, hlp, hdf⟩ := hJ
        rw [hji] at h22 ⊢
        have HJN := Lib.hid (show ((j + 1 : Nat) : Int) = ji + 1 by omega)
        have HHB3 := Lib.hid hb3
        have HH22 := Lib.hid h22
        have HHL := Lib.hid hlp
        have HHD := Lib.hid hdf
        have HFK := Lib.hid hfk
        obtain ⟨rb, hrb⟩ : ∃ rb : Loop, rb = { r with state := .busy } := ⟨_, rfl⟩
        have HRB := Lib.hid hrb
        refine round_enter rb hrb hlp HRR.out (by rw [hps]; rfl) ?_
        rw [has, hbd, htm, hps]
        -- the reference's element
        obtain ⟨ad2, cy, hA3, _, hFKy, hcy, had2⟩ := Kd.F_get (Kd.F_bound (Kd.N_F HI.out.2.2.1.2.1)) z32 ji hj0 (by omega)
        rw [hjt, ← hx] at hFKy
        obtain ⟨A8, k8, rfl, hle8, _⟩ := k32_open (Kd.FK_now hFKy)
        have HYK := Lib.hid hFKy
        have HYC := Lib.hid (fun (W : World) (hb : Below wr.heap.size wr W) => (fun t u h => (by rw [add_add]; exact pw_cell_below' hb (had2 (by decide)).2 (hcy t u h)) : ∀ t u, [.int .i64 x.f0, .int .i64 x.f1.f0, .int .i64 x.f1.f1, .int .u64 x.f1.f2, .int .i64 x.f1.f3, .int .u64 x.f1.f4, .int .u64 x.f1.f5, .int .u64 x.f1.f6, .int .i64 x.f1.f7, .int .i64 x.f1.f8, .string x.f1.f9, .string x.f1.f10, .string x.f1.f11, .slice A8 x.f1.f12.length k8][t]? = some u → W.cell? ((ad2.add (ji.toNat * 14)).add t) = some u))
        have HLE8 := Lib.hid hle8
        have HA3 := Lib.hid hA3
        clear hjt hji hrb hb3 h22 hlp hdf hfk hFKy hcy had2 hle8 hx hjn
        rw [HA3.out] at HI
        gi_wp2_with (first | ((with_reducible refine gate_dstIn (N := 24) rfl ?_); refine box_eventIn ?hg (N := 24) ?hd (cs := zS.cells) (t := 32) ?ha ?hf ?hr ?_; (case hd => rfl); (case hg => rfl); (case ha => rfl); (case hf => intro c hc; cases hc); (case hr => first | (go_simp; done) | (go_simp; rfl)); intro g24 hg w4 hz hb _; have HG24 := Lib.hid hg; have HZ4 := Lib.hid hz; have HB4 := Lib.hid hb; clear hg hz hb) | (refine wpListIn_store_row rfl rfl 32 (.tmp 24) (.tmp 152) rfl (g := g24) rfl rfl HZ4.out (by kernel_rfl) rfl (k32.K_one (Kd.FK_now HFK.out)) ?_; intro w5 hz hg; have HZ24 := Lib.hid hz; have HB5 := Lib.hid (Below.grown HB4.out hg HB4.out.size (fun b e => by injection e with e; have := HG24.out; omega)); have HFK5 := Lib.hid (Kd.FK_grown (Kd.FK_below (Kd.FK_bound HFK.out) HB4.out) hg (fun b hb e => by injection e with e; have := hb.2; have := HG24.out; omega)); clear hz hg))
        refine ⟨(HB5.out.block _ (blk_lt HHL.out)).trans HHL.out, ?_⟩
        obtain ⟨w6, hw6⟩ : ∃ w6, w6 = w5.putObj l2 (.loop rb) := ⟨_, rfl⟩
        rw [← hw6]
        have hl5 : w5.heap[l2]? = some (.loop r) := (HB5.out.block _ (blk_lt HHL.out)).trans HHL.out
        have hl6 : w6.heap[l2]? = some (.loop rb) := hw6 ▸ World.putObj_heap_same (blk_lt hl5)
        have ho6 : ∀ k, k ≠ l2 → w6.heap[k]? = w5.heap[k]? := fun k hk => hw6 ▸ World.putObj_heap_other hk
        have hs6 : w6.heap.size = w5.heap.size := by rw [hw6]; simp
        have hb6 : Below wr.heap.size wr w6 := (HHB3.out.trans (HB5.out.mono HHB3.out.size)).trans (hw6 ▸ belowK_b (w := wr) (Nat.le_refl _) w5 l2 _ _ (by have := HL2.out; omega) hl5 rfl rfl)
        have h3l : l2 < W3.heap.size := blk_lt HHL.out
        have HL6 := Lib.hid hl6
        have HO6 := Lib.hid ho6
        have HB6 := Lib.hid hb6
        have HS6 := Lib.hid hs6
        have HG24' := Lib.hid (show g24 ≠ l2 ∧ g24 < w6.heap.size from ⟨by have := HG24.out; omega, by rw [hs6]; exact blk_lt HZ24.out⟩)
        have HZ6 := Lib.hid ((ho6 g24 HG24'.out.1).trans HZ24.out)
        have H226 := Lib.hid ((ho6 wr.heap.size (by have := HL2.out; omega)).trans (blk_below HH22.out HB5.out))
        have HD6 := Lib.hid ((ho6 W2.heap.size (by have := HL2.out; have := HS2.out; omega)).trans ((HB5.out.block _ (blk_lt HHD.out)).trans HHD.out))
        have HFK6 := Lib.hid (Kd.FK_step HFK5.out (fun k hk _ => ho6 k (by have h := hk.1; have := HL2.out; have := HS1.out; omega)))
        have HK36 := Lib.hid (show Kept W3 w6 (fun k => k = wr.heap.size ∨ k = l2) from ⟨by rw [hs6]; exact HB5.out.size, fun k hk hn => (ho6 k (fun e => hn (.inr e))).trans (HB5.out.block k hk)⟩)
        have HS36 := Lib.hid (show w6.drew.cell? ⟨wr.heap.size, 0, none⟩ = some (.int .i64 ji) ∧ w6.drew.cell? ⟨p.g7, 0, none⟩ = some (.pointer (some ⟨p.r, 0, none⟩)) ∧ w6.drew.cell? ⟨p.r, 0, none⟩ = some (.slice (some ad2) xs.length cr) from ⟨(blk_cell H226.out 0).trans rfl, (blk_cell (blk_below HI.out.1.2.2 hb6) 0).trans rfl, (blk_cell (blk_below HI.out.2.2.1.1 hb6) 0).trans rfl⟩)
        have hb66 : Below w6.heap.size w6 w6.drew.drew := below_drew1 (below_drew1 (Below.refl _ _))
        have HB66 := Lib.hid hb66
        have HS38 := Lib.hid (show w6.drew.drew.rangeAt g24 0 [.int .i64 x.f0, .int .i64 x.f1.f0, .int .i64 x.f1.f1, .int .u64 x.f1.f2, .int .i64 x.f1.f3, .int .u64 x.f1.f4, .int .u64 x.f1.f5, .int .u64 x.f1.f6, .int .i64 x.f1.f7, .int .i64 x.f1.f8, .string x.f1.f9, .string x.f1.f10, .string x.f1.f11, .slice Ax x.f1.f12.length cx] ∧ w6.drew.drew.cell? ⟨p.g7, 0, none⟩ = some (.pointer (some ⟨p.r, 0, none⟩)) ∧ w6.drew.drew.cell? ⟨p.r, 0, none⟩ = some (.slice (some ad2) xs.length cr) ∧ w6.drew.drew.cell? ⟨wr.heap.size, 0, none⟩ = some (.int .i64 ji) ∧ (∀ t u, [.int .i64 x.f0, .int .i64 x.f1.f0, .int .i64 x.f1.f1, .int .u64 x.f1.f2, .int .i64 x.f1.f3, .int .u64 x.f1.f4, .int .u64 x.f1.f5, .int .u64 x.f1.f6, .int .i64 x.f1.f7, .int .i64 x.f1.f8, .string x.f1.f9, .string x.f1.f10, .string x.f1.f11, .slice A8 x.f1.f12.length k8][t]? = some u → w6.drew.drew.cell? ((ad2.add (ji.toNat * 14)).add t) = some u) from ⟨fun t u ht => by rw [Nat.zero_add, blk_cell (blk_below HZ6.out hb66) t]; simpa using ht, (blk_cell (blk_below (blk_below HI.out.1.2.2 hb6) hb66) 0).trans rfl, (blk_cell (blk_below (blk_below HI.out.2.2.1.1 hb6) hb66) 0).trans rfl, (blk_cell (blk_below H226.out hb66) 0).trans rfl, HYC.out _ (hb6.trans (hb66.mono hb6.size))⟩)
        have C16 := Lib.hid (Same16_calls Ax A8 cx k8 x w6.drew.drew HXX.out (FK_vars (Kd.FK_below HFK6.out hb66)).1 (FK_vars HFK6.out).2 (FK_vars (Kd.FK_below (Kd.FK_below HYK.out hb6) hb66)).1 HLE8.out)
        clear hl5 hl6 ho6 hb6 hs6 hw6 hb66 h3l
        gi_wp2
        refine startR_ (k := 12) (S := fun w' => w'.cell? ⟨wr.heap.size, 0, none⟩ = some (.int .i64 ji) ∧ w'.cell? ⟨p.g7, 0, none⟩ = some (.pointer (some ⟨p.r, 0, none⟩)) ∧ w'.cell? ⟨p.r, 0, none⟩ = some (.slice (some ad2) xs.length cr)) (ds := []) #[false, false, false, false, false, false, false, false, false, false, false, false] (by kernel_rfl) rfl rfl (noDefer_spec (by kernel_rfl)) (by rintro ⟨_, _, h⟩; exact h) (HS36.out) (fun hHeld => ?_)
        refine pure_ (i := 0) (N := some 153) (v := ?_) (a' := ?_) #[true, false, false, false, false, false, false, false, false, false, false, false] rfl rfl (by kernel_rfl) (fun _ _ _ h => h) (Or.inl ⟨by rfl, ?_⟩) ?_ ?_
        rotate_left
        · intro w'
          go_simp
          with_reducible rfl
        rotate_left
        · simp only [Act.put, List.setIfInBounds_toArray, List.set_cons_zero, List.set_cons_succ, i64_w, i32_w]
          rfl
        refine take_ (i := 1) (N := some 154) (v := ?_) (a' := ?_) #[true, true, false, false, false, false, false, false, false, false, false, false] rfl rfl (by kernel_rfl) (fun _ _ _ h => h) (Or.inl ⟨by rfl, ?_⟩) hHeld ?_ ?_
        rotate_left
        · rintro w' ⟨s0, s1, s2⟩
          go_simp
          with_reducible rfl
        rotate_left
        · simp only [Act.put, List.setIfInBounds_toArray, List.set_cons_zero, List.set_cons_succ, i64_w, i32_w]
          rfl
        refine pure_ (i := 2) (N := some 155) (v := ?_) (a' := ?_) #[true, true, true, false, false, false, false, false, false, false, false, false] rfl rfl (by kernel_rfl) (fun _ _ _ h => h) (Or.inl ⟨by rfl, ?_⟩) ?_ ?_
        rotate_left
        · intro w'
          go_simp
          with_reducible rfl
        rotate_left
        · simp only [Act.put, List.setIfInBounds_toArray, List.set_cons_zero, List.set_cons_succ, i64_w, i32_w]
          rfl
        refine pure_ (i := 3) (N := some 156) (v := ?_) (a' := ?_) #[true, true, true, true, false, false, false, false, false, false, false, false] rfl rfl (by kernel_rfl) (fun _ _ _ h => h) (Or.inl ⟨by rfl, ?_⟩) ?_ ?_
        rotate_left
        · intro w'
          go_simp
          with_reducible rfl
        rotate_left
        · simp only [Act.put, List.setIfInBounds_toArray, List.set_cons_zero, List.set_cons_succ, i64_w, i32_w]
          rfl
        refine take_ (i := 4) (N := some 157) (v := ?_) (a' := ?_) #[true, true, true, true, true, false, false, false, false, false, false, false] rfl rfl (by kernel_rfl) (fun _ _ _ h => h) (Or.inl ⟨by rfl, ?_⟩) hHeld ?_ ?_
        rotate_left
        · rintro w' ⟨s0, s1, s2⟩
          go_simp
          with_reducible rfl
        rotate_left
        · simp only [Act.put, List.setIfInBounds_toArray, List.set_cons_zero, List.set_cons_succ, i64_w, i32_w]
          rfl
        refine take_ (i := 5) (N := some 158) (v := ?_) (a' := ?_) #[true, true, true, true, true, true, false, false, false, false, false, false] rfl rfl (by kernel_rfl) (fun _ _ _ h => h) (Or.inl ⟨by rfl, ?_⟩) hHeld ?_ ?_
        rotate_left
        · rintro w' ⟨s0, s1, s2⟩
          go_simp
          with_reducible rfl
        rotate_left
        · simp only [Act.put, List.setIfInBounds_toArray, List.set_cons_zero, List.set_cons_succ, i64_w, i32_w]
          rfl
        refine pure_ (i := 6) (N := some 159) (v := ?_) (a' := ?_) #[true, true, true, true, true, true, true, false, false, false, false, false] rfl rfl (by kernel_rfl) (fun _ _ _ h => h) (Or.inl ⟨by rfl, ?_⟩) ?_ ?_
        rotate_left
        · intro w'
          go_simp
          with_reducible rfl
        rotate_left
        · simp only [Act.put, List.setIfInBounds_toArray, List.set_cons_zero, List.set_cons_succ, i64_w, i32_w]
          rfl
        refine pure_ (i := 7) (N := some 160) (v := ?_) (a' := ?_) #[true, true, true, true, true, true, true, true, false, false, false, false] rfl rfl (by kernel_rfl) (fun _ _ _ h => h) (Or.inl ⟨by rfl, ?_⟩) ?_ ?_
        rotate_left
        · intro w'
          go_simp
          with_reducible rfl
        rotate_left
        · simp only [Act.put, List.setIfInBounds_toArray, List.set_cons_zero, List.set_cons_succ, i64_w, i32_w]
          rfl
        refine take_ (i := 8) (N := some 161) (v := ?_) (a' := ?_) #[true, true, true, true, true, true, true, true, true, false, false, false] rfl rfl (by kernel_rfl) (fun _ _ _ h => h) (Or.inl ⟨by rfl, ?_⟩) hHeld ?_ ?_
        rotate_left
        · rintro w' ⟨s0, s1, s2⟩
          go_simp
          with_reducible rfl
        rotate_left
        · simp only [Act.put, List.setIfInBounds_toArray, List.set_cons_zero, List.set_cons_succ, i64_w, i32_w]
          rfl
        refine pure_ (i := 9) (N := some 162) (v := ?_) (a' := ?_) #[true, true, true, true, true, true, true, true, true, true, false, false] rfl rfl (by kernel_rfl) (fun _ _ _ h => h) (Or.inl ⟨by rfl, ?_⟩) ?_ ?_
        rotate_left
        · intro w'
          go_simp
          with_reducible rfl
        rotate_left
        · simp only [Act.put, List.setIfInBounds_toArray, List.set_cons_zero, List.set_cons_succ, i64_w, i32_w]
          rfl
        refine pure_ (i := 10) (N := some 163) (v := ?_) (a' := ?_) #[true, true, true, true, true, true, true, true, true, true, true, false] rfl rfl (by kernel_rfl) (fun _ _ _ h => h) (Or.inl ⟨by rfl, ?_⟩) ?_ ?_
        rotate_left
        · intro w'
          go_simp
          with_reducible rfl
        rotate_left
        · simp only [Act.put, List.setIfInBounds_toArray, List.set_cons_zero, List.set_cons_succ, i64_w, i32_w]
          rfl
        refine pure_ (i := 11) (N := some 164) (v := ?_) (a' := ?_) #[true, true, true, true, true, true, true, true, true, true, true, true] rfl rfl (by kernel_rfl) (fun _ _ _ h => h) (Or.inl ⟨by rfl, ?_⟩) ?_ ?_
        rotate_left
        · intro w'
          go_simp
          with_reducible rfl
        rotate_left
        · simp only [Act.put, List.setIfInBounds_toArray, List.set_cons_zero, List.set_cons_succ, i64_w, i32_w]
          rfl
        refine done_ (by kernel_rfl) ?_
        clear hHeld
        gi_wp2
        refine startR_ (k := 10) (S := fun w' => w'.rangeAt g24 0 [.int .i64 x.f0, .int .i64 x.f1.f0, .int .i64 x.f1.f1, .int .u64 x.f1.f2, .int .i64 x.f1.f3, .int .u64 x.f1.f4, .int .u64 x.f1.f5, .int .u64 x.f1.f6, .int .i64 x.f1.f7, .int .i64 x.f1.f8, .string x.f1.f9, .string x.f1.f10, .string x.f1.f11, .slice Ax x.f1.f12.length cx] ∧ w'.cell? ⟨p.g7, 0, none⟩ = some (.pointer (some ⟨p.r, 0, none⟩)) ∧ w'.cell? ⟨p.r, 0, none⟩ = some (.slice (some ad2) xs.length cr) ∧ w'.cell? ⟨wr.heap.size, 0, none⟩ = some (.int .i64 ji) ∧ (∀ t u, [.int .i64 x.f0, .int .i64 x.f1.f0, .int .i64 x.f1.f1, .int .u64 x.f1.f2, .int .i64 x.f1.f3, .int .u64 x.f1.f4, .int .u64 x.f1.f5, .int .u64 x.f1.f6, .int .i64 x.f1.f7, .int .i64 x.f1.f8, .string x.f1.f9, .string x.f1.f10, .string x.f1.f11, .slice A8 x.f1.f12.length k8][t]? = some u → w'.cell? ((ad2.add (ji.toNat * 14)).add t) = some u)) (ds := []) #[false, false, false, false, false, false, false, false, false, false] (by kernel_rfl) rfl rfl (noDefer_spec (by kernel_rfl)) (by rintro ⟨_, _, h⟩; exact h) (HS38.out) (fun hHeld => ?_)
        refine take_ (i := 0) (N := some 165) (v := .agg [.int .i64 x.f0, .int .i64 x.f1.f0, .int .i64 x.f1.f1, .int .u64 x.f1.f2, .int .i64 x.f1.f3, .int .u64 x.f1.f4, .int .u64 x.f1.f5, .int .u64 x.f1.f6, .int .i64 x.f1.f7, .int .i64 x.f1.f8, .string x.f1.f9, .string x.f1.f10, .string x.f1.f11, .slice Ax x.f1.f12.length cx].toArray) (a' := ?_) #[true, false, false, false, false, false, false, false, false, false] rfl rfl (by kernel_rfl) (fun _ _ _ h => h) (yieldsIf_load_mid (by rfl) 32 (.tmp 24) rfl g24 (0) rfl [.int .i64 x.f0, .int .i64 x.f1.f0, .int .i64 x.f1.f1, .int .u64 x.f1.f2, .int .i64 x.f1.f3, .int .u64 x.f1.f4, .int .u64 x.f1.f5, .int .u64 x.f1.f6, .int .i64 x.f1.f7, .int .i64 x.f1.f8, .string x.f1.f9, .string x.f1.f10, .string x.f1.f11, .slice Ax x.f1.f12.length cx] _ (fun w' h => h.1) Try.underlying32 rfl (by kernel_rfl)) hHeld ?_ ?_
        rotate_left
        · simp only [Act.put, List.setIfInBounds_toArray, List.set_cons_zero, List.set_cons_succ, i64_w, i32_w]
          rfl
        refine take_ (i := 1) (N := some 166) (v := ?_) (a' := ?_) #[true, true, false, false, false, false, false, false, false, false] rfl rfl (by kernel_rfl) (fun _ _ _ h => h) (Or.inl ⟨by rfl, ?_⟩) hHeld ?_ ?_
        rotate_left
        · rintro w' ⟨s0, s1, s2, s3, s4⟩
          go_simp
          with_reducible rfl
        rotate_left
        · simp only [Act.put, List.setIfInBounds_toArray, List.set_cons_zero, List.set_cons_succ, i64_w, i32_w]
          rfl
        refine pure_ (i := 2) (N := some 167) (v := ?_) (a' := ?_) #[true, true, true, false, false, false, false, false, false, false] rfl rfl (by kernel_rfl) (fun _ _ _ h => h) (Or.inl ⟨by rfl, ?_⟩) ?_ ?_
        rotate_left
        · intro w'
          go_simp
          with_reducible rfl
        rotate_left
        · simp only [Act.put, List.setIfInBounds_toArray, List.set_cons_zero, List.set_cons_succ, i64_w, i32_w]
          rfl
        refine pure_ (i := 3) (N := some 168) (v := ?_) (a' := ?_) #[true, true, true, true, false, false, false, false, false, false] rfl rfl (by kernel_rfl) (fun _ _ _ h => h) (Or.inl ⟨by rfl, ?_⟩) ?_ ?_
        rotate_left
        · intro w'
          go_simp
          with_reducible rfl
        rotate_left
        · simp only [Act.put, List.setIfInBounds_toArray, List.set_cons_zero, List.set_cons_succ, i64_w, i32_w]
          rfl
        refine take_ (i := 4) (N := some 169) (v := ?_) (a' := ?_) #[true, true, true, true, true, false, false, false, false, false] rfl rfl (by kernel_rfl) (fun _ _ _ h => h) (Or.inl ⟨by rfl, ?_⟩) hHeld ?_ ?_
        rotate_left
        · rintro w' ⟨s0, s1, s2, s3, s4⟩
          go_simp
          with_reducible rfl
        rotate_left
        · simp only [Act.put, List.setIfInBounds_toArray, List.set_cons_zero, List.set_cons_succ, i64_w, i32_w]
          rfl
        refine take_ (i := 5) (N := some 170) (v := ?_) (a' := ?_) #[true, true, true, true, true, true, false, false, false, false] rfl rfl (by kernel_rfl) (fun _ _ _ h => h) (Or.inl ⟨by rfl, ?_⟩) hHeld ?_ ?_
        rotate_left
        · rintro w' ⟨s0, s1, s2, s3, s4⟩
          go_simp
          with_reducible rfl
        rotate_left
        · simp only [Act.put, List.setIfInBounds_toArray, List.set_cons_zero, List.set_cons_succ, i64_w, i32_w]
          rfl
        refine pure_ (i := 6) (N := some 171) (v := ?_) (a' := ?_) #[true, true, true, true, true, true, true, false, false, false] rfl rfl (by kernel_rfl) (fun _ _ _ h => h) (Or.inl ⟨by rfl, ?_⟩) ?_ ?_
        rotate_left
        · intro w'
          go_simp
          with_reducible rfl
        rotate_left
        · simp only [Act.put, List.setIfInBounds_toArray, List.set_cons_zero, List.set_cons_succ, i64_w, i32_w]
          rfl
        refine take_ (i := 7) (N := some 172) (v := .agg [.int .i64 x.f0, .int .i64 x.f1.f0, .int .i64 x.f1.f1, .int .u64 x.f1.f2, .int .i64 x.f1.f3, .int .u64 x.f1.f4, .int .u64 x.f1.f5, .int .u64 x.f1.f6, .int .i64 x.f1.f7, .int .i64 x.f1.f8, .string x.f1.f9, .string x.f1.f10, .string x.f1.f11, .slice A8 x.f1.f12.length k8].toArray) (a' := ?_) #[true, true, true, true, true, true, true, true, false, false] rfl rfl (by kernel_rfl) (fun _ _ _ h => h) (yieldsIf_load_adr (by rfl) 32 (.tmp 171) rfl (ad2.add (ji.toNat * 14)) rfl [.int .i64 x.f0, .int .i64 x.f1.f0, .int .i64 x.f1.f1, .int .u64 x.f1.f2, .int .i64 x.f1.f3, .int .u64 x.f1.f4, .int .u64 x.f1.f5, .int .u64 x.f1.f6, .int .i64 x.f1.f7, .int .i64 x.f1.f8, .string x.f1.f9, .string x.f1.f10, .string x.f1.f11, .slice A8 x.f1.f12.length k8] _ (fun w' h => h.2.2.2.2) Try.underlying32 rfl (by kernel_rfl)) hHeld ?_ ?_
        rotate_left
        · simp only [Act.put, List.setIfInBounds_toArray, List.set_cons_zero, List.set_cons_succ, i64_w, i32_w]
          rfl
        refine one_ (i := 8) (N := some 173) #[true, true, true, true, true, true, true, true, true, false] rfl rfl (by kernel_rfl) (by decide) (fun K hK => ?_)
        refine goes_ Try.func16 (by kernel_rfl) rfl #[.agg [.int .i64 x.f0, .int .i64 x.f1.f0, .int .i64 x.f1.f1, .int .u64 x.f1.f2, .int .i64 x.f1.f3, .int .u64 x.f1.f4, .int .u64 x.f1.f5, .int .u64 x.f1.f6, .int .i64 x.f1.f7, .int .i64 x.f1.f8, .string x.f1.f9, .string x.f1.f10, .string x.f1.f11, .slice Ax x.f1.f12.length cx].toArray, .agg [.int .i64 x.f0, .int .i64 x.f1.f0, .int .i64 x.f1.f1, .int .u64 x.f1.f2, .int .i64 x.f1.f3, .int .u64 x.f1.f4, .int .u64 x.f1.f5, .int .u64 x.f1.f6, .int .i64 x.f1.f7, .int .i64 x.f1.f8, .string x.f1.f9, .string x.f1.f10, .string x.f1.f11, .slice A8 x.f1.f12.length k8].toArray] (by rfl) rfl rfl (by simp only [List.map_toArray, List.map_cons, List.map_nil]; rfl) ?_
        refine C16.out.mono ?_
        rintro e w8 ⟨rfl, hb8⟩
        refine ⟨_, rfl, ?_⟩
        refine hK.out _ _ (⟨rangeAt_below hHeld.1 hb8, pw_cell_below hb8 hHeld.2.1, pw_cell_below hb8 hHeld.2.2.1, pw_cell_below hb8 hHeld.2.2.2.1, fun t u ht => pw_cell_below hb8 (hHeld.2.2.2.2 t u ht)⟩) (fun hHeld => ?_)
        clear hK K
        refine norm_ (a' := ?_) ?_ ?_
        rotate_left
        · show Act.put _ (some 173) _ = _
          simp only [Act.put, List.setIfInBounds_toArray, List.set_cons_zero, List.set_cons_succ, i64_w, i32_w]
          rfl
        refine pure_ (i := 9) (N := some 25) (v := ?_) (a' := ?_) #[true, true, true, true, true, true, true, true, true, true] rfl rfl (by kernel_rfl) (fun _ _ _ h => h) (Or.inl ⟨by rfl, ?_⟩) ?_ ?_
        rotate_left
        · intro w'
          go_simp
          with_reducible rfl
        rotate_left
        · simp only [Act.put, List.setIfInBounds_toArray, List.set_cons_zero, List.set_cons_succ, i64_w, i32_w]
          rfl
        refine done_ (by kernel_rfl) ?_
        clear hHeld
        have hbA : Below w6.heap.size w6 w8 := HB66.out.trans ⟨hb8.os, hb8.tape, hb8.output, hb8.size, hb8.block⟩
        have h228 := blk_below H226.out hbA
        have i22 := blk_cell h228 0
        have f22 := blk_frozen h228 0
        have iM := blk_cell (blk_below (blk_below HI.out.1.1 HB6.out) hbA) 0
        have HBA := Lib.hid hbA
        have H228 := Lib.hid h228
        have hl8 : (w8.setCell ⟨wr.heap.size, 0, none⟩ (.int .i64 (ji + 1))).heap[l2]? = some (.loop rb) := (Below.heap_setCell w8 ⟨wr.heap.size, 0, none⟩ _ l2 (by show l2 ≠ wr.heap.size; have := HL2.out; omega)).trans ((hbA.block _ (blk_lt HL6.out)).trans HL6.out)
        have HL8 := Lib.hid hl8
        have HM := Lib.hid HXE.out
        clear hb8 hbA h228 hl8
        have hi23 : (w8.setCell ⟨wr.heap.size, 0, none⟩ (.int .i64 (ji + 1))).cell? ⟨wr.heap.size, 0, none⟩ = some (.int .i64 (ji + 1)) := (blk_cell (blk_set H228.out 0 _) 0).trans rfl
        have hiM3 : (w8.setCell ⟨wr.heap.size, 0, none⟩ (.int .i64 (ji + 1))).cell? ⟨p.gM, 0, none⟩ = some (.int .i64 p.most) := (blk_cell (blk_far (blk_below (blk_below HI.out.1.1 HB6.out) HBA.out) (p := ⟨wr.heap.size, 0, none⟩) (by show p.gM ≠ wr.heap.size; have := blk_lt HI.out.1.1; omega) _) 0).trans rfl
        have hbw8 : Below wr.heap.size wr (w8.setCell ⟨wr.heap.size, 0, none⟩ (.int .i64 (ji + 1))) := (HB6.out.trans (HBA.out.mono HB6.out.size)).setCell (p := ⟨wr.heap.size, 0, none⟩) (Nat.le_refl _) _
        have hd8 : (w8.setCell ⟨wr.heap.size, 0, none⟩ (.int .i64 (ji + 1))).heap[W2.heap.size]? = some (.deferred (some [])) := (Below.heap_setCell w8 ⟨wr.heap.size, 0, none⟩ _ W2.heap.size (by show W2.heap.size ≠ wr.heap.size; have := HS2.out; omega)).trans ((HBA.out.block _ (blk_lt HD6.out)).trans HD6.out)
        have hk8 : Kept W3 (w8.setCell ⟨wr.heap.size, 0, none⟩ (.int .i64 (ji + 1))) (fun k => k = wr.heap.size ∨ k = l2) := Kept.setCell (p := ⟨wr.heap.size, 0, none⟩) ⟨Nat.le_trans HK36.out.1 HBA.out.size, fun k hk hn => (HBA.out.block k (Nat.lt_of_lt_of_le hk HK36.out.1)).trans (HK36.out.2 k hk hn)⟩ (.inl (.inl rfl)) _
        have hz8 := blk_set H228.out 0 (.int .i64 (ji + 1))
        by_cases hm : ji + 1 = p.most
        · have he : (ji + 1 == p.most) = true := by simpa using hm
          have HMM := Lib.hid hm
          clear hm
          gi_wp2
          have hln := HL2.out
          have hs2n := HS2.out
          refine round_leaves 3 HL8.out (.inr ⟨rfl, hbw8.trans (belowK_b (w := wr) (Nat.le_refl _) _ l2 _ _ (by omega) HL8.out rfl rfl), ?_, ⟨_, World.putObj_heap_same (blk_lt HL8.out), rfl, rfl⟩, (World.putObj_heap_other (by omega)).trans hd8⟩)
          rw [← HXE.out, ← HMM.out]
          exact (World.putObj_heap_other (by omega)).trans hz8
        · have he : (ji + 1 == p.most) = false := by simpa using hm
          clear hm
          gi_wp2
          have hln := HL2.out
          have hs2n := HS2.out
          refine round_goes HL8.out (.inl ⟨rfl, ⟨hbw8.trans (belowK_b (w := wr) (Nat.le_refl _) _ l2 _ _ (by omega) HL8.out rfl rfl), ?_, ?_, (World.putObj_heap_other (by omega)).trans hd8⟩, ?_⟩)
          · rw [show ((j : Int) + 1) = ji + 1 by have := HJN.out; omega]
            exact (World.putObj_heap_other (by omega)).trans hz8
          · rw [rec_back HRB.out HRR.out HPN.out]
            exact World.putObj_heap_same (blk_lt HL8.out)
          · exact ⟨by rw [World.putObj_size]; exact hk8.1, fun k hk hn => (World.putObj_heap_other (fun e => hn (.inr e))).trans (hk8.2 k hk hn)⟩
      case post =>
        rintro e W4 ⟨⟨ve, rfl⟩, h4⟩
        have hmain : ∀ (n : Int) (W5 : World), n = (xs.length : Int) ∨ n = most → Below wr.heap.size wr W5 → W5.heap[wr.heap.size]? = some (.cells #[.int .i64 n] 3 (0, 0)) → W5.heap[W2.heap.size]? = some (.deferred (some [])) → True := fun _ _ _ _ _ _ => trivial
        clear hmain
        rcases h4 with ⟨hb4, h22, hlp, hdf⟩ | ⟨hb4, h22, ⟨r2, hlp, hst, hpd⟩, hdf⟩
        · refine ⟨⟨_, rfl⟩, r, hlp, by rw [HRR.out]; decide, ?_⟩
          intro W5 hW5
          rw [HPN.out]
          dsimp only
          have hnn : ((xs.length : Int) == (xs.length : Int)) = true := by simp
          have hln := HL2.out
          have hs2n := HS2.out
          have hb5 : Below wr.heap.size wr W5 := hb4.trans (hW5 ▸ belowK_b (w := wr) (Nat.le_refl _) W4 l2 _ _ (by omega) hlp rfl rfl)
          have h225 : W5.heap[wr.heap.size]? = some (.cells #[.int .i64 (xs.length : Int)] 3 (0, 0)) := (hW5 ▸ World.putObj_heap_other (by omega) : W5.heap[wr.heap.size]? = W4.heap[wr.heap.size]?).trans h22
          have hd5 : W5.heap[W2.heap.size]? = some (.deferred (some [])) := (hW5 ▸ World.putObj_heap_other (by omega) : W5.heap[W2.heap.size]? = W4.heap[W2.heap.size]?).trans hdf
          have HB5 := Lib.hid hb5
          have HDF := Lib.hid hd5
          have hgR : p.gR < wr.heap.size := blk_lt HI.out.1.2.1
          have HGR := Lib.hid (show p.gR < wr.heap.size ∧ p.base ≤ p.gR from ⟨hgR, HOK.out.2.2.2.2.2.2.1⟩)
          have HZR := Lib.hid (show W5.drew.heap[p.gR]? = some (.cells #[.bool false] 4 (0, 0)) from (show W5.heap[p.gR]? = some _ from blk_below HI.out.1.2.1 hb5))
          have HS43 := Lib.hid (show W5.drew.cell? ⟨wr.heap.size, 0, none⟩ = some (.int .i64 (xs.length : Int)) ∧ W5.drew.cell? ⟨p.g7, 0, none⟩ = some (.pointer (some ⟨p.r, 0, none⟩)) ∧ W5.drew.cell? ⟨p.r, 0, none⟩ = some (.slice Ar xs.length cr) ∧ W5.drew.cell? ⟨p.gM, 0, none⟩ = some (.int .i64 most) from ⟨(blk_cell h225 0).trans rfl, (blk_cell (blk_below HI.out.1.2.2 hb5) 0).trans rfl, (blk_cell (blk_below HI.out.2.2.1.1 hb5) 0).trans rfl, (blk_cell (blk_below HI.out.1.1 hb5) 0).trans (by rw [HXE.out]; rfl)⟩)
          clear hb5 h225 hd5 hW5 hlp h22 hdf hb4 hgR hln hs2n
          go_wp2_with fail
          refine start_ (n := 13) (S := fun w' => w'.cell? ⟨wr.heap.size, 0, none⟩ = some (.int .i64 (xs.length : Int)) ∧ w'.cell? ⟨p.g7, 0, none⟩ = some (.pointer (some ⟨p.r, 0, none⟩)) ∧ w'.cell? ⟨p.r, 0, none⟩ = some (.slice Ar xs.length cr) ∧ w'.cell? ⟨p.gM, 0, none⟩ = some (.int .i64 most)) (ds := [12]) #[false, false, false, false, false, false, false, false, false, false, false, false, false] (by kernel_rfl) rfl rfl (HS43.out) (fun hHeld => ?_)
          refine take_ (i := 0) (N := some 181) (v := ?_) (a' := ?_) #[true, false, false, false, false, false, false, false, false, false, false, false, false] rfl rfl (by kernel_rfl) (fun _ _ _ h => h) (Or.inl ⟨by rfl, ?_⟩) hHeld ?_ ?_
          rotate_left
          · rintro w' ⟨s0, s1, s2, s3⟩
            go_simp
            with_reducible rfl
          rotate_left
          · simp only [Act.put, List.setIfInBounds_toArray, List.set_cons_zero, List.set_cons_succ, i64_w, i32_w]
            rfl
          refine take_ (i := 1) (N := some 182) (v := ?_) (a' := ?_) #[true, true, false, false, false, false, false, false, false, false, false, false, false] rfl rfl (by kernel_rfl) (fun _ _ _ h => h) (Or.inl ⟨by rfl, ?_⟩) hHeld ?_ ?_
          rotate_left
          · rintro w' ⟨s0, s1, s2, s3⟩
            go_simp
            with_reducible rfl
          rotate_left
          · simp only [Act.put, List.setIfInBounds_toArray, List.set_cons_zero, List.set_cons_succ, i64_w, i32_w]
            rfl
          refine pure_ (i := 2) (N := some 183) (v := ?_) (a' := ?_) #[true, true, true, false, false, false, false, false, false, false, false, false, false] rfl rfl (by kernel_rfl) (fun _ _ _ h => h) (Or.inl ⟨by rfl, ?_⟩) ?_ ?_
          rotate_left
          · intro w'
            go_simp
            with_reducible rfl
          rotate_left
          · simp only [Act.put, List.setIfInBounds_toArray, List.set_cons_zero, List.set_cons_succ, i64_w, i32_w]
            rfl
          refine pure_ (i := 3) (N := some 184) (v := ?_) (a' := ?_) #[true, true, true, true, false, false, false, false, false, false, false, false, false] rfl rfl (by kernel_rfl) (fun _ _ _ h => h) (Or.inl ⟨by rfl, ?_⟩) ?_ ?_
          rotate_left
          · intro w'
            go_simp
            with_reducible rfl
          rotate_left
          · simp only [Act.put, List.setIfInBounds_toArray, List.set_cons_zero, List.set_cons_succ, i64_w, i32_w]
            rfl
          refine take_ (i := 4) (N := some 185) (v := ?_) (a' := ?_) #[true, true, true, true, true, false, false, false, false, false, false, false, false] rfl rfl (by kernel_rfl) (fun _ _ _ h => h) (Or.inl ⟨by rfl, ?_⟩) hHeld ?_ ?_
          rotate_left
          · rintro w' ⟨s0, s1, s2, s3⟩
            go_simp
            with_reducible rfl
          rotate_left
          · simp only [Act.put, List.setIfInBounds_toArray, List.set_cons_zero, List.set_cons_succ, i64_w, i32_w]
            rfl
          refine pure_ (i := 5) (N := some 186) (v := ?_) (a' := ?_) #[true, true, true, true, true, true, false, false, false, false, false, false, false] rfl rfl (by kernel_rfl) (fun _ _ _ h => h) (Or.inl ⟨by rfl, ?_⟩) ?_ ?_
          rotate_left
          · intro w'
            go_simp
            with_reducible rfl
          rotate_left
          · simp only [Act.put, List.setIfInBounds_toArray, List.set_cons_zero, List.set_cons_succ, i64_w, i32_w]
            rfl
          refine pure_ (i := 6) (N := some 187) (v := ?_) (a' := ?_) #[true, true, true, true, true, true, true, false, false, false, false, false, false] rfl rfl (by kernel_rfl) (fun _ _ _ h => h) (Or.inl ⟨by rfl, ?_⟩) ?_ ?_
          rotate_left
          · intro w'
            go_simp
            with_reducible rfl
          rotate_left
          · simp only [Act.put, List.setIfInBounds_toArray, List.set_cons_zero, List.set_cons_succ, i64_w, i32_w]
            rfl
          refine pure_ (i := 7) (N := some 188) (v := ?_) (a' := ?_) #[true, true, true, true, true, true, true, true, false, false, false, false, false] rfl rfl (by kernel_rfl) (fun _ _ _ h => h) (Or.inl ⟨by rfl, ?_⟩) ?_ ?_
          rotate_left
          · intro w'
            go_simp
            with_reducible rfl
          rotate_left
          · simp only [Act.put, List.setIfInBounds_toArray, List.set_cons_zero, List.set_cons_succ, i64_w, i32_w]
            rfl
          refine pure_ (i := 8) (N := some 189) (v := undef) (a' := ?_) #[true, true, true, true, true, true, true, true, true, false, false, false, false] rfl rfl (by kernel_rfl) (fun _ _ _ h => h) (Or.inr ⟨by rfl, rfl⟩) ?_ ?_
          rotate_left
          · simp only [Act.put, List.setIfInBounds_toArray, List.set_cons_zero, List.set_cons_succ, i64_w, i32_w]
            rfl
          refine pure_ (i := 9) (N := some 190) (v := undef) (a' := ?_) #[true, true, true, true, true, true, true, true, true, true, false, false, false] rfl rfl (by kernel_rfl) (fun _ _ _ h => h) (Or.inr ⟨by rfl, rfl⟩) ?_ ?_
          rotate_left
          · simp only [Act.put, List.setIfInBounds_toArray, List.set_cons_zero, List.set_cons_succ, i64_w, i32_w]
            rfl
          refine pure_ (i := 10) (N := some 191) (v := undef) (a' := ?_) #[true, true, true, true, true, true, true, true, true, true, true, false, false] rfl rfl (by kernel_rfl) (fun _ _ _ h => h) (Or.inr ⟨by rfl, rfl⟩) ?_ ?_
          rotate_left
          · simp only [Act.put, List.setIfInBounds_toArray, List.set_cons_zero, List.set_cons_succ, i64_w, i32_w]
            rfl
          refine pure_ (i := 11) (N := some 192) (v := ?_) (a' := ?_) #[true, true, true, true, true, true, true, true, true, true, true, true, false] rfl rfl (by kernel_rfl) (fun _ _ _ h => h) (Or.inl ⟨by rfl, ?_⟩) ?_ ?_
          rotate_left
          · intro w'
            go_simp
            with_reducible rfl
          rotate_left
          · simp only [Act.put, List.setIfInBounds_toArray, List.set_cons_zero, List.set_cons_succ, i64_w, i32_w]
            rfl
          refine last_ (i := 12) (N := none) #[true, true, true, true, true, true, true, true, true, true, true, true, true] rfl rfl (by kernel_rfl) (by decide) (fun K hK => ?_)
          have hcR := blk_cell HZR.out 0
          have hfR := blk_frozen HZR.out 0
          refine skip_ (w1 := W5.drew.setCell ⟨p.gR, 0, none⟩ (.bool true)) (by rfl) rfl (by go_simp) ?_
          clear hcR hfR
          refine hK.out _ _ ?_
          clear hK K
          refine done_ (by kernel_rfl) ?_
          clear hHeld
          go_wp2_with fail
          show bodyPostM _ _ _ _ _ Exit.ret _ _
          have hs2n := HS2.out
          have hgr := HGR.out
          have hwb := HI.out.2.2.2.1
          have hpb := HPB.out
          have hws := hwb.size
          have hK : (W5.drew.setCell ⟨p.gR, 0, none⟩ (.bool true)).heap[W2.heap.size]? = some (.deferred (some [])) := (Below.heap_setCell W5.drew ⟨p.gR, 0, none⟩ _ W2.heap.size (by show W2.heap.size ≠ p.gR; omega)).trans HDF.out
          have hz : ((W5.drew.setCell ⟨p.gR, 0, none⟩ (.bool true)).putObj W2.heap.size (.deferred none)).cell? ⟨p.gR, 0, none⟩ = some (.bool true) := (blk_cell ((World.putObj_heap_other (by omega)).trans (blk_set HZR.out 0 _)) 0).trans rfl
          have hbX : Below p.base w (W5.drew.setCell ⟨p.gR, 0, none⟩ (.bool true)) := ((hwb.trans (HB5.out.mono (show p.base ≤ wr.heap.size by omega))).trans ((below_drew1 (Below.refl W5.heap.size W5)).mono (show p.base ≤ W5.heap.size by have := HB5.out.size; omega))).setCell (p := ⟨p.gR, 0, none⟩) hgr.2 _
          generalize W5.drew.setCell ⟨p.gR, 0, none⟩ (.bool true) = X at hK hz hbX ⊢
          refine ⟨by simp, .inl ⟨_, _, rfl, run_takeDeferred hK, ?_⟩⟩
          refine ⟨.bool true, ?_, rfl, ?_⟩
          · simp [results, Try.f6, go_sem, hz]
          · rw [← hpb]
            exact hbX.trans (belowK_b (w := w) (by omega) _ W2.heap.size _ _ (by omega) hK rfl rfl)
        · refine ⟨⟨_, rfl⟩, r2, hlp, by rw [hst]; decide, ?_⟩
          intro W5 hW5
          rw [hpd]
          dsimp only
          by_cases hm : most = (xs.length : Int)
          · have hnn : (most == (xs.length : Int)) = true := by simpa using hm
            clear hm
            refine wpIn_wide.2 ?_
            have hln := HL2.out
            have hs2n := HS2.out
            have hb5 : Below wr.heap.size wr W5 := hb4.trans (hW5 ▸ belowK_b (w := wr) (Nat.le_refl _) W4 l2 _ _ (by omega) hlp rfl rfl)
            have h225 : W5.heap[wr.heap.size]? = some (.cells #[.int .i64 most] 3 (0, 0)) := (hW5 ▸ World.putObj_heap_other (by omega) : W5.heap[wr.heap.size]? = W4.heap[wr.heap.size]?).trans h22
            have hd5 : W5.heap[W2.heap.size]? = some (.deferred (some [])) := (hW5 ▸ World.putObj_heap_other (by omega) : W5.heap[W2.heap.size]? = W4.heap[W2.heap.size]?).trans hdf
            have HB5 := Lib.hid hb5
            have HDF := Lib.hid hd5
            have hgR : p.gR < wr.heap.size := blk_lt HI.out.1.2.1
            have HGR := Lib.hid (show p.gR < wr.heap.size ∧ p.base ≤ p.gR from ⟨hgR, HOK.out.2.2.2.2.2.2.1⟩)
            have HZR := Lib.hid (show W5.drew.heap[p.gR]? = some (.cells #[.bool false] 4 (0, 0)) from (show W5.heap[p.gR]? = some _ from blk_below HI.out.1.2.1 hb5))
            have HS43 := Lib.hid (show W5.drew.cell? ⟨wr.heap.size, 0, none⟩ = some (.int .i64 most) ∧ W5.drew.cell? ⟨p.g7, 0, none⟩ = some (.pointer (some ⟨p.r, 0, none⟩)) ∧ W5.drew.cell? ⟨p.r, 0, none⟩ = some (.slice Ar xs.length cr) ∧ W5.drew.cell? ⟨p.gM, 0, none⟩ = some (.int .i64 most) from ⟨(blk_cell h225 0).trans rfl, (blk_cell (blk_below HI.out.1.2.2 hb5) 0).trans rfl, (blk_cell (blk_below HI.out.2.2.1.1 hb5) 0).trans rfl, (blk_cell (blk_below HI.out.1.1 hb5) 0).trans (by rw [HXE.out]; rfl)⟩)
            clear hb5 h225 hd5 hW5 hlp h22 hdf hb4 hgR hln hs2n
            go_wp2_with fail
            refine start_ (n := 13) (S := fun w' => w'.cell? ⟨wr.heap.size, 0, none⟩ = some (.int .i64 most) ∧ w'.cell? ⟨p.g7, 0, none⟩ = some (.pointer (some ⟨p.r, 0, none⟩)) ∧ w'.cell? ⟨p.r, 0, none⟩ = some (.slice Ar xs.length cr) ∧ w'.cell? ⟨p.gM, 0, none⟩ = some (.int .i64 most)) (ds := [12]) #[false, false, false, false, false, false, false, false, false, false, false, false, false] (by kernel_rfl) rfl rfl (HS43.out) (fun hHeld => ?_)
            refine take_ (i := 0) (N := some 181) (v := ?_) (a' := ?_) #[true, false, false, false, false, false, false, false, false, false, false, false, false] rfl rfl (by kernel_rfl) (fun _ _ _ h => h) (Or.inl ⟨by rfl, ?_⟩) hHeld ?_ ?_
            rotate_left
            · rintro w' ⟨s0, s1, s2, s3⟩
              go_simp
              with_reducible rfl
            rotate_left
            · simp only [Act.put, List.setIfInBounds_toArray, List.set_cons_zero, List.set_cons_succ, i64_w, i32_w]
              rfl
            refine take_ (i := 1) (N := some 182) (v := ?_) (a' := ?_) #[true, true, false, false, false, false, false, false, false, false, false, false, false] rfl rfl (by kernel_rfl) (fun _ _ _ h => h) (Or.inl ⟨by rfl, ?_⟩) hHeld ?_ ?_
            rotate_left
            · rintro w' ⟨s0, s1, s2, s3⟩
              go_simp
              with_reducible rfl
            rotate_left
            · simp only [Act.put, List.setIfInBounds_toArray, List.set_cons_zero, List.set_cons_succ, i64_w, i32_w]
              rfl
            refine pure_ (i := 2) (N := some 183) (v := ?_) (a' := ?_) #[true, true, true, false, false, false, false, false, false, false, false, false, false] rfl rfl (by kernel_rfl) (fun _ _ _ h => h) (Or.inl ⟨by rfl, ?_⟩) ?_ ?_
            rotate_left
            · intro w'
              go_simp
              with_reducible rfl
            rotate_left
            · simp only [Act.put, List.setIfInBounds_toArray, List.set_cons_zero, List.set_cons_succ, i64_w, i32_w]
              rfl
            refine pure_ (i := 3) (N := some 184) (v := ?_) (a' := ?_) #[true, true, true, true, false, false, false, false, false, false, false, false, false] rfl rfl (by kernel_rfl) (fun _ _ _ h => h) (Or.inl ⟨by rfl, ?_⟩) ?_ ?_
            rotate_left
            · intro w'
              go_simp
              with_reducible rfl
            rotate_left
            · simp only [Act.put, List.setIfInBounds_toArray, List.set_cons_zero, List.set_cons_succ, i64_w, i32_w]
              rfl
            refine take_ (i := 4) (N := some 185) (v := ?_) (a' := ?_) #[true, true, true, true, true, false, false, false, false, false, false, false, false] rfl rfl (by kernel_rfl) (fun _ _ _ h => h) (Or.inl ⟨by rfl, ?_⟩) hHeld ?_ ?_
            rotate_left
            · rintro w' ⟨s0, s1, s2, s3⟩
              go_simp
              with_reducible rfl
            rotate_left
            · simp only [Act.put, List.setIfInBounds_toArray, List.set_cons_zero, List.set_cons_succ, i64_w, i32_w]
              rfl
            refine pure_ (i := 5) (N := some 186) (v := ?_) (a' := ?_) #[true, true, true, true, true, true, false, false, false, false, false, false, false] rfl rfl (by kernel_rfl) (fun _ _ _ h => h) (Or.inl ⟨by rfl, ?_⟩) ?_ ?_
            rotate_left
            · intro w'
              go_simp
              with_reducible rfl
            rotate_left
            · simp only [Act.put, List.setIfInBounds_toArray, List.set_cons_zero, List.set_cons_succ, i64_w, i32_w]
              rfl
            refine pure_ (i := 6) (N := some 187) (v := ?_) (a' := ?_) #[true, true, true, true, true, true, true, false, false, false, false, false, false] rfl rfl (by kernel_rfl) (fun _ _ _ h => h) (Or.inl ⟨by rfl, ?_⟩) ?_ ?_
            rotate_left
            · intro w'
              go_simp
              with_reducible rfl
            rotate_left
            · simp only [Act.put, List.setIfInBounds_toArray, List.set_cons_zero, List.set_cons_succ, i64_w, i32_w]
              rfl
            refine pure_ (i := 7) (N := some 188) (v := ?_) (a' := ?_) #[true, true, true, true, true, true, true, true, false, false, false, false, false] rfl rfl (by kernel_rfl) (fun _ _ _ h => h) (Or.inl ⟨by rfl, ?_⟩) ?_ ?_
            rotate_left
            · intro w'
              go_simp
              with_reducible rfl
            rotate_left
            · simp only [Act.put, List.setIfInBounds_toArray, List.set_cons_zero, List.set_cons_succ, i64_w, i32_w]
              rfl
            refine pure_ (i := 8) (N := some 189) (v := undef) (a' := ?_) #[true, true, true, true, true, true, true, true, true, false, false, false, false] rfl rfl (by kernel_rfl) (fun _ _ _ h => h) (Or.inr ⟨by rfl, rfl⟩) ?_ ?_
            rotate_left
            · simp only [Act.put, List.setIfInBounds_toArray, List.set_cons_zero, List.set_cons_succ, i64_w, i32_w]
              rfl
            refine pure_ (i := 9) (N := some 190) (v := undef) (a' := ?_) #[true, true, true, true, true, true, true, true, true, true, false, false, false] rfl rfl (by kernel_rfl) (fun _ _ _ h => h) (Or.inr ⟨by rfl, rfl⟩) ?_ ?_
            rotate_left
            · simp only [Act.put, List.setIfInBounds_toArray, List.set_cons_zero, List.set_cons_succ, i64_w, i32_w]
              rfl
            refine pure_ (i := 10) (N := some 191) (v := undef) (a' := ?_) #[true, true, true, true, true, true, true, true, true, true, true, false, false] rfl rfl (by kernel_rfl) (fun _ _ _ h => h) (Or.inr ⟨by rfl, rfl⟩) ?_ ?_
            rotate_left
            · simp only [Act.put, List.setIfInBounds_toArray, List.set_cons_zero, List.set_cons_succ, i64_w, i32_w]
              rfl
            refine pure_ (i := 11) (N := some 192) (v := ?_) (a' := ?_) #[true, true, true, true, true, true, true, true, true, true, true, true, false] rfl rfl (by kernel_rfl) (fun _ _ _ h => h) (Or.inl ⟨by rfl, ?_⟩) ?_ ?_
            rotate_left
            · intro w'
              go_simp
              with_reducible rfl
            rotate_left
            · simp only [Act.put, List.setIfInBounds_toArray, List.set_cons_zero, List.set_cons_succ, i64_w, i32_w]
              rfl
            refine last_ (i := 12) (N := none) #[true, true, true, true, true, true, true, true, true, true, true, true, true] rfl rfl (by kernel_rfl) (by decide) (fun K hK => ?_)
            have hcR := blk_cell HZR.out 0
            have hfR := blk_frozen HZR.out 0
            refine skip_ (w1 := W5.drew.setCell ⟨p.gR, 0, none⟩ (.bool true)) (by rfl) rfl (by go_simp) ?_
            clear hcR hfR
            refine hK.out _ _ ?_
            clear hK K
            refine done_ (by kernel_rfl) ?_
            clear hHeld
            go_wp2_with fail
            show bodyPostM _ _ _ _ _ Exit.ret _ _
            have hs2n := HS2.out
            have hgr := HGR.out
            have hwb := HI.out.2.2.2.1
            have hpb := HPB.out
            have hws := hwb.size
            have hK : (W5.drew.setCell ⟨p.gR, 0, none⟩ (.bool true)).heap[W2.heap.size]? = some (.deferred (some [])) := (Below.heap_setCell W5.drew ⟨p.gR, 0, none⟩ _ W2.heap.size (by show W2.heap.size ≠ p.gR; omega)).trans HDF.out
            have hz : ((W5.drew.setCell ⟨p.gR, 0, none⟩ (.bool true)).putObj W2.heap.size (.deferred none)).cell? ⟨p.gR, 0, none⟩ = some (.bool true) := (blk_cell ((World.putObj_heap_other (by omega)).trans (blk_set HZR.out 0 _)) 0).trans rfl
            have hbX : Below p.base w (W5.drew.setCell ⟨p.gR, 0, none⟩ (.bool true)) := ((hwb.trans (HB5.out.mono (show p.base ≤ wr.heap.size by omega))).trans ((below_drew1 (Below.refl W5.heap.size W5)).mono (show p.base ≤ W5.heap.size by have := HB5.out.size; omega))).setCell (p := ⟨p.gR, 0, none⟩) hgr.2 _
            generalize W5.drew.setCell ⟨p.gR, 0, none⟩ (.bool true) = X at hK hz hbX ⊢
            refine ⟨by simp, .inl ⟨_, _, rfl, run_takeDeferred hK, ?_⟩⟩
            refine ⟨.bool true, ?_, rfl, ?_⟩
            · simp [results, Try.f6, go_sem, hz]
            · rw [← hpb]
              exact hbX.trans (belowK_b (w := w) (by omega) _ W2.heap.size _ _ (by omega) hK rfl rfl)
          · have hnn : (most == (xs.length : Int)) = false := by simpa using hm
            have hmm : (most == most) = true := by simp
            clear hm
            refine wpIn_wide.2 ?_
            have hln := HL2.out
            have hs2n := HS2.out
            have hb5 : Below wr.heap.size wr W5 := hb4.trans (hW5 ▸ belowK_b (w := wr) (Nat.le_refl _) W4 l2 _ _ (by omega) hlp rfl rfl)
            have h225 : W5.heap[wr.heap.size]? = some (.cells #[.int .i64 most] 3 (0, 0)) := (hW5 ▸ World.putObj_heap_other (by omega) : W5.heap[wr.heap.size]? = W4.heap[wr.heap.size]?).trans h22
            have hd5 : W5.heap[W2.heap.size]? = some (.deferred (some [])) := (hW5 ▸ World.putObj_heap_other (by omega) : W5.heap[W2.heap.size]? = W4.heap[W2.heap.size]?).trans hdf
            have HB5 := Lib.hid hb5
            have HDF := Lib.hid hd5
            have hgR : p.gR < wr.heap.size := blk_lt HI.out.1.2.1
            have HGR := Lib.hid (show p.gR < wr.heap.size ∧ p.base ≤ p.gR from ⟨hgR, HOK.out.2.2.2.2.2.2.1⟩)
            have HZR := Lib.hid (show W5.drew.heap[p.gR]? = some (.cells #[.bool false] 4 (0, 0)) from (show W5.heap[p.gR]? = some _ from blk_below HI.out.1.2.1 hb5))
            have HS43 := Lib.hid (show W5.drew.cell? ⟨wr.heap.size, 0, none⟩ = some (.int .i64 most) ∧ W5.drew.cell? ⟨p.g7, 0, none⟩ = some (.pointer (some ⟨p.r, 0, none⟩)) ∧ W5.drew.cell? ⟨p.r, 0, none⟩ = some (.slice Ar xs.length cr) ∧ W5.drew.cell? ⟨p.gM, 0, none⟩ = some (.int .i64 most) from ⟨(blk_cell h225 0).trans rfl, (blk_cell (blk_below HI.out.1.2.2 hb5) 0).trans rfl, (blk_cell (blk_below HI.out.2.2.1.1 hb5) 0).trans rfl, (blk_cell (blk_below HI.out.1.1 hb5) 0).trans (by rw [HXE.out]; rfl)⟩)
            clear hb5 h225 hd5 hW5 hlp h22 hdf hb4 hgR hln hs2n
            go_wp2_with fail
            refine start_ (n := 13) (S := fun w' => w'.cell? ⟨wr.heap.size, 0, none⟩ = some (.int .i64 most) ∧ w'.cell? ⟨p.g7, 0, none⟩ = some (.pointer (some ⟨p.r, 0, none⟩)) ∧ w'.cell? ⟨p.r, 0, none⟩ = some (.slice Ar xs.length cr) ∧ w'.cell? ⟨p.gM, 0, none⟩ = some (.int .i64 most)) (ds := [12]) #[false, false, false, false, false, false, false, false, false, false, false, false, false] (by kernel_rfl) rfl rfl (HS43.out) (fun hHeld => ?_)
            refine take_ (i := 0) (N := some 181) (v := ?_) (a' := ?_) #[true, false, false, false, false, false, false, false, false, false, false, false, false] rfl rfl (by kernel_rfl) (fun _ _ _ h => h) (Or.inl ⟨by rfl, ?_⟩) hHeld ?_ ?_
            rotate_left
            · rintro w' ⟨s0, s1, s2, s3⟩
              go_simp
              with_reducible rfl
            rotate_left
            · simp only [Act.put, List.setIfInBounds_toArray, List.set_cons_zero, List.set_cons_succ, i64_w, i32_w]
              rfl
            refine take_ (i := 1) (N := some 182) (v := ?_) (a' := ?_) #[true, true, false, false, false, false, false, false, false, false, false, false, false] rfl rfl (by kernel_rfl) (fun _ _ _ h => h) (Or.inl ⟨by rfl, ?_⟩) hHeld ?_ ?_
            rotate_left
            · rintro w' ⟨s0, s1, s2, s3⟩
              go_simp
              with_reducible rfl
            rotate_left
            · simp only [Act.put, List.setIfInBounds_toArray, List.set_cons_zero, List.set_cons_succ, i64_w, i32_w]
              rfl
            refine pure_ (i := 2) (N := some 183) (v := ?_) (a' := ?_) #[true, true, true, false, false, false, false, false, false, false, false, false, false] rfl rfl (by kernel_rfl) (fun _ _ _ h => h) (Or.inl ⟨by rfl, ?_⟩) ?_ ?_
            rotate_left
            · intro w'
              go_simp
              with_reducible rfl
            rotate_left
            · simp only [Act.put, List.setIfInBounds_toArray, List.set_cons_zero, List.set_cons_succ, i64_w, i32_w]
              rfl
            refine pure_ (i := 3) (N := some 184) (v := ?_) (a' := ?_) #[true, true, true, true, false, false, false, false, false, false, false, false, false] rfl rfl (by kernel_rfl) (fun _ _ _ h => h) (Or.inl ⟨by rfl, ?_⟩) ?_ ?_
            rotate_left
            · intro w'
              go_simp
              with_reducible rfl
            rotate_left
            · simp only [Act.put, List.setIfInBounds_toArray, List.set_cons_zero, List.set_cons_succ, i64_w, i32_w]
              rfl
            refine take_ (i := 4) (N := some 185) (v := ?_) (a' := ?_) #[true, true, true, true, true, false, false, false, false, false, false, false, false] rfl rfl (by kernel_rfl) (fun _ _ _ h => h) (Or.inl ⟨by rfl, ?_⟩) hHeld ?_ ?_
            rotate_left
            · rintro w' ⟨s0, s1, s2, s3⟩
              go_simp
              with_reducible rfl
            rotate_left
            · simp only [Act.put, List.setIfInBounds_toArray, List.set_cons_zero, List.set_cons_succ, i64_w, i32_w]
              rfl
            refine pure_ (i := 5) (N := some 186) (v := ?_) (a' := ?_) #[true, true, true, true, true, true, false, false, false, false, false, false, false] rfl rfl (by kernel_rfl) (fun _ _ _ h => h) (Or.inl ⟨by rfl, ?_⟩) ?_ ?_
            rotate_left
            · intro w'
              go_simp
              with_reducible rfl
            rotate_left
            · simp only [Act.put, List.setIfInBounds_toArray, List.set_cons_zero, List.set_cons_succ, i64_w, i32_w]
              rfl
            refine pure_ (i := 6) (N := some 187) (v := ?_) (a' := ?_) #[true, true, true, true, true, true, true, false, false, false, false, false, false] rfl rfl (by kernel_rfl) (fun _ _ _ h => h) (Or.inl ⟨by rfl, ?_⟩) ?_ ?_
            rotate_left
            · intro w'
              go_simp
              with_reducible rfl
            rotate_left
            · simp only [Act.put, List.setIfInBounds_toArray, List.set_cons_zero, List.set_cons_succ, i64_w, i32_w]
              rfl
            refine pure_ (i := 7) (N := some 188) (v := ?_) (a' := ?_) #[true, true, true, true, true, true, true, true, false, false, false, false, false] rfl rfl (by kernel_rfl) (fun _ _ _ h => h) (Or.inl ⟨by rfl, ?_⟩) ?_ ?_
            rotate_left
            · intro w'
              go_simp
              with_reducible rfl
            rotate_left
            · simp only [Act.put, List.setIfInBounds_toArray, List.set_cons_zero, List.set_cons_succ, i64_w, i32_w]
              rfl
            refine take_ (i := 8) (N := some 189) (v := ?_) (a' := ?_) #[true, true, true, true, true, true, true, true, true, false, false, false, false] rfl rfl (by kernel_rfl) (fun _ _ _ h => h) (Or.inl ⟨by rfl, ?_⟩) hHeld ?_ ?_
            rotate_left
            · rintro w' ⟨s0, s1, s2, s3⟩
              go_simp
              with_reducible rfl
            rotate_left
            · simp only [Act.put, List.setIfInBounds_toArray, List.set_cons_zero, List.set_cons_succ, i64_w, i32_w]
              rfl
            refine take_ (i := 9) (N := some 190) (v := ?_) (a' := ?_) #[true, true, true, true, true, true, true, true, true, true, false, false, false] rfl rfl (by kernel_rfl) (fun _ _ _ h => h) (Or.inl ⟨by rfl, ?_⟩) hHeld ?_ ?_
            rotate_left
            · rintro w' ⟨s0, s1, s2, s3⟩
              go_simp
              with_reducible rfl
            rotate_left
            · simp only [Act.put, List.setIfInBounds_toArray, List.set_cons_zero, List.set_cons_succ, i64_w, i32_w]
              rfl
            refine pure_ (i := 10) (N := some 191) (v := ?_) (a' := ?_) #[true, true, true, true, true, true, true, true, true, true, true, false, false] rfl rfl (by kernel_rfl) (fun _ _ _ h => h) (Or.inl ⟨by rfl, ?_⟩) ?_ ?_
            rotate_left
            · intro w'
              go_simp
              with_reducible rfl
            rotate_left
            · simp only [Act.put, List.setIfInBounds_toArray, List.set_cons_zero, List.set_cons_succ, i64_w, i32_w]
              rfl
            refine pure_ (i := 11) (N := some 192) (v := ?_) (a' := ?_) #[true, true, true, true, true, true, true, true, true, true, true, true, false] rfl rfl (by kernel_rfl) (fun _ _ _ h => h) (Or.inl ⟨by rfl, ?_⟩) ?_ ?_
            rotate_left
            · intro w'
              go_simp
              with_reducible rfl
            rotate_left
            · simp only [Act.put, List.setIfInBounds_toArray, List.set_cons_zero, List.set_cons_succ, i64_w, i32_w]
              rfl
            refine last_ (i := 12) (N := none) #[true, true, true, true, true, true, true, true, true, true, true, true, true] rfl rfl (by kernel_rfl) (by decide) (fun K hK => ?_)
            have hcR := blk_cell HZR.out 0
            have hfR := blk_frozen HZR.out 0
            refine skip_ (w1 := W5.drew.setCell ⟨p.gR, 0, none⟩ (.bool true)) (by rfl) rfl (by go_simp) ?_
            clear hcR hfR
            refine hK.out _ _ ?_
            clear hK K
            refine done_ (by kernel_rfl) ?_
            clear hHeld
            go_wp2_with fail
            show bodyPostM _ _ _ _ _ Exit.ret _ _
            have hs2n := HS2.out
            have hgr := HGR.out
            have hwb := HI.out.2.2.2.1
            have hpb := HPB.out
            have hws := hwb.size
            have hK : (W5.drew.setCell ⟨p.gR, 0, none⟩ (.bool true)).heap[W2.heap.size]? = some (.deferred (some [])) := (Below.heap_setCell W5.drew ⟨p.gR, 0, none⟩ _ W2.heap.size (by show W2.heap.size ≠ p.gR; omega)).trans HDF.out
            have hz : ((W5.drew.setCell ⟨p.gR, 0, none⟩ (.bool true)).putObj W2.heap.size (.deferred none)).cell? ⟨p.gR, 0, none⟩ = some (.bool true) := (blk_cell ((World.putObj_heap_other (by omega)).trans (blk_set HZR.out 0 _)) 0).trans rfl
            have hbX : Below p.base w (W5.drew.setCell ⟨p.gR, 0, none⟩ (.bool true)) := ((hwb.trans (HB5.out.mono (show p.base ≤ wr.heap.size by omega))).trans ((below_drew1 (Below.refl W5.heap.size W5)).mono (show p.base ≤ W5.heap.size by have := HB5.out.size; omega))).setCell (p := ⟨p.gR, 0, none⟩) hgr.2 _
            generalize W5.drew.setCell ⟨p.gR, 0, none⟩ (.bool true) = X at hK hz hbX ⊢
            refine ⟨by simp, .inl ⟨_, _, rfl, run_takeDeferred hK, ?_⟩⟩
            refine ⟨.bool true, ?_, rfl, ?_⟩
            · simp [results, Try.f6, go_sem, hz]
            · rw [← hpb]
              exact hbX.trans (belowK_b (w := w) (by omega) _ W2.heap.size _ _ (by omega) hK rfl rfl)
end Go.Proofs.Ytijbpncekdiodaa
