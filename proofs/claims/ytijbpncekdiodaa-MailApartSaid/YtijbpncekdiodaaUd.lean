/- (Bounds as the arguments' bytes give them.) The walk of MailApart. Laid by gen_nd_mail.py. -/
import Derived.Test.YtijbpncekdiodaaUc
import Derived.Test.YtijbpncekdiodaaMm
namespace Go.Proofs.Ytijbpncekdiodaa
open Go.RowKit Go.Proofs.YtijbpncekdiodaaW.PrintWords Go.Proofs.YtijbpncekdiodaaW.PrintLast Go.Proofs.YtijbpncekdiodaaW.PrintMore
open Go.Proofs.Ytijbpncekdiodaa.PMailMoves
set_option linter.unusedVariables false
set_option linter.unusedSimpArgs false
attribute [local go_sem ↓] Go.wp_at_zero Go.wp_at_succ

theorem Kd.R_lt' {α : Type} {d : Kd α} {e base : Nat} {ok : Nat → Prop} {W : World} {v : Value} {xs : List α} (h : Kd.R d e W base ok v xs) : ∀ k, v.ownBlock = some k → k < W.heap.size := fun k hk => ((Kd.R_bound h).1 k hk).2.2.1

/-- What is put in, as far as it is spoilt: where its rows lie. -/
def Sh (W : World) (lo hi gi n : Nat) : Prop := (lo ≤ gi ∧ gi < hi) ∧ ∃ cur : Array Value, W.heap[gi]? = some (.cells cur 32 (0, 0)) ∧ ∀ j, j < n → j * 14 < cur.size ∧ ∃ A m c, cur[j * 14 + 13]? = some (.slice A m c) ∧ m ≤ 2932031007317 ∧ (0 < m → ∃ gv cv, A = some ⟨gv, 0, none⟩ ∧ lo ≤ gv ∧ gv < hi ∧ gv ≠ gi ∧ W.heap[gv]? = some (.cells cv 41 (0, 0)) ∧ m * 4 ≤ cv.size)
section
variable {W : World} {lo hi gi gv n j m c t : Nat}
theorem Sh.cell (h : Sh W lo hi gi n) (hj : j < n) : ∃ A m c u, W.cell? ⟨gi, j * 14 + 13, none⟩ = some (.slice A m c) ∧ W.cell? ⟨gi, j * 14, none⟩ = some u ∧ (∀ o, W.frozen? ⟨gi, o, none⟩ = false) ∧ m ≤ 2932031007317 ∧ (0 < m → ∃ gv, A = some ⟨gv, 0, none⟩ ∧ lo ≤ gv ∧ gv < hi ∧ gv ≠ gi) := by
  obtain ⟨_, cur, hb, h2⟩ := h
  obtain ⟨hs, A, m, c, hc, hm, hv⟩ := h2 j hj
  refine ⟨A, m, c, cur[j * 14], (blk_cell hb _).trans hc, (blk_cell hb _).trans (Array.getElem?_eq_getElem hs), fun o => blk_frozen hb o, hm, fun h0 => ?_⟩
  obtain ⟨gv, cv, h1, h2, h3, h4, _⟩ := hv h0
  exact ⟨gv, h1, h2, h3, h4⟩
theorem Sh.var (h : Sh W lo hi gi n) (hj : j < n) (hc : W.cell? ⟨gi, j * 14 + 13, none⟩ = some (.slice (some ⟨gv, 0, none⟩) m c)) (ht : t < m) : ∃ u, W.cell? ⟨gv, t * 4, none⟩ = some u ∧ W.frozen? ⟨gv, t * 4, none⟩ = false := by
  obtain ⟨_, cur, hb, h2⟩ := h
  obtain ⟨hs, A, m', c', hc', hm, hv⟩ := h2 j hj
  have e := ((blk_cell hb _).trans hc').symm.trans hc
  injection e with e
  injection e with e1 e2 e3
  subst e1 e2 e3
  obtain ⟨gv', cv, h1, _, _, _, h5, h6⟩ := hv (by omega)
  injection h1 with h1
  injection h1 with h1
  subst h1
  exact ⟨cv[t * 4], (blk_cell h5 _).trans (Array.getElem?_eq_getElem (by omega)), blk_frozen h5 _⟩
theorem Sh.set_own (h : Sh W lo hi gi n) (j : Nat) (u : Value) : Sh (W.setCell ⟨gi, j * 14, none⟩ u) lo hi gi n := by
  obtain ⟨h0, cur, hb, h2⟩ := h
  refine ⟨h0, _, blk_set hb _ u, fun j' hj' => ?_⟩
  obtain ⟨hs, A, m, c, hc, hm, hv⟩ := h2 j' hj'
  refine ⟨by rw [Array.size_setIfInBounds]; exact hs, A, m, c, ?_, hm, fun h0 => ?_⟩
  · rw [Array.getElem?_setIfInBounds_ne (by omega)]; exact hc
  · obtain ⟨gv, cv, h1, h2, h3, h4, h5, h6⟩ := hv h0
    exact ⟨gv, cv, h1, h2, h3, h4, blk_far h5 (p := ⟨gi, j * 14, none⟩) h4 u, h6⟩
theorem Sh.set_var (h : Sh W lo hi gi n) (hg : gv ≠ gi) (o : Nat) (u : Value) : Sh (W.setCell ⟨gv, o, none⟩ u) lo hi gi n := by
  obtain ⟨h0, cur, hb, h2⟩ := h
  refine ⟨h0, cur, blk_far hb (p := ⟨gv, o, none⟩) (fun e => hg e.symm) u, fun j' hj' => ?_⟩
  obtain ⟨hs, A, m, c, hc, hm, hv⟩ := h2 j' hj'
  refine ⟨hs, A, m, c, hc, hm, fun h0 => ?_⟩
  obtain ⟨gw, cv, h1, h2, h3, h4, h5, h6⟩ := hv h0
  by_cases e : gw = gv
  · subst e
    exact ⟨gw, _, h1, h2, h3, h4, blk_set h5 o u, by rw [Array.size_setIfInBounds]; exact h6⟩
  · exact ⟨gw, cv, h1, h2, h3, h4, blk_far h5 (p := ⟨gv, o, none⟩) e u, h6⟩
theorem Sh_of_R {cap : Nat} {l : List S32} (h : Kd.R k32 32 W lo (fun b => lo ≤ b ∧ b < hi) (.slice (some ⟨gi, 0, none⟩) n cap) l) (hv : ∀ x ∈ l, x.f1.f12.length ≤ 2932031007317) : Sh W lo hi gi n := by
  obtain ⟨_, inner0, ho0, _⟩ := id h
  obtain ⟨cells, hb⟩ := own_typed ho0 gi (by simp [Value.ownBlock])
  have hn := (Kd.R_reads' h).1
  refine ⟨h.1 gi (by simp [Value.ownBlock]), cells, hb, fun j hj => ?_⟩
  obtain ⟨c, hcl, hM, hcc, _⟩ := Kd.R_elem h z32 (j : Int) (by omega) (by omega)
  rw [Int.toNat_natCast] at hcc hM
  have hxl := hv _ (getD_mem32 (l := l) (k := j) (by omega))
  generalize l.getD j z32 = x at hM hxl
  obtain ⟨v13, rfl, hR⟩ := k32_openM hM
  have c0 := (blk_cell hb _).symm.trans (hcc 0 _ rfl)
  have c13 := (blk_cell hb _).symm.trans (hcc 13 _ rfl)
  rw [show j * k32.sz + 0 = j * 14 from rfl] at c0
  obtain ⟨A, c, rfl⟩ := Kd.R_slice hR
  refine ⟨(Array.getElem?_eq_some_iff.1 c0).1, A, _, c, c13, hxl, fun h0 => ?_⟩
  obtain ⟨hok, inner, ho, hr⟩ := hR
  rcases ho.2 with ⟨hv, h1⟩ | ⟨g, cap', cur, hv, hb', hh, hnc, hcm, hcs, ht⟩
  · omega
  · injection hv with ha hn hc
    subst ha
    obtain ⟨⟨h1, h2⟩, h3⟩ := hok g (by simp [Value.ownBlock])
    refine ⟨g, cur, rfl, h1, h2, h3, hh, ?_⟩
    rw [hcs]
    exact Nat.mul_le_mul_right _ hnc
end

theorem BoxV.kept {W W' : World} {g base : Nat} {ok S : Nat → Prop} {v : Value} {xs : List S32} (h : BoxV W g base ok v xs) (hk : Kept W W' S) (hg : ¬ S g) (hok : ∀ k, ok k → ¬ S k) : BoxV W' g base ok v xs :=
  ⟨(hk.2 g h.lt hg).trans h.1, Kd.N_kept h.2.1 hk hok, h.2.2⟩
/-- Variables of one's own, from block lo on: where they lie. -/
def Vs (W : World) (lo hi : Nat) (A : Option Addr) (m : Nat) : Prop := 0 < m → ∃ gv cv, A = some ⟨gv, 0, none⟩ ∧ lo ≤ gv ∧ gv < hi ∧ W.heap[gv]? = some (.cells cv 41 (0, 0)) ∧ m * 4 ≤ cv.size
section
variable {W W1 : World} {lo hi m g o : Nat} {A : Option Addr}
theorem Vs.below (h : Vs W lo hi A m) (hb : Below W.heap.size W W1) : Vs W1 lo hi A m := fun h0 => by
  obtain ⟨gv, cv, h1, h2, h2', h3, h4⟩ := h h0
  exact ⟨gv, cv, h1, h2, h2', blk_below h3 hb, h4⟩
theorem Vs.grown (h : Vs W lo hi A m) (hg : W.grownBy W1 (some g)) (hlt : hi ≤ g) : Vs W1 lo hi A m := fun h0 => by
  obtain ⟨gv, cv, h1, h2, h2', h3, h4⟩ := h h0
  exact ⟨gv, cv, h1, h2, h2', blk_grown h3 hg (by intro e; injection e with e; omega), h4⟩
theorem Vs.set (h : Vs W lo hi A m) (g o : Nat) (u : Value) : Vs (W.setCell ⟨g, o, none⟩ u) lo hi A m := fun h0 => by
  obtain ⟨gv, cv, h1, h2, h2', h3, h4⟩ := h h0
  by_cases e : gv = g
  · subst e
    exact ⟨gv, _, h1, h2, h2', blk_set h3 o u, by rw [Array.size_setIfInBounds]; exact h4⟩
  · exact ⟨gv, cv, h1, h2, h2', blk_far h3 (p := ⟨g, o, none⟩) e u, h4⟩
end
theorem Vs_of_R {W : World} {lo m c : Nat} {ok : Nat → Prop} {A : Option Addr} {xs : List S41} (h : Kd.R k41 41 W lo ok (.slice A m c) xs) (hn : m = xs.length) : Vs W lo W.heap.size A m := fun h0 => by
  obtain ⟨hok, inner, ho, hr⟩ := h
  rcases ho.2 with ⟨hv, h1⟩ | ⟨g, cap', cur, hv, hb', hh, hnc, hcm, hcs, ht⟩
  · omega
  · injection hv with ha hn hc
    subst ha
    refine ⟨g, cur, rfl, hb', blk_lt hh, hh, ?_⟩
    rw [hcs, hn]
    exact Nat.mul_le_mul_right _ hnc
theorem Peek_any (g base : Nat) (i : Int) (xs : List S32) (w : World) (ok : Nat → Prop) (v : Value) (hbox : BoxV w g base ok v xs) (hfresh : ∀ k, w.heap.size ≤ k → ok k) (hv : ∀ x ∈ xs, x.f1.f12.length ≤ 2932031007317) (hl : xs.length * 152 ≤ 140737488355328) :
    Calls Try.prog 14 #[.pointer (some ⟨g, 0, none⟩), .int .i64 i] w fun e w' => ∃ (x : S32) (A : Option Addr) (c : Nat) (code : Int), e = .returned (.tuple #[.agg #[.int .i64 x.f0, .int .i64 x.f1.f0, .int .i64 x.f1.f1, .int .u64 x.f1.f2, .int .i64 x.f1.f3, .int .u64 x.f1.f4, .int .u64 x.f1.f5, .int .u64 x.f1.f6, .int .i64 x.f1.f7, .int .i64 x.f1.f8, .string x.f1.f9, .string x.f1.f10, .string x.f1.f11, .slice A x.f1.f12.length c], .int .i64 code]) ∧ x.f1.f12.length ≤ 2932031007317 ∧ Vs w' w.heap.size w'.heap.size A x.f1.f12.length ∧ (0 < x.f1.f12.length → code = 0) ∧ Below w.heap.size w w' := by
  by_cases hin : 0 ≤ i ∧ i < xs.length
  · refine (Peek_inM g base i xs w ok v hbox hfresh hin.1 hin.2 (fits_all hv) hl).mono ?_
    rintro e w' ⟨c', rfl, hp, hb⟩
    have hxl := hv _ (getD_mem32 (l := xs) (k := i.toNat) (by omega))
    generalize xs.getD i.toNat z32 = x at hp hxl
    obtain ⟨v13, rfl, hR⟩ := k32_openM hp
    obtain ⟨A, c, rfl⟩ := Kd.R_slice hR
    exact ⟨x, A, c, 0, rfl, hxl, Vs_of_R hR rfl, fun _ => rfl, hb⟩
  · refine (Peek_out g base i xs w ok v hbox (by omega)).mono ?_
    rintro e w' ⟨rfl, hb⟩
    exact ⟨z32, none, 0, 5, rfl, by decide, fun h => absurd h (by decide), fun h => absurd h (by decide), hb⟩
set_option maxRecDepth 100000 in
set_option maxHeartbeats 8000000 in
theorem mailApart_fin (A : Option Addr) (cA : Nat) (l : List S32) (i : Int) (w : World) (hA : Kd.C k32 w A l.length l) (hl : l.length ≤ 925904528626) (hv : ∀ x ∈ l, x.f1.f12.length ≤ 2932031007317) :
    Calls Try.prog 4 #[.slice A l.length cA, .int .i64 i] w fun e w' => e = .returned (.bool true) ∧ Below w.heap.size w w' := by
  have HA := Lib.hid hA
  have HV := Lib.hid hv
  have HL := Lib.hid hl
  clear hA hv hl
  go_enter Try.func4, Try.ntmps4
  go_wp2_with (first | (go_at_call 8; refine (shown_calls _).mono ?_; rintro e w1 ⟨rfl, hb1⟩; have HB1 := Lib.hid hb1; clear hb1) | (go_at_call 9; refine (New_calls _).mono ?_; rintro e w2 ⟨rfl, hw2⟩; have HB2 := Lib.hid (show Below w.heap.size w w2 from hw2 ▸ below_alloc HB1.out _); have HBX2 := Lib.hid (show BoxV w2 w1.heap.size w.heap.size (fun k => w.heap.size ≤ k ∧ k ≠ w1.heap.size) (.slice none 0 0) [] from hw2 ▸ BoxV.new w1 w.heap.size _ HB1.out.size (fun k hk => hk.2)); clear hw2))
  go_loopw [7, 8] (fun ov iv W => ∃ (j : Int) (vo : Value), iv = .int .i64 j ∧ ov = vo ∧ 0 ≤ j ∧ j ≤ l.length ∧ Kd.R k32 32 W w2.heap.size (fun b => w2.heap.size ≤ b) vo (l.take j.toNat) ∧ Below w2.heap.size w2 W) (fun _ iv _ => l.length - (intOf iv).toNat)
  case atStart => exact ⟨0, .slice none 0 0, rfl, rfl, Int.le_refl _, by omega, Kd.R_nil _ _ _ _ _, Below.refl _ _⟩
  case round =>
    obtain ⟨j, vo, rfl, rfl, hj0, hj, hno, hbw⟩ := hrel
    have HRX := Lib.hid hno
    have HBW := Lib.hid hbw
    by_cases hlt : j < (l.length : Int)
    · have hjb : j ≤ 925904528626 := by have := HL.out; omega
      have hjl : j.toNat < l.length := by omega
      have HTK := Lib.hid (take_snoc32 (l := l) hjl)
      have hbt : Below w.heap.size w wr := HB2.out.trans (hbw.mono HB2.out.size)
      obtain ⟨ad, cx, hA2, hcl, hFK0, hcc, _⟩ := Kd.F_get (F_arg HA.out hbt) z32 j hj0 hlt
      have HXL := Lib.hid (HV.out _ (getD_mem32 hjl))
      generalize l.getD j.toNat z32 = x at hFK0 HXL HTK
      obtain ⟨Ax, kx, rfl, hkx, hCx⟩ := k32_open (Kd.FK_now hFK0)
      have HFX := Lib.hid hFK0
      have HCX := Lib.hid hCx
      have HCC := Lib.hid (fun t u h => (by rw [add_add]; exact hcc t u h) : ∀ t u, [.int .i64 x.f0, .int .i64 x.f1.f0, .int .i64 x.f1.f1, .int .u64 x.f1.f2, .int .i64 x.f1.f3, .int .u64 x.f1.f4, .int .u64 x.f1.f5, .int .u64 x.f1.f6, .int .i64 x.f1.f7, .int .i64 x.f1.f8, .string x.f1.f9, .string x.f1.f10, .string x.f1.f11, .slice Ax x.f1.f12.length kx][t]? = some u → wr.cell? ((ad.add (j.toNat * 14)).add t) = some u)
      have HAQ := Lib.hid hA2
      clear hno hbw hj hbt hFK0 hcc hkx hCx hcl hjl
      rw [HAQ.out]
      go_wp2_with (first | ((with_reducible refine gate_dst (N := 39) rfl ?_); refine wpList_load_at rfl 32 (.tmp 38) rfl (ad.add (j.toNat * 14)) rfl _ _ HCC.out Try.underlying32 rfl (by kernel_rfl) ?_) | ((with_reducible refine gate_dst (N := 9) rfl ?_); refine box_event ?hg (N := 9) ?hd (cs := zS.cells) (t := 32) ?hr ?_; (case hd => rfl); (case hg => rfl); (case hr => first | (go_simp; done) | (go_simp; rfl)); intro g9 hg w5 hz hb; have HGg9 := Lib.hid hg; have HZg9 := Lib.hid hz; have HBg9 := Lib.hid hb; clear hg hz hb) | (refine wpList_store_row rfl rfl 32 (.tmp 9) (.tmp 39) rfl (g := g9) rfl rfl HZg9.out (by kernel_rfl) (rfl) (k32.K_one (Kd.FK_now HFX.out)) ?_; intro w6 hz hg; have HZw6 := Lib.hid hz; have HGw6 := Lib.hid hg; have hbx6 := Below.grown HBg9.out hg HBg9.out.size (fun b e => by injection e with e; have := HGg9.out; omega); have hcx6 := Kd.C_below HCX.out hbx6; have HE := Lib.hid (R_empty k41 41 w6 w6.heap.size (fun _ => True) (Nat.le_refl _) trivial); have HBX6 := Lib.hid hbx6; have HCX6 := Lib.hid (Kd.C_alloc hcx6 (.cells #[] 41)); have i13 : (w6.alloc (.cells #[] 41)).cell? ⟨g9, 13, none⟩ = some (.slice Ax x.f1.f12.length kx) := (blk_cell (blk_alloc hz _) 13).trans rfl; have HRX6 := Lib.hid (Kd.R_mono (Kd.R_grown (Kd.R_below (Kd.R_bound HRX.out) HBg9.out) hg (fun b hb e => by injection e with e; have := hb.2.2.1; have := HGg9.out; omega)) (fun b hb => (⟨hb.1, hb.2.2.1⟩ : w2.heap.size ≤ b ∧ b < wr.heap.size))); clear hbx6 hcx6; clear hz hg) | ((with_reducible refine gate_builtin (b := .append) (xs := #[.tmp 40, .tmp 43]) rfl ?_); at_builtin; refine Kd.R_append_rows k41 (w0 := w6) w6.heap.size rfl (.tmp 40) (.tmp 43) 28 41 zV 48 rfl Try.underlying28 info41 rfl (by decide) (by decide) (.slice (some ⟨w6.heap.size, 0, none⟩) 0 0) [] x.f1.f12 Ax x.f1.f12.length kx (fun _ => True) (fun _ => False) rfl rfl HE.out HCX6.out ?cK (fun _ hk => hk.elim) (fun _ _ => trivial) ?cB ?cb ?cl ?_; (case cK => exact (fun x cs hk => by obtain rfl := k41_open hk; exact k41_mkM _ _ _ x)); (case cB => exact below_alloc (Below.refl _ _) _); (case cb => exact (by simp)); (case cl => exact (by have := HXL.out; simp only [List.length_nil]; omega)); intro v7 w7 hr hb _ _; rw [List.nil_append] at hr; obtain ⟨A7, c7, rfl⟩ := Kd.R_slice hr; have hz7 := blk_below HZw6.out hb; have i13 := blk_cell hz7 13; have f13 := blk_frozen hz7 13; have HZ7 := Lib.hid (show (w7.setCell ⟨g9, 13, none⟩ (.slice A7 x.f1.f12.length c7)).heap[g9]? = some (.cells #[.int .i64 x.f0, .int .i64 x.f1.f0, .int .i64 x.f1.f1, .int .u64 x.f1.f2, .int .i64 x.f1.f3, .int .u64 x.f1.f4, .int .u64 x.f1.f5, .int .u64 x.f1.f6, .int .i64 x.f1.f7, .int .i64 x.f1.f8, .string x.f1.f9, .string x.f1.f10, .string x.f1.f11, .slice A7 x.f1.f12.length c7] 32 (0, 0)) from blk_set hz7 13 _); have HB7 := Lib.hid hb; have HRV := Lib.hid (Kd.R_far (p := ⟨g9, 13, none⟩) (Kd.R_mono (ok' := fun k => w6.heap.size ≤ k) (Kd.R_bound hr) (fun k hk => hk.2.1)) (fun k hk => by show k ≠ g9; have := blk_lt HZw6.out; omega) (.slice A7 x.f1.f12.length c7)); have HRX7 := Lib.hid (Kd.R_far (p := ⟨g9, 13, none⟩) (Kd.R_below HRX6.out hb) (fun k hk => by show k ≠ g9; have := HGg9.out; omega) (.slice A7 x.f1.f12.length c7)); clear hr hb hz7) | ((with_reducible refine gate_dst (N := 48) rfl ?_); refine wpList_load_row rfl 32 (.tmp 9) rfl g9 rfl 32 _ (0, 0) _ HZ7.out Try.underlying32 rfl (by kernel_rfl) ?_) | ((with_reducible refine gate_builtin (b := .append) (xs := #[.tmp 47, .tmp 49]) rfl ?_); at_builtin; refine Kd.R_append k32 (w0 := w2) (W := w7.setCell ⟨g9, 13, none⟩ (.slice A7 x.f1.f12.length c7)) w2.heap.size rfl (.tmp 47) (.tmp 49) 22 32 zS 152 rfl Try.underlying22 info32 rfl (by decide) (by decide) u7 (l.take j.toNat) x [.int .i64 x.f0, .int .i64 x.f1.f0, .int .i64 x.f1.f1, .int .u64 x.f1.f2, .int .i64 x.f1.f3, .int .u64 x.f1.f4, .int .u64 x.f1.f5, .int .u64 x.f1.f6, .int .i64 x.f1.f7, .int .i64 x.f1.f8, .string x.f1.f9, .string x.f1.f10, .string x.f1.f11, .slice A7 x.f1.f12.length c7] (fun b => w2.heap.size ≤ b) (fun k => w6.heap.size ≤ k) rfl (by simp only [World.size_setCell]; rfl) (k32.M_lower (by have := HBW.out.size; have := HBX6.out.size; omega) (k32_mkM _ _ _ x HRV.out)) (fun b hb => ⟨by have := HBW.out.size; have := HBX6.out.size; omega, fun e => by have := Kd.R_lt' HRX.out b e.symm; have := HBX6.out.size; omega⟩) (fun b hb => by have := HBW.out.size; have := HBX6.out.size; have := HB7.out.size; simp only [World.size_setCell] at hb; omega) (Kd.R_mono HRX7.out (fun b hb => hb.1)) ((HBW.out.trans ((HBX6.out.trans (HB7.out.mono HBX6.out.size)).mono HBW.out.size)).setCell (p := ⟨g9, 13, none⟩) (by show w2.heap.size ≤ g9; have := HBW.out.size; have := HGg9.out; omega) _) (by have := HBW.out.size; have := HBX6.out.size; have := HB7.out.size; simp only [World.size_setCell]; omega) (by rw [List.length_take]; have := HL.out; omega) ?_; intro v8 w8 hr8 hb8 _ _; have HR8 := Lib.hid hr8; have HB8 := Lib.hid hb8; clear hr8 hb8))
      go_roundw
      case rel =>
        refine ⟨j + 1, v8, rfl, rfl, by omega, by omega, ?_, HB8.out⟩
        rw [show (j + 1).toNat = j.toNat + 1 by omega, HTK.out]
        exact HR8.out
      case measure => simp [intOf]; omega
    · have hjj : j.toNat = l.length := by omega
      rw [hjj, List.take_length] at hno
      obtain ⟨A7, c7, rfl⟩ := Kd.R_slice hno
      have HR7 := Lib.hid hno
      have HB7 := Lib.hid hbw
      clear hno hbw hj hjj HRX HBW
      have HC7 := Lib.hid (Kd.R_reads' HR7.out).2.1
      have HBA := Lib.hid (HB2.out.trans (HB7.out.mono HB2.out.size))
      have HBX3 := Lib.hid (HBX2.out.below HB7.out)
      obtain ⟨wA, hwA⟩ : ∃ wA : World, wA = wr := ⟨_, rfl⟩
      rw [← hwA] at HR7 HB7 HBA HBX3 ⊢
      clear hwA
      go_wp2_with fail
      go_loopw [10, 11] (fun ov iv W => ∃ (j : Int) (vo : Value), iv = .int .i64 j ∧ ov = vo ∧ 0 ≤ j ∧ j ≤ l.length ∧ Kd.R k32 32 W wA.heap.size (fun b => wA.heap.size ≤ b) vo (l.take j.toNat) ∧ Below wA.heap.size wA W) (fun _ iv _ => l.length - (intOf iv).toNat)
      case atStart => exact ⟨0, .slice none 0 0, rfl, rfl, Int.le_refl _, by omega, Kd.R_nil _ _ _ _ _, Below.refl _ _⟩
      case round =>
        obtain ⟨j, vo, rfl, rfl, hj0, hj, hno, hbw⟩ := hrel
        have HRX := Lib.hid hno
        have HBW := Lib.hid hbw
        by_cases hlt : j < (l.length : Int)
        · have hjb : j ≤ 925904528626 := by have := HL.out; omega
          have hjl : j.toNat < l.length := by omega
          have HTK := Lib.hid (take_snoc32 (l := l) hjl)
          have hbt : Below w.heap.size w wr := HBA.out.trans (hbw.mono HBA.out.size)
          obtain ⟨ad, cx, hA2, hcl, hFK0, hcc, _⟩ := Kd.F_get (F_arg HA.out hbt) z32 j hj0 hlt
          have HXL := Lib.hid (HV.out _ (getD_mem32 hjl))
          generalize l.getD j.toNat z32 = x at hFK0 HXL HTK
          obtain ⟨Ax, kx, rfl, hkx, hCx⟩ := k32_open (Kd.FK_now hFK0)
          have HFX := Lib.hid hFK0
          have HCX := Lib.hid hCx
          have HCC := Lib.hid (fun t u h => (by rw [add_add]; exact hcc t u h) : ∀ t u, [.int .i64 x.f0, .int .i64 x.f1.f0, .int .i64 x.f1.f1, .int .u64 x.f1.f2, .int .i64 x.f1.f3, .int .u64 x.f1.f4, .int .u64 x.f1.f5, .int .u64 x.f1.f6, .int .i64 x.f1.f7, .int .i64 x.f1.f8, .string x.f1.f9, .string x.f1.f10, .string x.f1.f11, .slice Ax x.f1.f12.length kx][t]? = some u → wr.cell? ((ad.add (j.toNat * 14)).add t) = some u)
          have HAQ := Lib.hid hA2
          clear hno hbw hj hbt hFK0 hcc hkx hCx hcl hjl
          rw [HAQ.out]
          go_wp2_with (first | ((with_reducible refine gate_dst (N := 60) rfl ?_); refine wpList_load_at rfl 32 (.tmp 59) rfl (ad.add (j.toNat * 14)) rfl _ _ HCC.out Try.underlying32 rfl (by kernel_rfl) ?_) | ((with_reducible refine gate_dst (N := 12) rfl ?_); refine box_event ?hg (N := 12) ?hd (cs := zS.cells) (t := 32) ?hr ?_; (case hd => rfl); (case hg => rfl); (case hr => first | (go_simp; done) | (go_simp; rfl)); intro g12 hg w5 hz hb; have HGg12 := Lib.hid hg; have HZg12 := Lib.hid hz; have HBg12 := Lib.hid hb; clear hg hz hb) | (refine wpList_store_row rfl rfl 32 (.tmp 12) (.tmp 60) rfl (g := g12) rfl rfl HZg12.out (by kernel_rfl) (rfl) (k32.K_one (Kd.FK_now HFX.out)) ?_; intro w6 hz hg; have HZw6 := Lib.hid hz; have HGw6 := Lib.hid hg; have hbx6 := Below.grown HBg12.out hg HBg12.out.size (fun b e => by injection e with e; have := HGg12.out; omega); have hcx6 := Kd.C_below HCX.out hbx6; have HE := Lib.hid (R_empty k41 41 w6 w6.heap.size (fun _ => True) (Nat.le_refl _) trivial); have HBX6 := Lib.hid hbx6; have HCX6 := Lib.hid (Kd.C_alloc hcx6 (.cells #[] 41)); have i13 : (w6.alloc (.cells #[] 41)).cell? ⟨g12, 13, none⟩ = some (.slice Ax x.f1.f12.length kx) := (blk_cell (blk_alloc hz _) 13).trans rfl; have HRX6 := Lib.hid (Kd.R_mono (Kd.R_grown (Kd.R_below (Kd.R_bound HRX.out) HBg12.out) hg (fun b hb e => by injection e with e; have := hb.2.2.1; have := HGg12.out; omega)) (fun b hb => (⟨hb.1, hb.2.2.1⟩ : wA.heap.size ≤ b ∧ b < wr.heap.size))); clear hbx6 hcx6; clear hz hg) | ((with_reducible refine gate_builtin (b := .append) (xs := #[.tmp 61, .tmp 64]) rfl ?_); at_builtin; refine Kd.R_append_rows k41 (w0 := w6) w6.heap.size rfl (.tmp 61) (.tmp 64) 28 41 zV 48 rfl Try.underlying28 info41 rfl (by decide) (by decide) (.slice (some ⟨w6.heap.size, 0, none⟩) 0 0) [] x.f1.f12 Ax x.f1.f12.length kx (fun _ => True) (fun _ => False) rfl rfl HE.out HCX6.out ?cK (fun _ hk => hk.elim) (fun _ _ => trivial) ?cB ?cb ?cl ?_; (case cK => exact (fun x cs hk => by obtain rfl := k41_open hk; exact k41_mkM _ _ _ x)); (case cB => exact below_alloc (Below.refl _ _) _); (case cb => exact (by simp)); (case cl => exact (by have := HXL.out; simp only [List.length_nil]; omega)); intro v7 w7 hr hb _ _; rw [List.nil_append] at hr; obtain ⟨A7, c7, rfl⟩ := Kd.R_slice hr; have hz7 := blk_below HZw6.out hb; have i13 := blk_cell hz7 13; have f13 := blk_frozen hz7 13; have HZ7 := Lib.hid (show (w7.setCell ⟨g12, 13, none⟩ (.slice A7 x.f1.f12.length c7)).heap[g12]? = some (.cells #[.int .i64 x.f0, .int .i64 x.f1.f0, .int .i64 x.f1.f1, .int .u64 x.f1.f2, .int .i64 x.f1.f3, .int .u64 x.f1.f4, .int .u64 x.f1.f5, .int .u64 x.f1.f6, .int .i64 x.f1.f7, .int .i64 x.f1.f8, .string x.f1.f9, .string x.f1.f10, .string x.f1.f11, .slice A7 x.f1.f12.length c7] 32 (0, 0)) from blk_set hz7 13 _); have HB7 := Lib.hid hb; have HRV := Lib.hid (Kd.R_far (p := ⟨g12, 13, none⟩) (Kd.R_mono (ok' := fun k => w6.heap.size ≤ k) (Kd.R_bound hr) (fun k hk => hk.2.1)) (fun k hk => by show k ≠ g12; have := blk_lt HZw6.out; omega) (.slice A7 x.f1.f12.length c7)); have HRX7 := Lib.hid (Kd.R_far (p := ⟨g12, 13, none⟩) (Kd.R_below HRX6.out hb) (fun k hk => by show k ≠ g12; have := HGg12.out; omega) (.slice A7 x.f1.f12.length c7)); clear hr hb hz7) | ((with_reducible refine gate_dst (N := 69) rfl ?_); refine wpList_load_row rfl 32 (.tmp 12) rfl g12 rfl 32 _ (0, 0) _ HZ7.out Try.underlying32 rfl (by kernel_rfl) ?_) | ((with_reducible refine gate_builtin (b := .append) (xs := #[.tmp 68, .tmp 70]) rfl ?_); at_builtin; refine Kd.R_append k32 (w0 := wA) (W := w7.setCell ⟨g12, 13, none⟩ (.slice A7 x.f1.f12.length c7)) wA.heap.size rfl (.tmp 68) (.tmp 70) 22 32 zS 152 rfl Try.underlying22 info32 rfl (by decide) (by decide) u10 (l.take j.toNat) x [.int .i64 x.f0, .int .i64 x.f1.f0, .int .i64 x.f1.f1, .int .u64 x.f1.f2, .int .i64 x.f1.f3, .int .u64 x.f1.f4, .int .u64 x.f1.f5, .int .u64 x.f1.f6, .int .i64 x.f1.f7, .int .i64 x.f1.f8, .string x.f1.f9, .string x.f1.f10, .string x.f1.f11, .slice A7 x.f1.f12.length c7] (fun b => wA.heap.size ≤ b) (fun k => w6.heap.size ≤ k) rfl (by simp only [World.size_setCell]; rfl) (k32.M_lower (by have := HBW.out.size; have := HBX6.out.size; omega) (k32_mkM _ _ _ x HRV.out)) (fun b hb => ⟨by have := HBW.out.size; have := HBX6.out.size; omega, fun e => by have := Kd.R_lt' HRX.out b e.symm; have := HBX6.out.size; omega⟩) (fun b hb => by have := HBW.out.size; have := HBX6.out.size; have := HB7.out.size; simp only [World.size_setCell] at hb; omega) (Kd.R_mono HRX7.out (fun b hb => hb.1)) ((HBW.out.trans ((HBX6.out.trans (HB7.out.mono HBX6.out.size)).mono HBW.out.size)).setCell (p := ⟨g12, 13, none⟩) (by show wA.heap.size ≤ g12; have := HBW.out.size; have := HGg12.out; omega) _) (by have := HBW.out.size; have := HBX6.out.size; have := HB7.out.size; simp only [World.size_setCell]; omega) (by rw [List.length_take]; have := HL.out; omega) ?_; intro v8 w8 hr8 hb8 _ _; have HR8 := Lib.hid hr8; have HB8 := Lib.hid hb8; clear hr8 hb8))
          go_roundw
          case rel =>
            refine ⟨j + 1, v8, rfl, rfl, by omega, by omega, ?_, HB8.out⟩
            rw [show (j + 1).toNat = j.toNat + 1 by omega, HTK.out]
            exact HR8.out
          case measure => simp [intOf]; omega
        · have hjj : j.toNat = l.length := by omega
          rw [hjj, List.take_length] at hno
          obtain ⟨A10, c10, rfl⟩ := Kd.R_slice hno
          have HR10 := Lib.hid hno
          have HB10 := Lib.hid hbw
          clear hno hbw hj hjj HRX HBW
          have HBB := Lib.hid (HBA.out.trans (HB10.out.mono HBA.out.size))
          have HG0 := Lib.hid (⟨HB1.out.size, HBX3.out.lt, HB7.out.size, HB10.out.size⟩ : w.heap.size ≤ w1.heap.size ∧ w1.heap.size < wA.heap.size ∧ w2.heap.size ≤ wA.heap.size ∧ wA.heap.size ≤ wr.heap.size)
          have hbxB : BoxV wr w1.heap.size w.heap.size (fun k => wr.heap.size ≤ k) (.slice none 0 0) [] := ⟨(HBX3.out.below HB10.out).1, Kd.N_nil _ _ _ _ _, fun k hk => by have := HG0.out; omega, HB1.out.size⟩
          have HPUT := Lib.hid (Put_calls w1.heap.size w.heap.size A10 c10 [] l _ wr _ _ hbxB (fun k hk => hk) (Kd.R_F HR10.out) (fun k hk _ => ⟨by have := HG0.out; omega, by simp [Value.ownBlock]⟩) HBB.out.size (fits_all HV.out) (by simp only [List.length_nil]; have := HL.out; omega))
          obtain ⟨wB, hwB⟩ : ∃ wB : World, wB = wr := ⟨_, rfl⟩
          rw [← hwB] at HR10 HB10 HBB HG0 HPUT ⊢
          clear hwB hbxB
          have HWAS := Lib.hid (Kd.F_below (Kd.F_mono (Kd.F_bound (Kd.R_F HR7.out)) (fun b hb => (⟨hb.1, hb.2⟩ : w2.heap.size ≤ b ∧ b < wA.heap.size))) HB10.out)
          have HIN := Lib.hid (Kd.R_mono (Kd.R_bound HR10.out) (fun b hb => (⟨hb.1, hb.2.2.1⟩ : wA.heap.size ≤ b ∧ b < wB.heap.size)))
          go_wp2_with fail
          refine HPUT.out.mono ?_
          rintro e wP ⟨rfl, ⟨vP, hbxP, _⟩, hkP, hbP⟩
          have HKP := Lib.hid (show Kept wB wP (fun k => k = w1.heap.size) from ⟨hkP.1, fun b hb hn => hkP.2 b hb (by rintro (h | h) <;> first | exact hn h | simp [Value.ownBlock] at h)⟩)
          have HBXP := Lib.hid (show BoxV wP w1.heap.size w.heap.size (fun k => wB.heap.size ≤ k) vP l from hbxP)
          have HBP := Lib.hid (HBB.out.trans hbP)
          have HWASP := Lib.hid (Kd.F_kept HWAS.out HKP.out (fun b hb => by have h : w2.heap.size ≤ b ∧ b < wA.heap.size := hb; have := HG0.out; have := HBX2.out.lt; omega))
          have HINP := Lib.hid (Kd.R_move HIN.out (fun b hb => HKP.out.2 b hb.2 (by have := HG0.out; omega)))
          have hsz := HKP.out.1
          have HSZ := Lib.hid hsz
          clear hbxP hkP hbP hsz
          clear HPUT HIN HWAS HR10 HR7 HBX3
          have hshape : l.length = 0 ∨ ∃ gi, A10 = some ⟨gi, 0, none⟩ ∧ Sh wP wA.heap.size wB.heap.size gi l.length := by
            by_cases h0 : l.length = 0
            · exact .inl h0
            · right
              have hR := HINP.out
              obtain ⟨_, inner, ho, hr⟩ := id hR
              rcases ho.2 with ⟨hv, h1⟩ | ⟨g, cap', cur, hv, hb', hh, hnc, hcm, hcs, ht⟩
              · omega
              · injection hv with ha hn hc
                subst ha
                exact ⟨g, rfl, Sh_of_R hR HV.out⟩
          have HSHP := Lib.hid hshape
          clear hshape
          go_wp2_with fail
          go_loopw [13] (fun iv W => ∃ j : Int, iv = .int .i64 j ∧ 0 ≤ j ∧ j ≤ l.length ∧ (l.length = 0 ∨ ∃ gi, A10 = some ⟨gi, 0, none⟩ ∧ Sh W wA.heap.size wB.heap.size gi l.length) ∧ Kept wP W (fun b => wA.heap.size ≤ b ∧ b < wB.heap.size) ∧ Below wA.heap.size wP W) (fun iv _ => l.length - (intOf iv).toNat)
          case atStart => exact ⟨0, rfl, Int.le_refl _, by omega, HSHP.out, Kept.refl _ _, Below.refl _ _⟩
          case round =>
            obtain ⟨j, rfl, hj0, hj, hsh, hk, hbw⟩ := hrel
            have HKW := Lib.hid hk
            have HBW := Lib.hid hbw
            clear HSHP
            by_cases hlt : j < (l.length : Int)
            · have hjl : j.toNat < l.length := by omega
              obtain ⟨gi, hA10, hs⟩ : ∃ gi, A10 = some ⟨gi, 0, none⟩ ∧ Sh wr wA.heap.size wB.heap.size gi l.length := by rcases hsh with h | h; omega; exact h
              obtain ⟨Aj, m, cj, uj, i13, i0, f0, hm, hvj⟩ := hs.cell hjl
              have hf0 := f0 (j.toNat * 14)
              have HS := Lib.hid hs
              have HVJ := Lib.hid hvj
              have HI13 := Lib.hid i13
              have hjb : j ≤ 925904528626 := by have := HL.out; omega
              have HJL := Lib.hid hjl
              have HGI := Lib.hid hs.1
              have HA10 := Lib.hid hA10
              clear hk hbw hj hsh hs f0 hvj hjl i13
              rw [HA10.out]
              go_wp2_with fail
              go_loopw [14] (fun iv W => ∃ t : Int, iv = .int .i64 t ∧ 0 ≤ t ∧ t ≤ m ∧ Sh W wA.heap.size wB.heap.size gi l.length ∧ W.cell? ⟨gi, j.toNat * 14 + 13, none⟩ = some (.slice Aj m cj) ∧ Kept wP W (fun b => wA.heap.size ≤ b ∧ b < wB.heap.size) ∧ Below wA.heap.size wP W) (fun iv _ => m - (intOf iv).toNat)
              case atStart => exact ⟨0, rfl, Int.le_refl _, by omega, HS.out.set_own _ _, by rw [World.cell?_setCell_other _ _ _ _ (by intro e; injection e with _ e; omega)]; exact HI13.out, HKW.out.setCell (p := ⟨gi, j.toNat * 14, none⟩) (.inl HGI.out) _, HBW.out.setCell (p := ⟨gi, j.toNat * 14, none⟩) HGI.out.1 _⟩
              case round =>
                obtain ⟨t, rfl, ht0, ht, hsh, hc13, hk, hbw⟩ := hrel
                have HKV := Lib.hid hk
                have HBV := Lib.hid hbw
                have HSV := Lib.hid hsh
                have htb : t ≤ 2932031007317 := by omega
                by_cases hlu : t < (m : Int)
                · obtain ⟨gv, rfl, hv1, hv2, hv3⟩ := HVJ.out (by omega)
                  obtain ⟨ut, hct, hft⟩ := hsh.var HJL.out hc13 (t := t.toNat) (by omega)
                  have HGV := Lib.hid (⟨hv1, hv2, hv3⟩ : wA.heap.size ≤ gv ∧ gv < wB.heap.size ∧ gv ≠ gi)
                  have HC13 := Lib.hid hc13
                  have HMM := Lib.hid hm
                  clear hk hbw hsh ht hv1 hv2 hv3 hm
                  go_wp2_with fail
                  go_roundw
                  case rel => exact ⟨t + 1, rfl, by omega, by omega, HSV.out.set_var HGV.out.2.2 _ _, by rw [World.cell?_setCell_other _ _ _ _ (by intro e; injection e with e; exact HGV.out.2.2 e)]; exact HC13.out, HKV.out.setCell (p := ⟨gv, t.toNat * 4, none⟩) (.inl ⟨HGV.out.1, HGV.out.2.1⟩) _, HBV.out.setCell (p := ⟨gv, t.toNat * 4, none⟩) HGV.out.1 _⟩
                  case measure => simp [intOf]; omega
                · have HMM := Lib.hid hm
                  clear hk hbw hsh ht hm
                  go_wp2_with fail
                  go_roundw
                  case rel => exact ⟨j + 1, rfl, by omega, by omega, .inr ⟨gi, rfl, HSV.out⟩, HKV.out, HBV.out⟩
                  case measure => simp [intOf]; omega
            · have HBXC := Lib.hid (HBXP.out.kept hk (by have := HG0.out; omega) (fun b hb => by have h : wB.heap.size ≤ b := hb; omega))
              have HWC := Lib.hid (Kd.F_kept HWASP.out hk (fun b hb => by have h : w2.heap.size ≤ b ∧ b < wA.heap.size := hb; omega))
              have HBC := Lib.hid (HBP.out.trans (hbw.mono (by have := HG0.out; omega)))
              have HSC := Lib.hid (show wB.heap.size ≤ wr.heap.size by have := HSZ.out; have := hk.1; omega)
              clear hsh hk hbw hj HBXP HWASP HBP HINP HBB HKP HSZ HKW HBW
              obtain ⟨wC, hwC⟩ : ∃ wC : World, wC = wr := ⟨_, rfl⟩
              rw [← hwC] at HBXC HWC HBC HSC ⊢
              clear hwC
              have HPK := Lib.hid (Peek_any w1.heap.size w.heap.size i l wC _ vP HBXC.out (fun b hb => by have := HSC.out; show wB.heap.size ≤ b; omega) HV.out (by have := HL.out; omega))
              go_wp2_with (first | (go_at_call 14; refine HPK.out.mono ?_; rintro e w4 ⟨x, Ax, cx, code, rfl, hxl, hvs, hcode, hb4⟩; have HVS := Lib.hid hvs; have HCODE := Lib.hid hcode; have HXL := Lib.hid hxl; have HB4 := Lib.hid hb4; clear hvs hcode hxl hb4) | ((with_reducible refine gate_dst (N := 15) rfl ?_); refine box_event ?hg (N := 15) ?hd (cs := zS.cells) (t := 32) ?hr ?_; (case hd => rfl); (case hg => rfl); (case hr => first | (go_simp; done) | (go_simp; rfl)); intro g15 hg w5 hz hb; have HGg15 := Lib.hid hg; have HZg15 := Lib.hid hz; have HBg15 := Lib.hid hb; clear hg hz hb) | (refine wpList_store_row rfl rfl 32 (.tmp 15) (.tmp 109) rfl (g := g15) rfl rfl HZg15.out (by kernel_rfl) (rfl) (one14 rfl) ?_; intro w6 hz hg; have HZw6 := Lib.hid hz; have HGw6 := Lib.hid hg; have HB6 := Lib.hid (Below.grown (HB4.out.trans (HBg15.out.mono HB4.out.size)) hg (by have := HB4.out.size; have := HBg15.out.size; omega) (fun b e => by injection e with e; have := HB4.out.size; have := HGg15.out; omega)); have HVS6 := Lib.hid ((HVS.out.below HBg15.out).grown hg (Nat.le_of_eq HGg15.out.symm)); clear hz hg))
              go_loopw [17] (fun iv W => ∃ t : Int, iv = .int .i64 t ∧ 0 ≤ t ∧ t ≤ x.f1.f12.length ∧ Vs W wC.heap.size w4.heap.size Ax x.f1.f12.length ∧ W.heap[g15]? = some (.cells #[.int .i64 x.f0, .int .i64 x.f1.f0, .int .i64 x.f1.f1, .int .u64 x.f1.f2, .int .i64 x.f1.f3, .int .u64 x.f1.f4, .int .u64 x.f1.f5, .int .u64 x.f1.f6, .int .i64 x.f1.f7, .int .i64 x.f1.f8, .string x.f1.f9, .string x.f1.f10, .string x.f1.f11, .slice Ax x.f1.f12.length cx] 32 (0, 0)) ∧ Below wC.heap.size wC W) (fun iv _ => x.f1.f12.length - (intOf iv).toNat)
              case atStart => exact ⟨0, rfl, Int.le_refl _, by omega, HVS6.out, HZw6.out, HB6.out⟩
              case round =>
                obtain ⟨t, rfl, ht0, ht, hvs, hz, hbw⟩ := hrel
                have i13 : wr.cell? ⟨g15, 13, none⟩ = some (.slice Ax x.f1.f12.length cx) := (blk_cell hz 13).trans rfl
                have htb : t ≤ 2932031007317 := by have := HXL.out; omega
                by_cases hlu : t < (x.f1.f12.length : Int)
                · obtain rfl := HCODE.out (by omega)
                  obtain ⟨gv, cv, rfl, hg1, hg1', hg2, hg3⟩ := id (hvs (by omega))
                  have hne : gv ≠ g15 := by have := HGg15.out; omega
                  have hct : wr.cell? ⟨gv, t.toNat * 4, none⟩ = some (cv[t.toNat * 4]) := (blk_cell hg2 _).trans (Array.getElem?_eq_getElem (by omega))
                  have hft : wr.frozen? ⟨gv, t.toNat * 4, none⟩ = false := blk_frozen hg2 _
                  have HVS7 := Lib.hid hvs
                  have HZ7 := Lib.hid hz
                  have HBW := Lib.hid hbw
                  have HNE := Lib.hid (⟨hg1, hne⟩ : wC.heap.size ≤ gv ∧ gv ≠ g15)
                  have HT := Lib.hid ht
                  generalize cv[t.toNat * 4] = uq at hct
                  clear hvs hz hbw hg1 hg1' hg2 hg3 hne ht
                  go_wp2_with fail
                  go_roundw
                  case rel => exact ⟨t + 1, rfl, by omega, by omega, HVS7.out.set _ _ _, blk_far HZ7.out (p := ⟨gv, t.toNat * 4, none⟩) (fun e => HNE.out.2 e.symm) _, HBW.out.setCell (p := ⟨gv, t.toNat * 4, none⟩) HNE.out.1 _⟩
                  case measure => simp [intOf]; omega
                · have HBW := Lib.hid hbw
                  have HBXD := Lib.hid (HBXC.out.below hbw)
                  have HWD := Lib.hid (Kd.F_below HWC.out hbw)
                  have HBD := Lib.hid (HBC.out.trans (hbw.mono HBC.out.size))
                  have HSD := Lib.hid (show wB.heap.size ≤ wr.heap.size by have := HSC.out; have := hbw.size; omega)
                  have HT := Lib.hid ht
                  clear hvs hz hbw ht
                  go_wp2_with fail
                  have hs6 : BoxV wr w1.heap.size w.heap.size (fun b => wB.heap.size ≤ b ∧ some b ≠ (Value.slice none 0 0).ownBlock) vP l := HBXD.out.mono (fun b hb => ⟨hb, by simp [Value.ownBlock]⟩) (fun b hb => by have := HG0.out; omega)
                  clear HBXD HBXC HWC HBC HSC HPK HVS HCODE HXL HB4 HGg15 HZg15 HBg15 HZw6 HGw6 HB6 HVS6 HBW HT
                  go_loopw [18, 19] (fun ov iv W => ∃ (k : Int) (v vo : Value), iv = .int .i64 k ∧ ov = vo ∧ 0 ≤ k ∧ k ≤ l.length ∧ BoxV W w1.heap.size w.heap.size (fun b => wB.heap.size ≤ b ∧ some b ≠ vo.ownBlock) v (l.drop k.toNat) ∧ Kd.N k32 32 W w.heap.size (fun b => wB.heap.size ≤ b) vo (l.take k.toNat) ∧ Kd.F k32 W (fun b => w2.heap.size ≤ b ∧ b < wA.heap.size) A7 l.length l ∧ Below w.heap.size w W ∧ wB.heap.size ≤ W.heap.size) (fun _ iv _ => l.length - (intOf iv).toNat)
                  case atStart => exact ⟨0, vP, .slice none 0 0, rfl, rfl, Int.le_refl _, by omega, hs6, Kd.N_nil _ _ _ _ _, HWD.out, HBD.out, HSD.out⟩
                  case round =>
                    clear hs6
                    obtain ⟨k, v, vo, rfl, rfl, h0, hk, hbx, hno, hwas, hbw, hsz⟩ := hrel
                    have HNO := Lib.hid hno
                    have HBW := Lib.hid hbw
                    have HK := Lib.hid hk
                    have HWQ := Lib.hid hwas
                    have HSQ := Lib.hid hsz
                    clear HWD HBD HSD
                    by_cases hlt : k < (l.length : Int)
                    · have hkl : k.toNat < l.length := by omega
                      have HDR := Lib.hid (drop_cons (l := l) hkl)
                      have HTK := Lib.hid (take_snoc32 (l := l) hkl)
                      rw [HDR.out] at hbx
                      have hxx := HV.out (l.getD k.toNat z32) (getD_mem32 hkl)
                      generalize l.getD k.toNat z32 = y at hbx HTK hxx HDR
                      have HBX := Lib.hid hbx
                      have hfr : ∀ b, wr.heap.size ≤ b → wB.heap.size ≤ b ∧ some b ≠ u18.ownBlock := fun b hb => ⟨by omega, fun e => by have := Kd.N_lt hno b e.symm; omega⟩
                      have hfit : ∀ z ∈ y :: l.drop (k.toNat + 1), Fits z := fits_all (fun z hz => by
                        rcases List.mem_cons.1 hz with rfl | hz
                        · exact hxx
                        · exact HV.out z (List.mem_of_mem_drop hz))
                      have hln : (y :: l.drop (k.toNat + 1)).length * 152 ≤ 140737488355328 := by rw [List.length_cons, List.length_drop]; have := HL.out; omega
                      have HT := Lib.hid (Take_in w1.heap.size w.heap.size 0 (y :: l.drop (k.toNat + 1)) wr _ v hbx hfr (by decide) (by rw [List.length_cons]; omega) hfit hln)
                      have HKL := Lib.hid hkl
                      have hkb : k ≤ 1851809057252 := by have := HL.out; omega
                      clear hbx hno hbw hk hfr hfit hln hxx hkl hwas hsz
                      go_wp2_with (first | (go_at_call 11; refine HT.out.mono ?_; rintro e w5 ⟨c5, rfl, hfk, ⟨v5, hbx5, _⟩, hkb5, hb5⟩; obtain ⟨A2, c2, rfl, _, _⟩ := k32_open (Kd.FK_now hfk); have HFK := Lib.hid (show Kd.FK k32 w5 (fun b => wr.heap.size ≤ b) y _ from hfk); have HBX5 := Lib.hid (show BoxV w5 w1.heap.size w.heap.size _ v5 (l.drop (k.toNat + 1)) from hbx5); have HKB5 := Lib.hid hkb5; have HB5 := Lib.hid hb5; clear hfk hbx5 hkb5 hb5) | ((with_reducible refine gate_dst (N := 20) rfl ?_); refine box_event ?hg (N := 20) ?hd (cs := zS.cells) (t := 32) ?hr ?_; (case hd => rfl); (case hg => rfl); (case hr => first | (go_simp; done) | (go_simp; rfl)); intro g20 hg w6 hz hb; have HGg20 := Lib.hid hg; have HZg20 := Lib.hid hz; have HBg20 := Lib.hid hb; clear hg hz hb) | (refine wpList_store_row rfl rfl 32 (.tmp 20) (.tmp 138) rfl (g := g20) rfl rfl HZg20.out (by kernel_rfl) (rfl) (k32.K_one (Kd.FK_now HFK.out)) ?_; intro w7 hz hg; have HZw7 := Lib.hid hz; have HGw7 := Lib.hid hg; have HFK7 := Lib.hid (Kd.FK_grown (Kd.FK_below (Kd.FK_bound HFK.out) HBg20.out) hg (fun b hb e => by injection e with e; have := hb.2; have := HGg20.out; omega)); have HN7 := Lib.hid (Kd.N_mono (Kd.N_grown (Kd.N_below (Kd.N_bound (Kd.N_keep HNO.out HKB5.out (fun b hb => by have h : wB.heap.size ≤ b := hb; have := HG0.out; omega))) HBg20.out) hg (fun b hb e => by injection e with e; have := hb.2; have := HGg20.out; omega)) (fun b hb => hb.1)); have HW7 := Lib.hid (Kd.F_grown (Kd.F_below (Kd.F_keep HWQ.out HKB5.out (fun b hb => by have h : w2.heap.size ≤ b ∧ b < wA.heap.size := hb; have := HBX2.out.lt; omega)) HBg20.out) hg (fun b hb e => by injection e with e; have h : w2.heap.size ≤ b ∧ b < wA.heap.size := hb; have := HGg20.out; have := HKB5.out.1; have := HSQ.out; have := HG0.out; omega)); have HBX7 := Lib.hid ((((HBX5.out.bound).below HBg20.out).grown hg (by rintro ⟨_, h⟩; have := HGg20.out; omega) (by have := HBX5.out.lt; have := HGg20.out; omega)).mono (fun b hb => hb.1) HBX5.out.2.2.1); have HB7 := Lib.hid (Below.grown ((HBW.out.trans HB5.out).trans (HBg20.out.mono (by have := HBW.out.size; have := HB5.out.size; omega))) hg (by have := HBW.out.size; have := HBg20.out.size; have := HB5.out.size; omega) (fun b e => by injection e with e; have := HBW.out.size; have := HB5.out.size; have := HGg20.out; omega)); clear hz hg) | ((with_reducible refine gate_dst (N := 143) rfl ?_); refine wpList_load_row rfl 32 (.tmp 20) rfl g20 rfl 32 _ (0, 0) _ HZw7.out Try.underlying32 rfl (by kernel_rfl) ?_) | ((with_reducible refine gate_builtin (b := .append) (xs := #[.tmp 142, .tmp 144]) rfl ?_); at_builtin; refine Kd.N_append k32 (w0 := w7) (W := w7) w.heap.size rfl (.tmp 142) (.tmp 144) 22 32 zS 152 rfl Try.underlying22 info32 rfl (by decide) (by decide) u18 (l.take k.toNat) y [.int .i64 y.f0, .int .i64 y.f1.f0, .int .i64 y.f1.f1, .int .u64 y.f1.f2, .int .i64 y.f1.f3, .int .u64 y.f1.f4, .int .u64 y.f1.f5, .int .u64 y.f1.f6, .int .i64 y.f1.f7, .int .i64 y.f1.f8, .string y.f1.f9, .string y.f1.f10, .string y.f1.f11, .slice A2 y.f1.f12.length c2] (fun b => wB.heap.size ≤ b) _ rfl rfl HFK7.out (fun b hb => ⟨by have := HSQ.out; have := hb.1; omega, fun e => by have := Kd.N_lt HNO.out b e.symm; have := hb.1; omega⟩) (fun b hb => by have := HSQ.out; have := HKB5.out.1; have := HBg20.out.size; have := HGw7.out.size; omega) HN7.out (Below.refl _ _) HB7.out.size (by rw [List.length_take]; have := HKL.out; have := HL.out; omega) ?_; intro v8 w8 hn8 _ hg8 hat8; have HN8 := Lib.hid hn8; have HG8 := Lib.hid hg8; have HAT8 := Lib.hid hat8; clear hn8 hg8 hat8))
                      go_roundw
                      case rel =>
                        refine ⟨k + 1, v5, v8, rfl, rfl, by omega, by omega, ?_, ?_, ?_, ?_, ?_⟩
                        · rw [show (k + 1).toNat = k.toNat + 1 by omega]
                          exact HBX7.out.after HG8.out HAT8.out (fun e => by have h := HNO.out.1 _ e.symm; have := HG0.out; omega) (fun b hb => by have := HG0.out; omega)
                        · rw [show (k + 1).toNat = k.toNat + 1 by omega, HTK.out]
                          exact HN8.out
                        · exact Kd.F_grown HW7.out HG8.out (fun b hb e => by have h := HNO.out.1 b e.symm; have := HG0.out; omega)
                        · exact HB7.out.grown HG8.out HB7.out.size (fun b e => by have h := HNO.out.1 b e; have := HG0.out; have := HB2.out.size; omega)
                        · have := HSQ.out; have := HKB5.out.1; have := HBg20.out.size; have := HGw7.out.size; have := HG8.out.size; omega
                      case measure => simp [intOf]; omega
                    · have hkk : k.toNat = l.length := by omega
                      rw [hkk, List.drop_length] at hbx
                      rw [hkk, List.take_length] at hno
                      obtain ⟨A3, c3, rfl⟩ := Kd.N_slice hno
                      have HNE := Lib.hid hno
                      have HBXE := Lib.hid hbx
                      have hdk : decide (k < (l.length : Int)) = false := by simp; omega
                      clear hno hbw hk hkk HNO hbx hwas hsz
                      go_wp2_with (first | (go_at_call 13; refine (Same17_calls A3 A7 c3 c7 l wr 2932031007317 (by decide) HV.out (Kd.N_reads' HNE.out).2.2 (Kd.N_reads' HNE.out).2.1 (Kd.F_now HWQ.out) HC7.out).mono ?_; rintro e w16 ⟨rfl, hb16⟩; have HB16 := Lib.hid hb16; clear hb16) | (go_at_call 12; refine (Len_calls w1.heap.size w.heap.size [] w16 _ v (HBXE.out.below HB16.out)).mono ?_; rintro e w17 ⟨rfl, rfl⟩))
                      go_ret
                      exact ⟨rfl, HBW.out.trans (HB16.out.mono HBW.out.size)⟩
end Go.Proofs.Ytijbpncekdiodaa
