/- Put. Laid by gen_mi.py. -/
import Derived.Test.YtijbpncekdiodaaMh
namespace Go.Proofs.Ytijbpncekdiodaa
open Go.RowKit Go.Proofs.YtijbpncekdiodaaW.PrintWords Go.Proofs.YtijbpncekdiodaaW.PrintLast Go.Proofs.YtijbpncekdiodaaW.PrintMore
open Go.Proofs.Ytijbpncekdiodaa.PMailMoves
set_option linter.unusedVariables false
set_option linter.unusedSimpArgs false
attribute [local go_sem ↓] Go.wp_at_zero Go.wp_at_succ

section
variable {P : Program} {ops : Array Oper} {rest : List Oper} {o : Oper} {a : Act} {Q : Exit → Act → World → Prop}
/-- A struct loaded from wherever its cells lie. -/
theorem run_loadAt_at (w : World) (ad : Addr) (ty : TypeId) (cs : List Value) (d : TypeDesc) (hc : ∀ j u, cs[j]? = some u → w.cell? (ad.add j) = some u)
    (hu : P.underlying ty = some d) (hd : d.isRow = true) (hi : (P.info? ty).map (·.size) = some cs.length) :
    (Instr.loadAt ty (.pointer (some ad))).run P w = .ok (.agg cs.toArray) w := by
  have hl : (loadCells ad cs.length).run P w = .ok cs.toArray w := run_loadCells_list (P := P) w ad cs hc
  cases hq : P.info? ty with
  | none => simp [hq] at hi
  | some i =>
    have hs : i.size = cs.length := by simpa [hq] using hi
    have hagg : (isAgg ty).run P w = .ok true w := by
      unfold isAgg
      rw [Sem.run_bind, run_underlying hu w]
      cases d <;> simp_all
    simp [Instr.loadAt, Instr.sureAddr, loadVar, Sem.run_bind, hagg, sizeOf, typeInfo, hq, hs, hl]
theorem wpList_load_at {w : World} (hgd : o.guard = none) (ty : TypeId) (x : Operand) (ho : o.op = .load ty x) (ad : Addr) (hx : a.eval x = .pointer (some ad)) (cs : List Value) (d : TypeDesc) (hc : ∀ j u, cs[j]? = some u → w.cell? (ad.add j) = some u)
    (hu : P.underlying ty = some d) (hd : d.isRow = true) (hi : (P.info? ty).map (·.size) = some cs.length)
    (h : wpList P ops Q rest (a.put o.dst (.agg cs.toArray)) w) : wpList P ops Q (o :: rest) a w := by
  refine wpList_plain hgd fun K hK => ?_
  unfold Oper.wp execOp
  simp only [ho, hx, Sem.run_bind, Sem.run_pure, Result.andThen_ok, run_loadAt_at w ad ty cs d hc hu hd hi]
  exact hK _ _ h
end

/-- What a round of Put reads: the box's slice. -/
def Sg (g : Nat) (v : Value) (w : World) : Prop := w.cell? ⟨g, 0, none⟩ = some v

set_option maxRecDepth 100000 in
set_option maxHeartbeats 4000000 in
theorem Put_calls (g base : Nat) (A : Option Addr) (c : Nat) (xs l : List S32) (v : Value) (w : World) (ok okl : Nat → Prop) (hbox : BoxV w g base ok v xs) (hfresh : ∀ k, w.heap.size ≤ k → ok k) (hF : Kd.F k32 w okl A l.length l) (hsep : ∀ k, okl k → k < w.heap.size → k ≠ g ∧ some k ≠ v.ownBlock) (hb : base ≤ w.heap.size) (hfit : ∀ x ∈ l, Fits x) (hl : (xs.length + l.length) * 152 ≤ 140737488355328) :
    Calls Try.prog 10 #[.pointer (some ⟨g, 0, none⟩), .slice A l.length c] w fun e w' => e = .returned (.int .i64 (l.length : Int)) ∧ (∃ v', BoxV w' g base ok v' (xs ++ l) ∧ (v'.ownBlock = v.ownBlock ∨ ∃ b, v'.ownBlock = some b ∧ w.heap.size ≤ b)) ∧ Kept w w' (fun k => k = g ∨ some k = v.ownBlock) ∧ Below base w w' := by
  have HBOX := Lib.hid hbox
  have HFR := Lib.hid hfresh
  have HF := Lib.hid (Kd.F_bound hF)
  have HSEP := Lib.hid hsep
  have HBS := Lib.hid hb
  have HFIT := Lib.hid hfit
  have HL := Lib.hid hl
  have hlen : (l.length : Int) ≤ 925904528653 := by omega
  clear hbox hfresh hF hsep hb hfit hl
  go_enter Try.func10, Try.ntmps10
  go_wp2_with fail
  go_loopw [11] (fun iv W => ∃ j : Int, iv = .int .i64 j ∧ 0 ≤ j ∧ j ≤ l.length ∧ (∃ v', BoxV W g base ok v' (xs ++ l.take j.toNat) ∧ (v'.ownBlock = v.ownBlock ∨ ∃ b, v'.ownBlock = some b ∧ w.heap.size ≤ b)) ∧ Kept w W (fun k => k = g ∨ some k = v.ownBlock) ∧ Below base w W) (fun i _ => l.length - (intOf i).toNat)
  case atStart => exact ⟨0, rfl, Int.le_refl _, by omega, ⟨v, by simpa using HBOX.out, .inl rfl⟩, Kept.refl _ _, Below.refl _ _⟩
  case round =>
    obtain ⟨j, rfl, h0, hj, ⟨v', hbx, hat⟩, hk, hbl⟩ := hrel
    have HK := Lib.hid hk
    have HBL := Lib.hid hbl
    have HJ := Lib.hid hj
    by_cases hlt : j < (l.length : Int)
    · have hF2 := Kd.F_kept HF.out hk (fun k hk2 => by have := HSEP.out k hk2.1 hk2.2; rintro (h | h); exact this.1 h; exact this.2 h)
      obtain ⟨ad, cx, rfl, hcl, hFK, hcc, _⟩ := Kd.F_get hF2 z32 j h0 hlt
      have hx : Fits (l.getD j.toNat z32) := HFIT.out _ (by rw [List.getD_eq_getElem?_getD, List.getElem?_eq_getElem (by omega)]; exact List.getElem_mem _)
      have HT := Lib.hid (show l.take (j + 1).toNat = l.take j.toNat ++ [l.getD j.toNat z32] by
        rw [show (j + 1).toNat = j.toNat + 1 by omega, List.take_succ_eq_append_getElem (by omega), List.getD_eq_getElem?_getD, List.getElem?_eq_getElem (by omega)]; rfl)
      generalize l.getD j.toNat z32 = x at hFK hx HT
      have hpl : (xs ++ l.take j.toNat).length + 1 ≤ xs.length + l.length := by rw [List.length_append, List.length_take]; omega
      obtain ⟨ps, hps⟩ : ∃ ps, ps = xs ++ l.take j.toNat := ⟨_, rfl⟩
      rw [← hps] at hbx hpl
      have HPS := Lib.hid hps
      have HPL := Lib.hid hpl
      clear hps hpl
      obtain ⟨A', c', rfl⟩ := hbx.slice
      have HBX := Lib.hid hbx
      have HAT := Lib.hid hat
      have HCC := Lib.hid (fun t u (h : cx[t]? = some u) => (by rw [add_add]; exact hcc t u h : wr.cell? ((ad.add (j.toNat * 14)).add t) = some u))
      have HCL := Lib.hid (show cx.length = 14 from hcl)
      have HFK := Lib.hid hFK
      have HX := Lib.hid hx
      have hj2 : j ≤ 925904528653 := by omega
      clear hbx hat hk hbl hF2 hcc hcl hFK hx hj
      go_wp2_with (first | ((with_reducible refine gate_dst (N := 14) rfl ?_); refine wpList_load_at rfl 32 (.tmp 13) rfl (ad.add (j.toNat * 14)) rfl cx _ HCC.out Try.underlying32 rfl (by rw [HCL.out]; exact size32) ?_) | ((with_reducible refine gate_dst (N := 6) rfl ?_); refine box_event ?hg (N := 6) ?hd (cs := zS.cells) (t := 32) ?hr ?_; (case hd => rfl); (case hg => rfl); (case hr => first | (go_simp; done) | (go_simp; rfl)); intro g6 hg6 w1 hz1 hb1; have HG6 := Lib.hid hg6; have HZ1 := Lib.hid hz1; have HB1 := Lib.hid hb1; clear hg6 hz1 hb1) | (refine wpList_store_row rfl rfl 32 (.tmp 6) (.tmp 14) rfl (g := g6) rfl rfl HZ1.out (by rw [List.size_toArray, HCL.out]; exact size32) (by show 14 = cx.toArray.size; rw [List.size_toArray]; exact HCL.out.symm) (k32.K_one (Kd.FK_now HFK.out)) ?_; intro w2 hz2 hg2; have HZ2 := Lib.hid hz2; have HG2 := Lib.hid hg2; clear hz2 hg2))
      have hgl : g < wr.heap.size := HBX.out.lt
      have hg6 : g6 = wr.heap.size := HG6.out
      have hwl : w.heap.size ≤ wr.heap.size := HK.out.1
      have hgg2 : w2.heap[g]? = some (.cells #[.slice A' ps.length c'] 60 (0, 0)) := blk_grown (blk_below HBX.out.1 HB1.out) HG2.out (by intro e; injection e with e; omega)
      have hN2 := Kd.N_mono (Kd.N_grown (Kd.N_below (Kd.N_bound HBX.out.2.1) HB1.out) HG2.out (fun k hk e => by injection e with e; have := hk.2; omega)) (fun k hk => hk.1)
      have hvl : ∀ k, (Value.slice A' ps.length c').ownBlock = some k → k < wr.heap.size := Kd.N_lt HBX.out.2.1
      have hvb := Kd.N_base HBX.out.2.1
      have hFK2 : Kd.FK k32 w2 (fun k => okl k ∧ k < w.heap.size) x cx := Kd.FK_grown (Kd.FK_below HFK.out HB1.out) HG2.out (fun k hk e => by injection e with e; have := hk.2; omega)
      have hB2 : Below wr.heap.size wr w2 := Below.grown HB1.out HG2.out HB1.out.size (fun k e => by injection e with e; omega)
      have HGG2 := Lib.hid hgg2
      have HN2 := Lib.hid hN2
      have HVL := Lib.hid hvl
      have HVB := Lib.hid hvb
      have HB2 := Lib.hid hB2
      have C1 := Lib.hid (own_calls x cx w2.drew _ (Kd.FK_step hFK2 (fun _ _ _ => rfl)) HX.out)
      have HSX := Lib.hid (show (Try.prog.info? 32).map (·.size) = some cx.length by rw [HCL.out]; exact size32)
      have HR2 := Lib.hid (show w2.rangeAt g6 0 cx from fun t u ht => by rw [Nat.zero_add, blk_cell HZ2.out t]; simpa using ht)
      have HLN := Lib.hid (⟨hgl, hg6, hwl⟩ : g < wr.heap.size ∧ g6 = wr.heap.size ∧ w.heap.size ≤ wr.heap.size)
      clear hgl hg6 hwl hgg2 hN2 hvl hvb hFK2 hB2
      refine start_ (n := 12) (S := fun w' => w'.cell? ⟨g, 0, none⟩ = some (.slice A' ps.length c') ∧ w'.rangeAt g6 0 cx) (ds := [11]) #[false, false, false, false, false, false, false, false, false, false, false, false] (by kernel_rfl) rfl rfl (⟨(blk_cell HGG2.out 0).trans rfl, fun t u ht => HR2.out t u ht⟩) (fun hHeld => ?_)
      refine pure_ (i := 0) (N := some 15) (v := ?_) (a' := ?_) #[true, false, false, false, false, false, false, false, false, false, false, false] rfl rfl (by kernel_rfl) (fun _ _ _ h => h) (Or.inl ⟨by rfl, ?_⟩) ?_ ?_
      rotate_left
      · intro w'
        go_simp
        with_reducible rfl
      rotate_left
      · simp only [Act.put, List.setIfInBounds_toArray, List.set_cons_zero, List.set_cons_succ, i64_w, i32_w]
        rfl
      refine pure_ (i := 1) (N := some 16) (v := ?_) (a' := ?_) #[true, true, false, false, false, false, false, false, false, false, false, false] rfl rfl (by kernel_rfl) (fun _ _ _ h => h) (Or.inl ⟨by rfl, ?_⟩) ?_ ?_
      rotate_left
      · intro w'
        go_simp
        with_reducible rfl
      rotate_left
      · simp only [Act.put, List.setIfInBounds_toArray, List.set_cons_zero, List.set_cons_succ, i64_w, i32_w]
        rfl
      refine pure_ (i := 2) (N := some 17) (v := ?_) (a' := ?_) #[true, true, true, false, false, false, false, false, false, false, false, false] rfl rfl (by kernel_rfl) (fun _ _ _ h => h) (Or.inl ⟨by rfl, ?_⟩) ?_ ?_
      rotate_left
      · intro w'
        go_simp
        with_reducible rfl
      rotate_left
      · simp only [Act.put, List.setIfInBounds_toArray, List.set_cons_zero, List.set_cons_succ, i64_w, i32_w]
        rfl
      refine pure_ (i := 3) (N := some 18) (v := ?_) (a' := ?_) #[true, true, true, true, false, false, false, false, false, false, false, false] rfl rfl (by kernel_rfl) (fun _ _ _ h => h) (Or.inl ⟨by rfl, ?_⟩) ?_ ?_
      rotate_left
      · intro w'
        go_simp
        with_reducible rfl
      rotate_left
      · simp only [Act.put, List.setIfInBounds_toArray, List.set_cons_zero, List.set_cons_succ, i64_w, i32_w]
        rfl
      refine take_ (i := 4) (N := some 19) (v := ?_) (a' := ?_) #[true, true, true, true, true, false, false, false, false, false, false, false] rfl rfl (by kernel_rfl) (fun _ _ _ h => h) (Or.inl ⟨by rfl, ?_⟩) hHeld ?_ ?_
      rotate_left
      · rintro w' ⟨s0, s1⟩
        go_simp
        with_reducible rfl
      rotate_left
      · simp only [Act.put, List.setIfInBounds_toArray, List.set_cons_zero, List.set_cons_succ, i64_w, i32_w]
        rfl
      refine take_ (i := 5) (N := some 20) (v := .agg cx.toArray) (a' := ?_) #[true, true, true, true, true, true, false, false, false, false, false, false] rfl rfl (by kernel_rfl) (fun _ _ _ h => h) (yieldsIf_load_mid (by rfl) 32 (.tmp 6) rfl g6 (0) rfl cx _ (fun w' h => h.2) Try.underlying32 rfl HSX.out) hHeld ?_ ?_
      rotate_left
      · simp only [Act.put, List.setIfInBounds_toArray, List.set_cons_zero, List.set_cons_succ, i64_w, i32_w]
        rfl
      refine one_ (i := 6) (N := some 21) #[true, true, true, true, true, true, true, false, false, false, false, false] rfl rfl (by kernel_rfl) (by decide) (fun K hK => ?_)
      refine goes_ Try.func21 (by kernel_rfl) rfl #[.agg cx.toArray] (by rfl) rfl rfl (by simp only [List.map_toArray, List.map_cons, List.map_nil]; rfl) ?_
      refine C1.out.mono ?_
      rintro e w3 ⟨cy, rfl, hfk, hb3⟩
      refine ⟨_, rfl, ?_⟩
      obtain ⟨A2, c2, rfl, hle2, hC2⟩ := k32_open (Kd.FK_now hfk)
      have HFY := Lib.hid hfk
      have HB3 := Lib.hid (show Below w2.heap.size w2 w3 from ⟨hb3.os, hb3.tape, hb3.output, hb3.size, hb3.block⟩)
      clear hfk hb3 hle2 hC2
      refine hK.out _ _ (⟨pw_cell_below HB3.out hHeld.1, fun t u ht => pw_cell_below HB3.out (hHeld.2 t u ht)⟩) (fun hHeld => ?_)
      clear hK K
      refine norm_ (a' := ?_) ?_ ?_
      rotate_left
      · show Act.put _ (some 21) _ = _
        simp only [Act.put, List.setIfInBounds_toArray, List.set_cons_zero, List.set_cons_succ, i64_w, i32_w]
        rfl
      refine one_ (i := 7) (N := some 22) #[true, true, true, true, true, true, true, true, false, false, false, false] rfl rfl (by kernel_rfl) (by decide) (fun K hK => ?_)
      refine event_step (v := .slice (some ⟨w3.heap.size, 0, none⟩) 1 1) (w1 := w3.alloc (.cells #[.int .i64 x.f0, .int .i64 x.f1.f0, .int .i64 x.f1.f1, .int .u64 x.f1.f2, .int .i64 x.f1.f3, .int .u64 x.f1.f4, .int .u64 x.f1.f5, .int .u64 x.f1.f6, .int .i64 x.f1.f7, .int .i64 x.f1.f8, .string x.f1.f9, .string x.f1.f10, .string x.f1.f11, .slice A2 x.f1.f12.length c2] 32)) (by rfl) (by first | (go_simp; done) | (go_simp; rfl)) ?_
      refine hK.out _ _ (⟨pw_cell_below (below_alloc (Below.refl _ _) _) hHeld.1, fun t u ht => pw_cell_below (below_alloc (Below.refl _ _) _) (hHeld.2 t u ht)⟩) (fun hHeld => ?_)
      clear hK K
      refine norm_ (a' := ?_) ?_ ?_
      rotate_left
      · show Act.put _ (some 22) _ = _
        simp only [Act.put, List.setIfInBounds_toArray, List.set_cons_zero, List.set_cons_succ, i64_w, i32_w]
        rfl
      have HS3 := Lib.hid (show w3.cell? ⟨g, 0, none⟩ = some (.slice A' ps.length c') ∧ w3.rangeAt g6 0 cx from ⟨pw_cell_below HB3.out ((blk_cell HGG2.out 0).trans rfl), fun t u ht => pw_cell_below HB3.out (HR2.out t u ht)⟩)
      refine one_ (i := 8) (N := some 23) #[true, true, true, true, true, true, true, true, true, false, false, false] rfl rfl (by kernel_rfl) (by decide) (fun K hK => ?_)
      refine Kd.N_append_step k32 (w0 := w3) (W := w3) base (by rfl) (.tmp 19) (.tmp 22) 22 32 zS 152 (by rfl) Try.underlying22 info32 rfl (by decide) (by decide) (.slice A' ps.length c') ps x [.int .i64 x.f0, .int .i64 x.f1.f0, .int .i64 x.f1.f1, .int .u64 x.f1.f2, .int .i64 x.f1.f3, .int .u64 x.f1.f4, .int .u64 x.f1.f5, .int .u64 x.f1.f6, .int .i64 x.f1.f7, .int .i64 x.f1.f8, .string x.f1.f9, .string x.f1.f10, .string x.f1.f11, .slice A2 x.f1.f12.length c2] ok _ (by rfl) (by rfl) HFY.out (fun k hk => ⟨HFR.out k (by have h1 : w2.heap.size ≤ k := hk; have := HB2.out.size; have := HLN.out; omega), fun e => by have h1 : w2.heap.size ≤ k := hk; have := HVL.out k e.symm; have := HB2.out.size; omega⟩) (fun k hk => HFR.out k (by have := HB2.out.size; have := HB3.out.size; have := HLN.out; omega)) (Kd.N_below HN2.out HB3.out) (Below.refl _ _) (by have := HB2.out.size; have := HB3.out.size; have := HLN.out; have := HBS.out; omega) (by have := HPL.out; have := HL.out; omega) ?_
      intro v4 w4 hn4 _ hg4 hat4
      obtain ⟨A3, c3, rfl⟩ := Kd.N_slice hn4
      have HN4 := Lib.hid hn4
      have HG4 := Lib.hid hg4
      have HAT4 := Lib.hid hat4
      have HNE := Lib.hid (fun (b : Nat) (e : (Value.slice A' ps.length c').ownBlock = some b) => (⟨HBX.out.2.2.1 b (HBX.out.2.1.1 b e), by have := HVL.out b e; have := HLN.out.2.1; omega⟩ : b ≠ g ∧ b ≠ g6))
      clear hn4 hg4 hat4
      refine hK.out _ _ (⟨cell_grown HG4.out HS3.out.1 (fun e => (HNE.out _ e.symm).1 rfl), fun t u ht => cell_grown HG4.out (HS3.out.2 t u ht) (fun e => (HNE.out _ e.symm).2 rfl)⟩) (fun hHeld => ?_)
      clear hK K
      refine norm_ (a' := ?_) ?_ ?_
      rotate_left
      · show Act.put _ (some 23) _ = _
        simp only [Act.put, List.setIfInBounds_toArray, List.set_cons_zero, List.set_cons_succ, i64_w, i32_w]
        rfl
      refine pure_ (i := 9) (N := some 24) (v := ?_) (a' := ?_) #[true, true, true, true, true, true, true, true, true, true, false, false] rfl rfl (by kernel_rfl) (fun _ _ _ h => h) (Or.inl ⟨by rfl, ?_⟩) ?_ ?_
      rotate_left
      · intro w'
        go_simp
        with_reducible rfl
      rotate_left
      · simp only [Act.put, List.setIfInBounds_toArray, List.set_cons_zero, List.set_cons_succ, i64_w, i32_w]
        rfl
      refine pure_ (i := 10) (N := some 25) (v := ?_) (a' := ?_) #[true, true, true, true, true, true, true, true, true, true, true, false] rfl rfl (by kernel_rfl) (fun _ _ _ h => h) (Or.inl ⟨by rfl, ?_⟩) ?_ ?_
      rotate_left
      · intro w'
        go_simp
        with_reducible rfl
      rotate_left
      · simp only [Act.put, List.setIfInBounds_toArray, List.set_cons_zero, List.set_cons_succ, i64_w, i32_w]
        rfl
      refine last_ (i := 11) (N := none) #[true, true, true, true, true, true, true, true, true, true, true, true] rfl rfl (by kernel_rfl) (by decide) (fun K hK => ?_)
      have hgg4 : w4.heap[g]? = some (.cells #[.slice A' ps.length c'] 60 (0, 0)) := blk_grown (blk_below HGG2.out HB3.out) HG4.out (fun e => (HNE.out _ e.symm).1 rfl)
      have hc5 : w4.cell? ⟨g, 0, none⟩ = some (.slice A' ps.length c') := (blk_cell hgg4 0).trans rfl
      have hf5 := blk_frozen hgg4 0
      have HGG4 := Lib.hid hgg4
      clear hgg4
      refine skip_ (w1 := w4.setCell ⟨g, 0, none⟩ (.slice A3 (ps ++ [x]).length c3)) (by rfl) rfl (by go_simp) ?_
      clear hc5 hf5
      refine hK.out _ _ ?_
      clear hK K
      refine done_ (by kernel_rfl) ?_
      clear hHeld
      go_wp2_with fail
      go_roundw
      case rel =>
        have hb2 := HB2.out.size
        have hb3 := HB3.out.size
        have hln := HLN.out
        have hbs := HBS.out
        have hN4 := HN4.out
        have hat4 := HAT4.out
        rw [show (ps ++ [x]).length = ps.length + 1 by simp] at hN4 hat4
        refine ⟨j + 1, rfl, by omega, by omega, ⟨_, ⟨blk_set HGG4.out 0 _, by rw [HT.out, ← List.append_assoc, ← HPS.out]; exact Kd.N_far (p := ⟨g, 0, none⟩) hN4 HBX.out.2.2.1 _, HBX.out.2.2⟩, ?_⟩, ?_, ?_⟩
        · rcases hat4 with h | ⟨b, h, hb⟩
          · rcases HAT.out with h2 | ⟨b, h2, hb⟩
            · exact .inl (h.trans h2)
            · exact .inr ⟨b, h.trans h2, hb⟩
          · exact .inr ⟨b, h, by omega⟩
        · refine Kept.setCell (Kept.of_grown HG4.out ((HK.out.below HB2.out).below HB3.out) (fun k e => ?_)) (.inl (.inl rfl)) _
          rcases HAT.out with h2 | ⟨b, h2, hb⟩
          · exact .inl (.inr (e.symm.trans h2))
          · rw [h2] at e; injection e with e; exact .inr (by omega)
        · exact (Below.grown ((HBL.out.trans (HB2.out.mono (by omega))).trans (HB3.out.mono (by omega))) HG4.out (by omega) (fun k e => HVB.out k e)).setCell (p := ⟨g, 0, none⟩) HBX.out.2.2.2 _
      case measure => simp [intOf]; omega
    · obtain rfl : j = l.length := by omega
      have HBX := Lib.hid hbx
      have HAT := Lib.hid hat
      clear hbx hat hk hbl hj
      go_wp2_with fail
      go_ret
      exact ⟨rfl, ⟨v', by have hbx := HBX.out; rwa [Int.toNat_natCast, List.take_length] at hbx, HAT.out⟩, HK.out, HBL.out⟩
end Go.Proofs.Ytijbpncekdiodaa
