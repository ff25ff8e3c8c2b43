/- (Bounds as the arguments' bytes give them.) The walk of MailMoves. Laid by gen_nc_mail.py. -/
import Derived.Test.YtijbpncekdiodaaUa
namespace Go.Proofs.Ytijbpncekdiodaa
open Go.RowKit Go.Proofs.YtijbpncekdiodaaW.PrintWords Go.Proofs.YtijbpncekdiodaaW.PrintLast Go.Proofs.YtijbpncekdiodaaW.PrintMore
open Go.Proofs.Ytijbpncekdiodaa.PMailMoves
set_option linter.unusedVariables false
set_option linter.unusedSimpArgs false
attribute [local go_sem ↓] Go.wp_at_zero Go.wp_at_succ

theorem pw_cell_below' {w W : World} {ad : Addr} {n : Nat} {u : Value} (hb : Below w.heap.size w W) (hlt : ad.block < w.heap.size) (h : w.cell? (ad.add n) = some u) : W.cell? (ad.add n) = some u := (hb.cell (p := ad.add n) (by unfold Addr.add; split <;> exact hlt)).trans h
theorem moved {l : List S32} {k : Nat} (x : S32) (h : k < l.length) : (l ++ [x]).eraseIdx k = l.take k ++ l.drop (k + 1) ++ [x] := by
  rw [List.eraseIdx_append_of_lt_length h, List.eraseIdx_eq_take_drop_succ]
theorem getD_app {l : List S32} {k : Nat} (x : S32) (h : k < l.length) : (l ++ [x]).getD k z32 = l.getD k z32 := by
  rw [List.getD_eq_getElem?_getD, List.getD_eq_getElem?_getD, List.getElem?_append_left h]
theorem getD_mem32 {l : List S32} {k : Nat} (h : k < l.length) : l.getD k z32 ∈ l := by
  rw [List.getD_eq_getElem?_getD, List.getElem?_eq_getElem h]; exact List.getElem_mem _
section
variable {P : Program} {ops : Array Oper} {op : Oper} {a : Act} {S : World → Prop}
theorem yieldsIf_load_adr (hw : Region.wanted op (yielded ops a.tmps) = true) (ty : TypeId) (x : Operand) (ho : op.op = .load ty x)
    (ad : Addr) (hx : a.eval x = .pointer (some ad)) (cs : List Value) (d : TypeDesc) (hS : ∀ w, S w → ∀ j u, cs[j]? = some u → w.cell? (ad.add j) = some u)
    (hu : P.underlying ty = some d) (hd : d.isRow = true) (hi : (P.info? ty).map (·.size) = some cs.length) : YieldsIf P ops S op (.agg cs.toArray) a :=
  .inl ⟨hw, fun w hw' => by
    unfold execOp
    simp only [ho, hx, Sem.run_bind, Sem.run_pure, Result.andThen_ok, run_loadAt_at w ad ty cs d (hS w hw') hu hd hi]⟩
end
theorem FK_vars {W : World} {ok : Nat → Prop} {x : S32} {A : Option Addr} {c : Nat} (h : Kd.FK k32 W ok x [.int .i64 x.f0, .int .i64 x.f1.f0, .int .i64 x.f1.f1, .int .u64 x.f1.f2, .int .i64 x.f1.f3, .int .u64 x.f1.f4, .int .u64 x.f1.f5, .int .u64 x.f1.f6, .int .i64 x.f1.f7, .int .i64 x.f1.f8, .string x.f1.f9, .string x.f1.f10, .string x.f1.f11, .slice A x.f1.f12.length c]) : Kd.C k41 W A x.f1.f12.length x.f1.f12 ∧ x.f1.f12.length ≤ c := by
  obtain ⟨A2, c2, he, hle, hC⟩ := k32_open (Kd.FK_now h)
  simp only [List.cons.injEq, Value.slice.injEq, true_and, and_true] at he
  obtain ⟨rfl, rfl⟩ := he
  exact ⟨hC, hle⟩
theorem Same16_calls (A B : Option Addr) (cA cB : Nat) (x : S32) (w : World) (hx : x.f1.f12.length ≤ 2932031007317) (hA : Kd.C k41 w A x.f1.f12.length x.f1.f12) (hcA : x.f1.f12.length ≤ cA) (hB : Kd.C k41 w B x.f1.f12.length x.f1.f12) (hcB : x.f1.f12.length ≤ cB) :
    Calls Try.prog 16 #[.agg #[.int .i64 x.f0, .int .i64 x.f1.f0, .int .i64 x.f1.f1, .int .u64 x.f1.f2, .int .i64 x.f1.f3, .int .u64 x.f1.f4, .int .u64 x.f1.f5, .int .u64 x.f1.f6, .int .i64 x.f1.f7, .int .i64 x.f1.f8, .string x.f1.f9, .string x.f1.f10, .string x.f1.f11, .slice A x.f1.f12.length cA], .agg #[.int .i64 x.f0, .int .i64 x.f1.f0, .int .i64 x.f1.f1, .int .u64 x.f1.f2, .int .i64 x.f1.f3, .int .u64 x.f1.f4, .int .u64 x.f1.f5, .int .u64 x.f1.f6, .int .i64 x.f1.f7, .int .i64 x.f1.f8, .string x.f1.f9, .string x.f1.f10, .string x.f1.f11, .slice B x.f1.f12.length cB]] w fun e w' => e = .returned (.bool true) ∧ Below w.heap.size w w' :=
  wherrylaw19_same.calls (x.f1.f12.length + 1) _ _ _ _ _ _ _ _ _ _ _ _ _ A cA x.f1.f12 _ _ _ _ _ _ _ _ _ _ _ _ _ B cB x.f1.f12 true w hA hcA hB hcB (by
    unfold wherrylaw19_same.f
    rw [same12_f _ _ _ _ _ _ _ _ _ _ _ _ _ (by omega) _ (by omega)]
    simp)

set_option maxRecDepth 100000 in
set_option maxHeartbeats 4000000 in
theorem mailMoves_out (A : Option Addr) (cA : Nat) (l : List S32) (i : Int) (w : World) (hA : Kd.C k32 w A l.length l) (hl : l.length ≤ 925904528626) (hv : ∀ x ∈ l, x.f1.f12.length ≤ 2932031007317) (hi : i < 0 ∨ (l.length : Int) ≤ i) :
    Calls Try.prog 5 #[.slice A l.length cA, .int .i64 i] w fun e w' => e = .returned (.bool true) ∧ Below w.heap.size w w' := by
  have HA := Lib.hid hA
  have HV := Lib.hid hv
  have HI := Lib.hid hi
  have hd : (decide (i < 0) || decide ((l.length : Int) ≤ i)) = true := by simpa using hi
  obtain ⟨b1, hb1⟩ : ∃ b, decide (i < 0) = b := ⟨_, rfl⟩
  obtain ⟨b2, hb2⟩ : ∃ b, decide ((l.length : Int) ≤ i) = b := ⟨_, rfl⟩
  rw [hb1, hb2] at hd
  have hlq : ((l.length : Int) == (l.length : Int)) = true := by simp
  clear hA hv hi
  cases b1
  all_goals cases b2
  all_goals first | (exact absurd hd (by decide)) | skip
  all_goals clear hd
  all_goals (
    go_enter Try.func5, Try.ntmps5
    go_wp2_with (first | (go_at_call 8; refine (shown_calls _).mono ?_; rintro e w1 ⟨rfl, hb1⟩; have HB1 := Lib.hid hb1; clear hb1) | (go_at_call 9; refine (New_calls _).mono ?_; rintro e w2 ⟨rfl, hw2⟩; have HB2 := Lib.hid (show Below w.heap.size w w2 from hw2 ▸ below_alloc HB1.out _); have HBX2 := Lib.hid (show BoxV w2 w1.heap.size w.heap.size (fun k => w.heap.size ≤ k ∧ k ≠ w1.heap.size) (.slice none 0 0) [] from hw2 ▸ BoxV.new w1 w.heap.size _ HB1.out.size (fun k hk => hk.2)); clear hw2) | (go_at_call 10; refine (Put_calls w1.heap.size w.heap.size _ cA [] l _ w2 _ _ HBX2.out (fun k hk => ⟨by have := HB2.out.size; omega, by have := HBX2.out.lt; omega⟩) (F_arg HA.out HB2.out) (fun k hk _ => ⟨by have := HB1.out.size; omega, by simp [Value.ownBlock]⟩) HB2.out.size (fits_all HV.out) (by simp only [List.length_nil]; omega)).mono ?_; rintro e w3 ⟨rfl, ⟨v3, hbx3, _⟩, _, hb3⟩; have HBX3 := Lib.hid (show BoxV w3 w1.heap.size w.heap.size (fun k => w.heap.size ≤ k ∧ k ≠ w1.heap.size) v3 l from hbx3); have HB3 := Lib.hid (HB2.out.trans hb3); clear hbx3 hb3 HBX2) | (go_at_call 15; refine (Copy_out w1.heap.size w.heap.size i l w3 _ v3 HBX3.out HI.out).mono ?_; rintro e w4 ⟨rfl, hb4⟩; have HBX4 := Lib.hid (HBX3.out.below hb4); have HB4 := Lib.hid (HB3.out.trans (hb4.mono HB3.out.size)); clear hb4) | (go_at_call 11; refine (Take_out w1.heap.size w.heap.size i l w4 _ v3 HBX4.out HI.out).mono ?_; rintro e w5 ⟨rfl, hb5⟩; have HBX5 := Lib.hid (HBX4.out.below hb5); have HB5 := Lib.hid (HB4.out.trans (hb5.mono HB4.out.size)); clear hb5) | ((with_reducible refine gate_dst (N := 8) rfl ?_); refine box_event ?hg (N := 8) ?hd (cs := zS.cells) (t := 32) ?hr ?_; (case hd => rfl); (case hg => rfl); (case hr => first | (go_simp; done) | (go_simp; rfl)); intro g6 hg w6 hz hb; have HGg6 := Lib.hid hg; have HZg6 := Lib.hid hz; have HBg6 := Lib.hid hb; clear hg hz hb) | (refine wpList_store_row rfl rfl 32 (.tmp 8) (.tmp 35) rfl (g := g6) rfl rfl HZg6.out (by kernel_rfl) (rfl) (one14 (x := z32) rfl) ?_; intro w7 hz hg; have HZw7 := Lib.hid hz; have HGw7 := Lib.hid hg; have HBX7 := Lib.hid ((((HBX5.out.bound).below HBg6.out).grown hg (by rintro ⟨_, h⟩; have := HGg6.out; omega) (by have := HBX5.out.lt; have := HGg6.out; omega))); have HB7 := Lib.hid (Below.grown (HB5.out.trans (HBg6.out.mono (by have := HB5.out.size; omega))) hg (by have := HB5.out.size; have := HBg6.out.size; omega) (fun b e => by injection e with e; have := HB5.out.size; have := HGg6.out; omega)); clear hz hg) | (go_at_call 12; refine (Len_calls w1.heap.size w.heap.size l w7 _ v3 HBX7.out).mono ?_; rintro e w8 ⟨rfl, rfl⟩))
    go_ret
    exact ⟨by simp, HB7.out⟩)
set_option maxRecDepth 100000 in
set_option maxHeartbeats 8000000 in
theorem mailMoves_in (A : Option Addr) (cA : Nat) (l : List S32) (i : Int) (w : World) (hA : Kd.C k32 w A l.length l) (hcA : l.length ≤ cA) (hl : l.length ≤ 925904528626) (hv : ∀ x ∈ l, x.f1.f12.length ≤ 2932031007317) (h0 : 0 ≤ i) (hi : i < l.length) :
    Calls Try.prog 5 #[.slice A l.length cA, .int .i64 i] w fun e w' => e = .returned (.bool true) ∧ Below w.heap.size w w' := by
  have HA := Lib.hid hA
  have HV := Lib.hid hv
  have HI := Lib.hid hi
  have hil : i.toNat < l.length := by omega
  have hd1 : decide (i < 0) = false := by simp; omega
  have hd2 : decide ((l.length : Int) ≤ i) = false := by simp; omega
  have hlq : ((l.length : Int) == (l.length : Int)) = true := by simp
  obtain ⟨i0, hi0, hz0, hz1, hz2⟩ := info_parts info32
  have cT := cut_to (P := Try.prog) 22 32 .i64 Try.underlying22 hi0 A l.length cA i h0 (by omega) hcA
  have cF := cut_from (P := Try.prog) 22 32 .i64 Try.underlying22 hi0 14 hz1 A l.length cA (i + 1) (by omega) (by omega)
  rw [show (14 : Nat) = k32.sz from rfl, show (i + 1).toNat = i.toNat + 1 by omega] at cF
  clear hi0 hz0 hz1 hz2 i0
  obtain ⟨k, hk⟩ : ∃ k, k = i.toNat := ⟨_, rfl⟩
  rw [← hk] at cT cF hil
  obtain ⟨AA, hAA⟩ : ∃ AA, AA = (if cA = k + 1 then A else A.map (·.add ((k + 1) * k32.sz))) := ⟨_, rfl⟩
  have cTl : (l.take k).length = k := by rw [List.length_take]; omega
  have cFl : (l.drop (k + 1)).length = l.length - (k + 1) := by rw [List.length_drop]
  obtain ⟨n2, hn2⟩ : ∃ n2, n2 = l.length - (k + 1) := ⟨_, rfl⟩
  rw [← hAA, ← hn2] at cF
  obtain ⟨c2, hc2⟩ : ∃ c2, c2 = cA - (k + 1) := ⟨_, rfl⟩
  rw [← hc2] at cF
  obtain ⟨x, hx⟩ : ∃ x, x = l.getD k z32 := ⟨_, rfl⟩
  have hxl : x.f1.f12.length ≤ 2932031007317 := hv _ (hx ▸ getD_mem32 hil)
  obtain ⟨M, hM⟩ : ∃ M, M = l.take k ++ l.drop (k + 1) ++ [x] := ⟨_, rfl⟩
  have hMl : M.length = l.length := by rw [hM, List.length_append, List.length_append, cTl, cFl]; simp; omega
  have hMv : ∀ y ∈ M, y.f1.f12.length ≤ 2932031007317 := by
    intro y hy
    rw [hM] at hy
    rcases List.mem_append.1 hy with hy | hy
    · rcases List.mem_append.1 hy with hy | hy
      · exact hv _ (List.mem_of_mem_take hy)
      · exact hv _ (List.mem_of_mem_drop hy)
    · rw [List.mem_singleton] at hy; rw [hy]; exact hxl
  have hlv : ∀ y ∈ l ++ [x], y.f1.f12.length ≤ 2932031007317 := by
    intro y hy
    rcases List.mem_append.1 hy with hy | hy
    · exact hv _ hy
    · rw [List.mem_singleton] at hy; rw [hy]; exact hxl
  obtain ⟨ad, cx, hA2, hcl, hFK0, hcc, had⟩ := Kd.F_get (F_arg hA (Below.refl _ w)) z32 i h0 hi
  rw [← hk, ← hx] at hFK0
  obtain ⟨Ax, kx, rfl, hkx, _⟩ := k32_open (Kd.FK_now hFK0)
  subst hA2
  have HFK0 := Lib.hid hFK0
  have HCC := Lib.hid hcc
  have HX := Lib.hid hx
  have HM := Lib.hid hM
  have HML := Lib.hid hMl
  have HMV := Lib.hid hMv
  have HLV := Lib.hid hlv
  have HXL := Lib.hid hxl
  have HK := Lib.hid hk
  have HIL := Lib.hid hil
  have HAA := Lib.hid hAA
  have HN2 := Lib.hid (hn2.trans cFl.symm)
  have HTL := Lib.hid cTl
  have HCA := Lib.hid hcA
  have HKX := Lib.hid hkx
  have hi2 : i ≤ 925904528625 := by omega
  have HX1 := Lib.hid (show l.getD i.toNat z32 = x from hk ▸ hx.symm)
  have HF1 := Lib.hid (fun (W : World) (hb : Below w.heap.size w W) => (show Kd.F k32 W (fun b => b < w.heap.size) (some ad) k (l.take k) by have h := Kd.F_take (F_arg hA hb) (Nat.le_of_lt hil); rwa [cTl] at h))
  have HF2 := Lib.hid (fun (W : World) (hb : Below w.heap.size w W) => (show Kd.F k32 W (fun b => b < w.heap.size) AA n2 (l.drop (k + 1)) by have h := Kd.F_cut (c := cA) (m := k + 1) (F_arg hA hb) hil hcA; rw [← hAA, cFl, ← hn2] at h; exact h))
  have HF3 := Lib.hid (fun (W : World) (hb : Below w.heap.size w W) => (show Kd.FK k32 W (fun b => b < w.heap.size) x [.int .i64 x.f0, .int .i64 x.f1.f0, .int .i64 x.f1.f1, .int .u64 x.f1.f2, .int .i64 x.f1.f3, .int .u64 x.f1.f4, .int .u64 x.f1.f5, .int .u64 x.f1.f6, .int .i64 x.f1.f7, .int .i64 x.f1.f8, .string x.f1.f9, .string x.f1.f10, .string x.f1.f11, .slice Ax x.f1.f12.length kx] from Kd.FK_below hFK0 hb))
  have hadlt : ad.block < w.heap.size := had (by decide)
  have HF4 := Lib.hid (fun (W : World) (hb : Below w.heap.size w W) => (fun t u h => (by rw [add_add]; exact (pw_cell_below' hb hadlt (hcc t u h)) : W.cell? ((ad.add (i.toNat * 14)).add t) = some u) : ∀ t u, [.int .i64 x.f0, .int .i64 x.f1.f0, .int .i64 x.f1.f1, .int .u64 x.f1.f2, .int .i64 x.f1.f3, .int .u64 x.f1.f4, .int .u64 x.f1.f5, .int .u64 x.f1.f6, .int .i64 x.f1.f7, .int .i64 x.f1.f8, .string x.f1.f9, .string x.f1.f10, .string x.f1.f11, .slice Ax x.f1.f12.length kx][t]? = some u → W.cell? ((ad.add (i.toNat * 14)).add t) = some u))
  have hn2l : k + n2 + 1 ≤ 925904528626 := by omega
  clear hA hv hcA hx hM hMl hMv hlv hxl hk hil hAA hn2 hc2 cTl cFl hFK0 hcc hkx hcl
  go_enter Try.func5, Try.ntmps5
  go_wp2_with (first | (go_at_call 8; refine (shown_calls _).mono ?_; rintro e w1 ⟨rfl, hb1⟩; have HB1 := Lib.hid hb1; clear hb1) | (go_at_call 9; refine (New_calls _).mono ?_; rintro e w2 ⟨rfl, hw2⟩; have HB2 := Lib.hid (show Below w.heap.size w w2 from hw2 ▸ below_alloc HB1.out _); have HBX2 := Lib.hid (show BoxV w2 w1.heap.size w.heap.size (fun k => w.heap.size ≤ k ∧ k ≠ w1.heap.size) (.slice none 0 0) [] from hw2 ▸ BoxV.new w1 w.heap.size _ HB1.out.size (fun k hk => hk.2)); clear hw2) | (go_at_call 10; refine (Put_calls w1.heap.size w.heap.size _ cA [] l _ w2 _ _ HBX2.out (fun k hk => ⟨by have := HB2.out.size; omega, by have := HBX2.out.lt; omega⟩) (F_arg HA.out HB2.out) (fun k hk _ => ⟨by have := HB1.out.size; omega, by simp [Value.ownBlock]⟩) HB2.out.size (fits_all HV.out) (by simp only [List.length_nil]; omega)).mono ?_; rintro e w3 ⟨rfl, ⟨v3, hbx3, _⟩, _, hb3⟩; have HBX3 := Lib.hid (show BoxV w3 w1.heap.size w.heap.size (fun k => w.heap.size ≤ k ∧ k ≠ w1.heap.size) v3 l from hbx3); have HB3 := Lib.hid (HB2.out.trans hb3); clear hbx3 hb3 HBX2) | (go_at_call 15; refine (Copy_in w1.heap.size w.heap.size i l w3 _ v3 HBX3.out (fun b hb => ⟨by have := HB3.out.size; omega, by have := HBX3.out.lt; omega⟩) h0 HI.out (fits_all HV.out) (by omega)).mono ?_; rintro e w4 ⟨rfl, ⟨v4, hbx4, _⟩, _, hb4⟩; rw [HX1.out] at hbx4; have HBX4 := Lib.hid hbx4; have HB4 := Lib.hid (HB3.out.trans hb4); clear hbx4 hb4) | (go_at_call 11; refine (Take_in w1.heap.size w.heap.size i (l ++ [x]) w4 _ v4 HBX4.out (fun b hb => ⟨by have := HB4.out.size; omega, by have := HBX4.out.lt; omega⟩) h0 (by rw [List.length_append]; have := HI.out; simp only [List.length_cons, List.length_nil]; omega) (fits_all HLV.out) (by rw [List.length_append]; simp only [List.length_cons, List.length_nil]; omega)).mono ?_; rintro e w5 ⟨c5, rfl, hfk5, ⟨v5, hbx5, _⟩, _, hb5⟩; rw [← HK.out, getD_app x HIL.out, HK.out, HX1.out] at hfk5; rw [← HK.out, moved x HIL.out, ← HM.out] at hbx5; obtain ⟨A5, k5, rfl, hk5, _⟩ := k32_open (Kd.FK_now hfk5); have HK5 := Lib.hid hk5; have HFK5 := Lib.hid (show Kd.FK k32 w5 (fun b => w4.heap.size ≤ b) x _ from hfk5); have HBX5 := Lib.hid hbx5; have HB5 := Lib.hid (HB4.out.trans hb5); have HS5 := Lib.hid hb5.size; clear hfk5 hbx5 hb5 hk5) | ((with_reducible refine gate_dst (N := 8) rfl ?_); refine box_event ?hg (N := 8) ?hd (cs := zS.cells) (t := 32) ?hr ?_; (case hd => rfl); (case hg => rfl); (case hr => first | (go_simp; done) | (go_simp; rfl)); intro g6 hg w6 hz hb; have HGg6 := Lib.hid hg; have HZg6 := Lib.hid hz; have HBg6 := Lib.hid hb; clear hg hz hb) | (refine wpList_store_row rfl rfl 32 (.tmp 8) (.tmp 35) rfl (g := g6) rfl rfl HZg6.out (by kernel_rfl) (rfl) (k32.K_one (Kd.FK_now HFK5.out)) ?_; intro w7 hz hg; have HZw7 := Lib.hid hz; have HGw7 := Lib.hid hg; have HBX7 := Lib.hid ((((HBX5.out.bound).below HBg6.out).grown hg (by rintro ⟨_, h⟩; have := HGg6.out; omega) (by have := HBX5.out.lt; have := HGg6.out; omega))); have HFK7 := Lib.hid (Kd.FK_grown (Kd.FK_below (Kd.FK_bound HFK5.out) HBg6.out) hg (fun b hb e => by injection e with e; have := hb.2; have := HGg6.out; omega)); have HB7 := Lib.hid (Below.grown (HB5.out.trans (HBg6.out.mono (by have := HB5.out.size; omega))) hg (by have := HB5.out.size; have := HBg6.out.size; omega) (fun b e => by injection e with e; have := HB5.out.size; have := HGg6.out; omega)); have HE := Lib.hid (Kd.R_N (R_empty k32 32 w7 w7.heap.size (fun _ => True) (Nat.le_refl _) trivial)); clear hz hg) | ((with_reducible refine gate_builtin (b := .append) (xs := #[.tmp 58, .tmp 61]) rfl ?_); at_builtin; refine Kd.N_append_rows k32 (w0 := w7) w7.heap.size rfl (.tmp 58) (.tmp 61) 22 32 zS 152 rfl Try.underlying22 info32 rfl (by decide) (by decide) (.slice (some ⟨w7.heap.size, 0, none⟩) 0 0) [] (l.take k) (some ad) k cA (fun _ => True) _ rfl rfl HE.out (HF1.out _ (below_alloc HB7.out _)) (fun b hb => ⟨trivial, fun e => by have e2 : some b = some w7.heap.size := e; injection e2 with e2; have := HB7.out.size; omega⟩) (fun _ _ => trivial) (below_alloc (Below.refl _ _) _) (by simp) (by simp only [List.length_nil]; omega) ?_; intro v8 w8 hn8 hb8 _ _; have HN8 := Lib.hid (show Kd.N k32 32 w8 w7.heap.size (fun _ => True) v8 (l.take k) from hn8); have HB8 := Lib.hid hb8; clear hn8 hb8) | ((with_reducible refine gate_builtin (b := .append) (xs := #[.tmp 63, .tmp 67]) rfl ?_); at_builtin; refine Kd.N_append_rows k32 (w0 := w7) w7.heap.size rfl (.tmp 63) (.tmp 67) 22 32 zS 152 rfl Try.underlying22 info32 rfl (by decide) (by decide) v8 (l.take k) (l.drop (k + 1)) AA n2 c2 (fun _ => True) _ rfl rfl HN8.out (HF2.out _ (HB7.out.trans (HB8.out.mono HB7.out.size))) (fun b hb => ⟨trivial, fun e => by have := Kd.N_base HN8.out b e.symm; have := HB7.out.size; omega⟩) (fun _ _ => trivial) HB8.out HB8.out.size (by rw [HTL.out]; omega) ?_; intro v9 w9 hn9 hb9 _ _; have HN9 := Lib.hid hn9; have HB9 := Lib.hid hb9; clear hn9 hb9) | ((with_reducible refine gate_dst (N := 73) rfl ?_); refine wpList_load_at rfl 32 (.tmp 72) rfl (ad.add (i.toNat * 14)) rfl _ _ (HF4.out _ (HB7.out.trans (HB9.out.mono HB7.out.size))) Try.underlying32 rfl (by kernel_rfl) ?_) | ((with_reducible refine gate_builtin (b := .append) (xs := #[.tmp 69, .tmp 74]) rfl ?_); at_builtin; refine Kd.N_append k32 (w0 := w7) (W := w9) w7.heap.size rfl (.tmp 69) (.tmp 74) 22 32 zS 152 rfl Try.underlying22 info32 rfl (by decide) (by decide) v9 (l.take k ++ l.drop (k + 1)) x [.int .i64 x.f0, .int .i64 x.f1.f0, .int .i64 x.f1.f1, .int .u64 x.f1.f2, .int .i64 x.f1.f3, .int .u64 x.f1.f4, .int .u64 x.f1.f5, .int .u64 x.f1.f6, .int .i64 x.f1.f7, .int .i64 x.f1.f8, .string x.f1.f9, .string x.f1.f10, .string x.f1.f11, .slice Ax x.f1.f12.length kx] (fun _ => True) _ rfl rfl (HF3.out _ (HB7.out.trans (HB9.out.mono HB7.out.size))) (fun b hb => ⟨trivial, fun e => by have := Kd.N_base HN9.out b e.symm; have := HB7.out.size; omega⟩) (fun _ _ => trivial) HN9.out HB9.out HB9.out.size (by rw [List.length_append, HTL.out, ← HN2.out]; omega) ?_; intro v10 w10 hn10 hb10 _ _; rw [← HM.out] at hn10; obtain ⟨A10, c10, rfl⟩ := Kd.N_slice hn10; have HN10 := Lib.hid hn10; have HB10 := Lib.hid hb10; clear hn10 hb10))
  have HB70 := Lib.hid (HB7.out.trans (HB10.out.mono HB7.out.size))
  have HBXS := Lib.hid (show BoxV w10 w1.heap.size w.heap.size (fun b => b < w10.heap.size ∧ b ≠ w1.heap.size) v5 M from (HBX7.out.below HB10.out).mono (fun b hb => ⟨by have := hb.2; have := HBg6.out.size; have := HGw7.out.size; have := HB10.out.size; omega, hb.1.2⟩) (fun b hb => hb.2))
  have HFK10 := Lib.hid (Kd.FK_below HFK7.out HB10.out)
  have HZ10 := Lib.hid (blk_below HZw7.out HB10.out)
  clear HB7 HB10 HBX7 HFK7 HZw7 HE HN8 HB8 HN9 HB9 HBg6 HGg6 HZg6 HGw7 HFK5 HBX5 HBX4 HB4 HB5 HBX3 HB3 HB2 HB1 HS5
  go_wp2_with fail
  go_loopw [11, 12] (fun ov iv W => ∃ (j : Int) (vo : Value), iv = .int .i64 j ∧ ov = vo ∧ 0 ≤ j ∧ j ≤ l.length ∧ Kd.N k32 32 W w10.heap.size (fun b => w10.heap.size ≤ b) vo (M.take j.toNat) ∧ Below w10.heap.size w10 W) (fun _ iv _ => l.length - (intOf iv).toNat)
  case atStart => exact ⟨0, .slice none 0 0, rfl, rfl, Int.le_refl _, by omega, Kd.N_nil _ _ _ _ _, Below.refl _ _⟩
  case round =>
    obtain ⟨j, vo, rfl, rfl, hj0, hj, hno, hbw⟩ := hrel
    have HNO := Lib.hid hno
    have HBW := Lib.hid hbw
    have HJ := Lib.hid hj
    by_cases hlt : j < (l.length : Int)
    · have hjM : j.toNat < M.length := by rw [HML.out]; omega
      have HTK := Lib.hid (take_snoc32 (l := M) hjM)
      have hjb : j ≤ 925904528626 := by omega
      have HP := Lib.hid (Peek_in w1.heap.size w.heap.size j M wr (fun b => (b < w10.heap.size ∧ b ≠ w1.heap.size) ∨ wr.heap.size ≤ b) v5 ((HBXS.out.below hbw).mono (fun b hb => .inl hb) (fun b hb => by have := (HBXS.out.below hbw).lt; rcases hb with hb | hb; exact hb.2; omega)) (fun b hb => .inr hb) hj0 (by omega) (fits_all HMV.out) (by rw [HML.out]; omega))
      have HJM := Lib.hid hjM
      generalize M.getD j.toNat z32 = y at HTK HP
      clear hno hbw hj hjM
      go_wp2_with (first | (go_at_call 14; refine HP.out.mono ?_; rintro e w11 ⟨c11, rfl, hfk, hb11⟩; obtain ⟨A2, c2, rfl, _, _⟩ := k32_open (Kd.FK_now hfk); have HFK := Lib.hid (show Kd.FK k32 w11 (fun b => wr.heap.size ≤ b) y _ from hfk); have HB11 := Lib.hid hb11; clear hfk hb11) | ((with_reducible refine gate_dst (N := 13) rfl ?_); refine box_event ?hg (N := 13) ?hd (cs := zS.cells) (t := 32) ?hr ?_; (case hd => rfl); (case hg => rfl); (case hr => first | (go_simp; done) | (go_simp; rfl)); intro g13 hg w12 hz hb; have HGg13 := Lib.hid hg; have HZg13 := Lib.hid hz; have HBg13 := Lib.hid hb; clear hg hz hb) | (refine wpList_store_row rfl rfl 32 (.tmp 13) (.tmp 86) rfl (g := g13) rfl rfl HZg13.out (by kernel_rfl) (rfl) (k32.K_one (Kd.FK_now HFK.out)) ?_; intro w13 hz hg; have HZw13 := Lib.hid hz; have HGw13 := Lib.hid hg; have HFKL := Lib.hid (Kd.FK_grown (Kd.FK_below (Kd.FK_bound HFK.out) HBg13.out) hg (fun b hb e => by injection e with e; have := hb.2; have := HGg13.out; omega)); have HNL := Lib.hid (Kd.N_mono (Kd.N_grown (Kd.N_below (Kd.N_bound (Kd.N_below HNO.out HB11.out)) HBg13.out) hg (fun b hb e => by injection e with e; have := hb.2; have := HGg13.out; omega)) (fun b hb => hb.1)); have HBL := Lib.hid (Below.grown ((HBW.out.trans (HB11.out.mono HBW.out.size)).trans (HBg13.out.mono (by have := HBW.out.size; have := HB11.out.size; omega))) hg (by have := HBW.out.size; have := HB11.out.size; have := HBg13.out.size; omega) (fun b e => by injection e with e; have := HBW.out.size; have := HB11.out.size; have := HGg13.out; omega)); clear hz hg) | ((with_reducible refine gate_dst (N := 91) rfl ?_); refine wpList_load_row rfl 32 (.tmp 13) rfl g13 rfl 32 _ (0, 0) _ HZw13.out Try.underlying32 rfl (by kernel_rfl) ?_) | ((with_reducible refine gate_builtin (b := .append) (xs := #[.tmp 90, .tmp 92]) rfl ?_); at_builtin; refine Kd.N_append k32 (w0 := w10) (W := w13) w10.heap.size rfl (.tmp 90) (.tmp 92) 22 32 zS 152 rfl Try.underlying22 info32 rfl (by decide) (by decide) u11 (M.take j.toNat) y [.int .i64 y.f0, .int .i64 y.f1.f0, .int .i64 y.f1.f1, .int .u64 y.f1.f2, .int .i64 y.f1.f3, .int .u64 y.f1.f4, .int .u64 y.f1.f5, .int .u64 y.f1.f6, .int .i64 y.f1.f7, .int .i64 y.f1.f8, .string y.f1.f9, .string y.f1.f10, .string y.f1.f11, .slice A2 y.f1.f12.length c2] (fun b => w10.heap.size ≤ b) _ rfl rfl HFKL.out (fun b hb => ⟨by have := HBW.out.size; have := hb.1; omega, fun e => by have := Kd.N_lt HNO.out b e.symm; have := hb.1; omega⟩) (fun b hb => by have := HBL.out.size; omega) HNL.out HBL.out HBL.out.size (by rw [List.length_take]; have := HJM.out; have := HML.out; omega) ?_; intro v14 w14 hn14 hb14 _ _; have HN14 := Lib.hid hn14; have HB14 := Lib.hid hb14; clear hn14 hb14))
      go_roundw
      case rel =>
        refine ⟨j + 1, v14, rfl, rfl, by omega, by omega, ?_, HB14.out⟩
        rw [show (j + 1).toNat = j.toNat + 1 by omega, HTK.out]
        exact HN14.out
      case measure => simp [intOf]; omega
    · have hjj : j.toNat = M.length := by have := HML.out; omega
      rw [hjj, List.take_length] at hno
      obtain ⟨A3, c3, rfl⟩ := Kd.N_slice hno
      have HNE := Lib.hid hno
      have hdj : decide (j < (l.length : Int)) = false := by simp; omega
      clear hno hbw hj hjj HNO
      have HBW0 := Lib.hid (HB70.out.trans (HBW.out.mono HB70.out.size))
      have HBD := Lib.hid (below_drew1 (Below.refl wr.heap.size wr))
      have C16 := Lib.hid (Same16_calls A5 Ax k5 kx x wr.drew HXL.out (FK_vars (Kd.FK_below (Kd.FK_below HFK10.out HBW.out) HBD.out)).1 HK5.out (FK_vars (HF3.out _ (HBW0.out.trans (HBD.out.mono HBW0.out.size)))).1 HKX.out)
      have HS := Lib.hid (show wr.drew.rangeAt g6 0 [.int .i64 x.f0, .int .i64 x.f1.f0, .int .i64 x.f1.f1, .int .u64 x.f1.f2, .int .i64 x.f1.f3, .int .u64 x.f1.f4, .int .u64 x.f1.f5, .int .u64 x.f1.f6, .int .i64 x.f1.f7, .int .i64 x.f1.f8, .string x.f1.f9, .string x.f1.f10, .string x.f1.f11, .slice A5 x.f1.f12.length k5] ∧ (∀ t u, [.int .i64 x.f0, .int .i64 x.f1.f0, .int .i64 x.f1.f1, .int .u64 x.f1.f2, .int .i64 x.f1.f3, .int .u64 x.f1.f4, .int .u64 x.f1.f5, .int .u64 x.f1.f6, .int .i64 x.f1.f7, .int .i64 x.f1.f8, .string x.f1.f9, .string x.f1.f10, .string x.f1.f11, .slice Ax x.f1.f12.length kx][t]? = some u → wr.drew.cell? ((ad.add (i.toNat * 14)).add t) = some u) from ⟨fun t u ht => by rw [Nat.zero_add, blk_cell (blk_below (blk_below HZ10.out HBW.out) HBD.out) t]; simpa using ht, HF4.out _ (HBW0.out.trans (HBD.out.mono HBW0.out.size))⟩)
      have hml2 : ((M.length : Int) == (l.length : Int)) = true := by rw [HML.out]; simp
      go_wp2_with fail
      refine start_ (n := 7) (S := fun w' => w'.rangeAt g6 0 [.int .i64 x.f0, .int .i64 x.f1.f0, .int .i64 x.f1.f1, .int .u64 x.f1.f2, .int .i64 x.f1.f3, .int .u64 x.f1.f4, .int .u64 x.f1.f5, .int .u64 x.f1.f6, .int .i64 x.f1.f7, .int .i64 x.f1.f8, .string x.f1.f9, .string x.f1.f10, .string x.f1.f11, .slice A5 x.f1.f12.length k5] ∧ (∀ t u, [.int .i64 x.f0, .int .i64 x.f1.f0, .int .i64 x.f1.f1, .int .u64 x.f1.f2, .int .i64 x.f1.f3, .int .u64 x.f1.f4, .int .u64 x.f1.f5, .int .u64 x.f1.f6, .int .i64 x.f1.f7, .int .i64 x.f1.f8, .string x.f1.f9, .string x.f1.f10, .string x.f1.f11, .slice Ax x.f1.f12.length kx][t]? = some u → w'.cell? ((ad.add (i.toNat * 14)).add t) = some u)) (ds := []) #[false, false, false, false, false, false, false] (by kernel_rfl) rfl rfl (⟨fun t u ht => HS.out.1 t u ht, fun t u ht => HS.out.2 t u ht⟩) (fun hHeld => ?_)
      refine take_ (i := 0) (N := some 94) (v := .agg [.int .i64 x.f0, .int .i64 x.f1.f0, .int .i64 x.f1.f1, .int .u64 x.f1.f2, .int .i64 x.f1.f3, .int .u64 x.f1.f4, .int .u64 x.f1.f5, .int .u64 x.f1.f6, .int .i64 x.f1.f7, .int .i64 x.f1.f8, .string x.f1.f9, .string x.f1.f10, .string x.f1.f11, .slice A5 x.f1.f12.length k5].toArray) (a' := ?_) #[true, false, false, false, false, false, false] rfl rfl (by kernel_rfl) (fun _ _ _ h => h) (yieldsIf_load_mid (by rfl) 32 (.tmp 8) rfl g6 (0) rfl [.int .i64 x.f0, .int .i64 x.f1.f0, .int .i64 x.f1.f1, .int .u64 x.f1.f2, .int .i64 x.f1.f3, .int .u64 x.f1.f4, .int .u64 x.f1.f5, .int .u64 x.f1.f6, .int .i64 x.f1.f7, .int .i64 x.f1.f8, .string x.f1.f9, .string x.f1.f10, .string x.f1.f11, .slice A5 x.f1.f12.length k5] _ (fun w' h => h.1) Try.underlying32 rfl (by kernel_rfl)) hHeld ?_ ?_
      rotate_left
      · simp only [Act.put, List.setIfInBounds_toArray, List.set_cons_zero, List.set_cons_succ, i64_w, i32_w]
        rfl
      refine pure_ (i := 1) (N := some 95) (v := ?_) (a' := ?_) #[true, true, false, false, false, false, false] rfl rfl (by kernel_rfl) (fun _ _ _ h => h) (Or.inl ⟨by rfl, ?_⟩) ?_ ?_
      rotate_left
      · intro w'
        go_simp
        with_reducible rfl
      rotate_left
      · simp only [Act.put, List.setIfInBounds_toArray, List.set_cons_zero, List.set_cons_succ, i64_w, i32_w]
        rfl
      refine pure_ (i := 2) (N := some 96) (v := ?_) (a' := ?_) #[true, true, true, false, false, false, false] rfl rfl (by kernel_rfl) (fun _ _ _ h => h) (Or.inl ⟨by rfl, ?_⟩) ?_ ?_
      rotate_left
      · intro w'
        go_simp
        with_reducible rfl
      rotate_left
      · simp only [Act.put, List.setIfInBounds_toArray, List.set_cons_zero, List.set_cons_succ, i64_w, i32_w]
        rfl
      refine pure_ (i := 3) (N := some 97) (v := ?_) (a' := ?_) #[true, true, true, true, false, false, false] rfl rfl (by kernel_rfl) (fun _ _ _ h => h) (Or.inl ⟨by rfl, ?_⟩) ?_ ?_
      rotate_left
      · intro w'
        go_simp
        with_reducible rfl
      rotate_left
      · simp only [Act.put, List.setIfInBounds_toArray, List.set_cons_zero, List.set_cons_succ, i64_w, i32_w]
        rfl
      refine take_ (i := 4) (N := some 98) (v := .agg [.int .i64 x.f0, .int .i64 x.f1.f0, .int .i64 x.f1.f1, .int .u64 x.f1.f2, .int .i64 x.f1.f3, .int .u64 x.f1.f4, .int .u64 x.f1.f5, .int .u64 x.f1.f6, .int .i64 x.f1.f7, .int .i64 x.f1.f8, .string x.f1.f9, .string x.f1.f10, .string x.f1.f11, .slice Ax x.f1.f12.length kx].toArray) (a' := ?_) #[true, true, true, true, true, false, false] rfl rfl (by kernel_rfl) (fun _ _ _ h => h) (yieldsIf_load_adr (by rfl) 32 (.tmp 97) rfl (ad.add (i.toNat * 14)) rfl [.int .i64 x.f0, .int .i64 x.f1.f0, .int .i64 x.f1.f1, .int .u64 x.f1.f2, .int .i64 x.f1.f3, .int .u64 x.f1.f4, .int .u64 x.f1.f5, .int .u64 x.f1.f6, .int .i64 x.f1.f7, .int .i64 x.f1.f8, .string x.f1.f9, .string x.f1.f10, .string x.f1.f11, .slice Ax x.f1.f12.length kx] _ (fun w' h => h.2) Try.underlying32 rfl (by kernel_rfl)) hHeld ?_ ?_
      rotate_left
      · simp only [Act.put, List.setIfInBounds_toArray, List.set_cons_zero, List.set_cons_succ, i64_w, i32_w]
        rfl
      refine one_ (i := 5) (N := some 99) #[true, true, true, true, true, true, false] rfl rfl (by kernel_rfl) (by decide) (fun K hK => ?_)
      refine goes_ Try.func16 (by kernel_rfl) rfl #[.agg [.int .i64 x.f0, .int .i64 x.f1.f0, .int .i64 x.f1.f1, .int .u64 x.f1.f2, .int .i64 x.f1.f3, .int .u64 x.f1.f4, .int .u64 x.f1.f5, .int .u64 x.f1.f6, .int .i64 x.f1.f7, .int .i64 x.f1.f8, .string x.f1.f9, .string x.f1.f10, .string x.f1.f11, .slice A5 x.f1.f12.length k5].toArray, .agg [.int .i64 x.f0, .int .i64 x.f1.f0, .int .i64 x.f1.f1, .int .u64 x.f1.f2, .int .i64 x.f1.f3, .int .u64 x.f1.f4, .int .u64 x.f1.f5, .int .u64 x.f1.f6, .int .i64 x.f1.f7, .int .i64 x.f1.f8, .string x.f1.f9, .string x.f1.f10, .string x.f1.f11, .slice Ax x.f1.f12.length kx].toArray] (by rfl) rfl rfl (by simp only [List.map_toArray, List.map_cons, List.map_nil]; rfl) ?_
      refine C16.out.mono ?_
      rintro e w15 ⟨rfl, hb15⟩
      refine ⟨_, rfl, ?_⟩
      refine hK.out _ _ (⟨fun t u ht => pw_cell_below hb15 (HS.out.1 t u ht), fun t u ht => pw_cell_below hb15 (HS.out.2 t u ht)⟩) (fun hHeld => ?_)
      clear hK K
      refine norm_ (a' := ?_) ?_ ?_
      rotate_left
      · show Act.put _ (some 99) _ = _
        simp only [Act.put, List.setIfInBounds_toArray, List.set_cons_zero, List.set_cons_succ, i64_w, i32_w]
        rfl
      refine pure_ (i := 6) (N := some 15) (v := ?_) (a' := ?_) #[true, true, true, true, true, true, true] rfl rfl (by kernel_rfl) (fun _ _ _ h => h) (Or.inl ⟨by rfl, ?_⟩) ?_ ?_
      rotate_left
      · intro w'
        go_simp
        with_reducible rfl
      rotate_left
      · simp only [Act.put, List.setIfInBounds_toArray, List.set_cons_zero, List.set_cons_succ, i64_w, i32_w]
        rfl
      refine done_ (by kernel_rfl) ?_
      have HB15 := Lib.hid (show Below wr.heap.size wr w15 from ⟨hb15.os, hb15.tape, hb15.output, hb15.size, hb15.block⟩)
      clear hb15 hHeld
      go_wp2_with (first | (go_at_call 13; refine (Same17_calls A3 A10 c3 c10 M w15 2932031007317 (by decide) HMV.out (Kd.N_reads' (Kd.N_below HNE.out HB15.out)).2.2 (Kd.N_reads' HNE.out).2.1 (Kd.N_reads' (Kd.N_below (Kd.N_below HN10.out HBW.out) HB15.out)).2.2 (Kd.N_reads' HN10.out).2.1).mono ?_; rintro e w16 ⟨rfl, hb16⟩; have HB16 := Lib.hid hb16; clear hb16) | (go_at_call 12; refine (Len_calls w1.heap.size w.heap.size M w16 _ v5 (((HBXS.out.below HBW.out).below HB15.out).below HB16.out)).mono ?_; rintro e w17 ⟨rfl, rfl⟩))
      go_ret
      exact ⟨rfl, HBW0.out.trans ((HB15.out.trans (HB16.out.mono HB15.out.size)).mono HBW0.out.size)⟩
theorem mailMoves_fin (A : Option Addr) (cA : Nat) (l : List S32) (i : Int) (w : World) (hA : Kd.C k32 w A l.length l) (hcA : l.length ≤ cA) (hl : l.length ≤ 925904528626) (hv : ∀ x ∈ l, x.f1.f12.length ≤ 2932031007317) :
    Calls Try.prog 5 #[.slice A l.length cA, .int .i64 i] w fun e w' => e = .returned (.bool true) ∧ Below w.heap.size w w' := by
  by_cases h : 0 ≤ i ∧ i < l.length
  · exact mailMoves_in A cA l i w hA hcA hl hv h.1 h.2
  · exact mailMoves_out A cA l i w hA hl hv (by omega)
end Go.Proofs.Ytijbpncekdiodaa
