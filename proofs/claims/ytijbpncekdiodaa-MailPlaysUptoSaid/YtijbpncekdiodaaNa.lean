/- The walk of MailAll. Laid by gen_na_mail.py. -/
import Derived.Test.YtijbpncekdiodaaMk
namespace Go.Proofs.Ytijbpncekdiodaa
open Go.RowKit Go.Proofs.YtijbpncekdiodaaW.PrintWords Go.Proofs.YtijbpncekdiodaaW.PrintLast Go.Proofs.YtijbpncekdiodaaW.PrintMore
open Go.Proofs.Ytijbpncekdiodaa.PMailMoves
set_option linter.unusedVariables false
set_option linter.unusedSimpArgs false

theorem BoxV.after {W W' : World} {g base : Nat} {P : Nat → Prop} {v u u1 : Value} {xs : List S32} (h : BoxV W g base (fun b => P b ∧ some b ≠ u.ownBlock) v xs) (hg : W.grownBy W' u.ownBlock) (hat : u1.ownBlock = u.ownBlock ∨ ∃ b, u1.ownBlock = some b ∧ W.heap.size ≤ b) (hne : some g ≠ u.ownBlock) (hP : ∀ b, P b → b ≠ g) : BoxV W' g base (fun b => P b ∧ some b ≠ u1.ownBlock) v xs :=
  ⟨blk_grown h.1 hg hne, Kd.N_after h.2.1 hg hat, fun k hk => hP k hk.1, h.2.2.2⟩
theorem heap39 : Kd.Heap k39 := Kd.heap_iso _ (Kd.heap_pair (Kd.heap_int _) (Kd.heap_pair (Kd.heap_int _) Kd.heap_string))
theorem heap41 : Kd.Heap k41 := Kd.heap_iso _ (Kd.heap_pair Kd.heap_string heap39)
theorem heap30 : Kd.Heap k30 := Kd.heap_iso _ (Kd.heap_pair (Kd.heap_int _) (Kd.heap_pair (Kd.heap_int _) (Kd.heap_pair (Kd.heap_int _) (Kd.heap_pair (Kd.heap_int _) (Kd.heap_pair (Kd.heap_int _) (Kd.heap_pair (Kd.heap_int _) (Kd.heap_pair (Kd.heap_int _) (Kd.heap_pair (Kd.heap_int _) (Kd.heap_pair (Kd.heap_int _) (Kd.heap_pair Kd.heap_string (Kd.heap_pair Kd.heap_string (Kd.heap_pair Kd.heap_string (Kd.heap_slice _ heap41)))))))))))))
theorem heap32 : Kd.Heap k32 := Kd.heap_iso _ (Kd.heap_pair (Kd.heap_int _) heap30)
/-- What came in stays readable. -/
theorem F_arg {w W : World} {A : Option Addr} {l : List S32} (h : Kd.C k32 w A l.length l) (hb : Below w.heap.size w W) : Kd.F k32 W (fun k => k < w.heap.size) A l.length l := Kd.F_below (Kd.C_F heap32 h) hb
theorem fits_all {l : List S32} (h : ∀ x ∈ l, x.f1.f12.length ≤ 1048576) : ∀ x ∈ l, Fits x := fun x hx => by have := h x hx; unfold Fits; omega
theorem drop_cons {l : List S32} {k : Nat} (h : k < l.length) : l.drop k = l.getD k z32 :: l.drop (k + 1) := by
  rw [List.drop_eq_getElem_cons h, List.getD_eq_getElem?_getD, List.getElem?_eq_getElem h]; rfl
theorem take_snoc32 {l : List S32} {k : Nat} (h : k < l.length) : l.take (k + 1) = l.take k ++ [l.getD k z32] := by
  rw [List.take_succ_eq_append_getElem h, List.getD_eq_getElem?_getD, List.getElem?_eq_getElem h]; rfl

set_option maxRecDepth 100000 in
set_option maxHeartbeats 4000000 in
theorem mailAll_fin (A B : Option Addr) (cA cB : Nat) (l m : List S32) (w : World) (hA : Kd.C k32 w A l.length l) (hB : Kd.C k32 w B m.length m) (hlm : l.length + m.length ≤ 1048576) (hv : ∀ x ∈ l ++ m, x.f1.f12.length ≤ 1048576) :
    Calls Try.prog 3 #[.slice A l.length cA, .slice B m.length cB] w fun e w' => e = .returned (.bool true) ∧ Below w.heap.size w w' := by
  have HA := Lib.hid hA
  have HB := Lib.hid hB
  have HV := Lib.hid hv
  have HLM := Lib.hid hlm
  have HLL := Lib.hid (show (l ++ m).length = l.length + m.length from List.length_append)
  have hl1 : l.length ≤ 1048576 := by omega
  have hl2 : m.length ≤ 1048576 := by omega
  clear hA hB hv hlm
  go_enter Try.func3, Try.ntmps3
  go_wp2_with (first | (go_at_call 8; refine (shown_calls _).mono ?_; rintro e w1 ⟨rfl, hb1⟩; have HB1 := Lib.hid hb1; clear hb1) | (go_at_call 9; refine (New_calls _).mono ?_; rintro e w2 ⟨rfl, hw2⟩; have HW2 := Lib.hid hw2; have HB2 := Lib.hid (show Below w.heap.size w w2 from hw2 ▸ below_alloc HB1.out _); have HBX2 := Lib.hid (show BoxV w2 w1.heap.size w.heap.size (fun k => w.heap.size ≤ k ∧ k ≠ w1.heap.size) (.slice none 0 0) [] from hw2 ▸ BoxV.new w1 w.heap.size _ HB1.out.size (fun k hk => hk.2)); clear hw2) | (go_at_call 10; first | ((with_reducible refine (Put_calls w1.heap.size w.heap.size A cA [] l _ w2 _ _ HBX2.out (fun k hk => ⟨by have := HB2.out.size; omega, by have := HBX2.out.lt; omega⟩) (F_arg HA.out HB2.out) (fun k hk _ => ⟨by have := HB1.out.size; omega, by simp [Value.ownBlock]⟩) HB2.out.size (fits_all (fun x hx => HV.out x (List.mem_append_left _ hx))) (by simp only [List.length_nil]; omega)).mono ?_); rintro e w3 ⟨rfl, ⟨v3, hbx3, _⟩, _, hb3⟩; have HBX3 := Lib.hid (show BoxV w3 w1.heap.size w.heap.size (fun k => w.heap.size ≤ k ∧ k ≠ w1.heap.size) v3 l from hbx3); have HB3 := Lib.hid (HB2.out.trans hb3); clear hbx3 hb3 HBX2)))
  go_wp2_with fail
  refine (Put_calls w1.heap.size w.heap.size B cB l m _ w3 _ _ HBX3.out (fun k hk => ⟨by have := HB3.out.size; omega, by have := HBX3.out.lt; omega⟩) (F_arg HB.out HB3.out) (fun k hk _ => ⟨by have := HB1.out.size; omega, fun e => by have := Kd.N_base HBX3.out.2.1 k e.symm; omega⟩) HB3.out.size (fits_all (fun x hx => HV.out x (List.mem_append_right _ hx))) (by have := HLM.out; omega)).mono ?_
  rintro e w4 ⟨rfl, ⟨v4, hbx4, _⟩, _, hb4⟩
  have HB4 := Lib.hid (HB3.out.trans hb4)
  have HG0 := Lib.hid (⟨HB1.out.size, HBX3.out.lt⟩ : w.heap.size ≤ w1.heap.size ∧ w1.heap.size < w3.heap.size)
  have HSZ := Lib.hid hb4.size
  clear HBX3 HB3 hb4
  obtain ⟨L, hL⟩ : ∃ L, L = l ++ m := ⟨_, rfl⟩
  have hLL : L.length = l.length + m.length := by rw [hL, List.length_append]
  have HVL := Lib.hid (show ∀ x ∈ L, x.f1.f12.length ≤ 1048576 from hL ▸ HV.out)
  have HLD := Lib.hid hL
  have HLL := Lib.hid hLL
  rw [← hL] at hbx4
  have HBX4 := Lib.hid (BoxV.mono (ok' := fun k => (w.heap.size ≤ k ∧ k ≠ w1.heap.size) ∧ some k ≠ (Value.slice none 0 0).ownBlock) hbx4 (fun k hk => ⟨hk, by simp [Value.ownBlock]⟩) (fun k hk => hk.1.2))
  clear hL hLL hbx4
  go_wp2_with fail
  go_loopw [9, 10] (fun ov iv W => ∃ (k : Int) (v vo : Value), iv = .int .i64 k ∧ ov = vo ∧ 0 ≤ k ∧ k ≤ L.length ∧ BoxV W w1.heap.size w.heap.size (fun b => (w.heap.size ≤ b ∧ b ≠ w1.heap.size) ∧ some b ≠ vo.ownBlock) v (L.drop k.toNat) ∧ Kd.N k32 32 W w.heap.size (fun b => w.heap.size ≤ b ∧ b ≠ w1.heap.size) vo (L.take k.toNat) ∧ Below w.heap.size w W) (fun _ i _ => L.length - (intOf i).toNat)
  case atStart => exact ⟨0, v4, .slice none 0 0, rfl, rfl, Int.le_refl _, by omega, HBX4.out, Kd.N_nil _ _ _ _ _, HB4.out⟩
  case round =>
    obtain ⟨k, v, vo, rfl, rfl, h0, hk, hbx, hno, hbw⟩ := hrel
    have HNO := Lib.hid hno
    have HBW := Lib.hid hbw
    have HK := Lib.hid hk
    clear HBX4 HB4 HSZ
    by_cases hlt : k < (l.length : Int) + (m.length : Int)
    · have hkl : k.toNat < L.length := by have := HLL.out; omega
      have HDR := Lib.hid (drop_cons (l := L) hkl)
      have HTK := Lib.hid (take_snoc32 (l := L) hkl)
      rw [HDR.out] at hbx
      have hxx := HVL.out (L.getD k.toNat z32) (by rw [List.getD_eq_getElem?_getD, List.getElem?_eq_getElem hkl]; exact List.getElem_mem _)
      generalize L.getD k.toNat z32 = x at hbx HTK hxx HDR
      have HBX := Lib.hid hbx
      have hfr : ∀ b, wr.heap.size ≤ b → (w.heap.size ≤ b ∧ b ≠ w1.heap.size) ∧ some b ≠ u9.ownBlock := fun b hb => ⟨⟨by have := hbw.size; omega, by have := hbx.lt; omega⟩, fun e => by have := Kd.N_lt hno b e.symm; omega⟩
      have hfit : ∀ y ∈ x :: L.drop (k.toNat + 1), Fits y := fits_all (fun y hy => by
        rcases List.mem_cons.1 hy with rfl | hy
        · exact hxx
        · exact HVL.out y (List.mem_of_mem_drop hy))
      have hln : (x :: L.drop (k.toNat + 1)).length * 152 ≤ 140737488355328 := by rw [List.length_cons, List.length_drop]; have := HLL.out; omega
      have HT := Lib.hid (Take_in w1.heap.size w.heap.size 0 (x :: L.drop (k.toNat + 1)) wr _ v hbx hfr (by decide) (by rw [List.length_cons]; omega) hfit hln)
      have HKL := Lib.hid hkl
      have hkb : k ≤ 2097152 := by have := HLL.out; omega
      clear hbx hno hbw hk hfr hfit hln hxx hkl
      go_wp2_with (first | (go_at_call 11; refine HT.out.mono ?_; rintro e w5 ⟨c5, rfl, hfk, ⟨v5, hbx5, _⟩, hkb5, hb5⟩; obtain ⟨A2, c2, rfl, _, _⟩ := k32_open (Kd.FK_now hfk); have HFK := Lib.hid (show Kd.FK k32 w5 (fun b => wr.heap.size ≤ b) x _ from hfk); have HBX5 := Lib.hid (show BoxV w5 w1.heap.size w.heap.size _ v5 (L.drop (k.toNat + 1)) from hbx5); have HKB5 := Lib.hid hkb5; have HB5 := Lib.hid hb5; clear hfk hbx5 hkb5 hb5) | ((with_reducible refine gate_dst (N := 11) rfl ?_); refine box_event ?hg (N := 11) ?hd (cs := zS.cells) (t := 32) ?hr ?_; (case hd => rfl); (case hg => rfl); (case hr => first | (go_simp; done) | (go_simp; rfl)); intro g6 hg6 w6 hz6 hb6; have HG6 := Lib.hid hg6; have HZ6 := Lib.hid hz6; have HB6 := Lib.hid hb6; clear hg6 hz6 hb6) | (refine wpList_store_row rfl rfl 32 (.tmp 11) (.tmp 42) rfl (g := g6) rfl rfl HZ6.out (by kernel_rfl) rfl (k32.K_one (Kd.FK_now HFK.out)) ?_; intro w7 hz7 hg7; have HZ7 := Lib.hid hz7; have HG7 := Lib.hid hg7; have HFK7 := Lib.hid (Kd.FK_grown (Kd.FK_below (Kd.FK_bound HFK.out) HB6.out) hg7 (fun b hb e => by injection e with e; have := hb.2; have := HG6.out; omega)); have HN7 := Lib.hid (Kd.N_mono (Kd.N_grown (Kd.N_below (Kd.N_bound (Kd.N_keep HNO.out HKB5.out (fun b hb => hb.2))) HB6.out) hg7 (fun b hb e => by injection e with e; have := hb.2; have := HG6.out; omega)) (fun b hb => hb.1)); have HBX7 := Lib.hid ((((HBX5.out.bound).below HB6.out).grown hg7 (by rintro ⟨_, h⟩; have := HG6.out; omega) (by have := HBX5.out.lt; have := HG6.out; omega)).mono (fun b hb => hb.1) HBX5.out.2.2.1); have HB7 := Lib.hid (Below.grown ((HBW.out.trans HB5.out).trans (HB6.out.mono (by have := HBW.out.size; have := HB5.out.size; omega))) hg7 (by have := HBW.out.size; have := HB6.out.size; have := HB5.out.size; omega) (fun b e => by injection e with e; have := HBW.out.size; have := HB5.out.size; have := HG6.out; omega)); clear hz7 hg7) | ((with_reducible refine gate_dst (N := 47) rfl ?_); refine wpList_load_row rfl 32 (.tmp 11) rfl g6 rfl 32 _ (0, 0) _ HZ7.out Try.underlying32 rfl (by kernel_rfl) ?_) | (at_builtin; refine Kd.N_append k32 (w0 := w7) (W := w7) w.heap.size rfl (.tmp 46) (.tmp 48) 22 32 zS 152 rfl Try.underlying22 info32 rfl (by decide) (by decide) u9 (L.take k.toNat) x [.int .i64 x.f0, .int .i64 x.f1.f0, .int .i64 x.f1.f1, .int .u64 x.f1.f2, .int .i64 x.f1.f3, .int .u64 x.f1.f4, .int .u64 x.f1.f5, .int .u64 x.f1.f6, .int .i64 x.f1.f7, .int .i64 x.f1.f8, .string x.f1.f9, .string x.f1.f10, .string x.f1.f11, .slice A2 x.f1.f12.length c2] (fun b => w.heap.size ≤ b ∧ b ≠ w1.heap.size) _ rfl rfl HFK7.out (fun b hb => ⟨⟨by have := HBW.out.size; have := hb.1; omega, by have := HBX.out.lt; have := hb.1; omega⟩, fun e => by have := Kd.N_lt HNO.out b e.symm; have := hb.1; omega⟩) (fun b hb => ⟨by have := HBW.out.size; have := HB5.out.size; have := HKB5.out.1; have := HB6.out.size; have := HG7.out.size; omega, by have := HBX7.out.lt; omega⟩) HN7.out (Below.refl _ _) HB7.out.size (by rw [List.length_take]; have := HKL.out; have := HLL.out; omega) ?_; intro v8 w8 hn8 _ hg8 hat8; have HN8 := Lib.hid hn8; have HG8 := Lib.hid hg8; have HAT8 := Lib.hid hat8; clear hn8 hg8 hat8))
      go_roundw
      case rel =>
        refine ⟨k + 1, v5, v8, rfl, rfl, by omega, by have := HLL.out; omega, ?_, ?_, ?_⟩
        · rw [show (k + 1).toNat = k.toNat + 1 by omega]
          exact HBX7.out.after HG8.out HAT8.out (fun e => (HNO.out.1 _ e.symm).2 rfl) (fun b hb => hb.2)
        · rw [show (k + 1).toNat = k.toNat + 1 by omega, HTK.out]
          exact HN8.out
        · exact HB7.out.grown HG8.out HB7.out.size (fun b e => (HNO.out.1 b e).1)
      case measure => simp [intOf]; have := HLL.out; omega
    · have hkk : k.toNat = L.length := by have := HLL.out; omega
      rw [hkk, List.drop_length] at hbx
      rw [hkk, List.take_length] at hno
      obtain ⟨A3, c3, rfl⟩ := Kd.N_slice hno
      have HBX := Lib.hid hbx
      have HNE := Lib.hid hno
      have HT : Hid (Calls Try.prog 11 #[.pointer (some ⟨w1.heap.size, 0, none⟩), .int .i64 0] wr fun e w' => e = .returned (.tuple #[.agg #[.int .i64 0, .int .i64 0, .int .i64 0, .int .u64 0, .int .i64 0, .int .u64 0, .int .u64 0, .int .u64 0, .int .i64 0, .int .i64 0, .string ⟨#[]⟩, .string ⟨#[]⟩, .string ⟨#[]⟩, .slice none 0 0], .int .i64 5]) ∧ Below wr.heap.size wr w') := Lib.hid (Take_out w1.heap.size w.heap.size 0 [] wr _ v hbx (.inr (Int.le_refl _)))
      have HLE := Lib.hid hk
      have hd : decide (k < (l.length : Int) + (m.length : Int)) = false := by simp; omega
      have hb1 : ((l.length : Int) == (l.length : Int)) = true := by simp
      have hb2 : ((m.length : Int) == (m.length : Int)) = true := by simp
      have hkb : k ≤ 2097152 := by have := HLL.out; omega
      clear hbx hno hbw hk hkk HNO
      go_wp2_with fail
      refine HT.out.mono ?_
      rintro e w5 ⟨rfl, hb5⟩
      have HB50 := Lib.hid (HBW.out.trans (hb5.mono HBW.out.size))
      have HB5 := Lib.hid hb5
      have he := Kd.R_N (R_empty k32 32 (w5.alloc (.cells #[.int .i64 0, .int .i64 0, .int .i64 0, .int .u64 0, .int .i64 0, .int .u64 0, .int .u64 0, .int .u64 0, .int .i64 0, .int .i64 0, .string ⟨#[]⟩, .string ⟨#[]⟩, .string ⟨#[]⟩, .slice none 0 0] 32)) w5.heap.size (fun _ => True) (by simp) trivial)
      rw [World.size_alloc] at he
      have HE := Lib.hid he
      clear hb5 he
      go_wp2_with (first | ((with_reducible refine gate_builtin (b := .append) (xs := #[.tmp 55, .tmp 56]) rfl ?_); at_builtin; refine Kd.N_append_rows k32 (w0 := w5) w5.heap.size rfl (.tmp 55) (.tmp 56) 22 32 zS 152 rfl Try.underlying22 info32 rfl (by decide) (by decide) (.slice (some ⟨w5.heap.size + 1, 0, none⟩) 0 0) [] l A l.length cA (fun _ => True) _ rfl rfl HE.out (F_arg HA.out (below_alloc (below_alloc HB50.out _) _)) (fun b hb => ⟨trivial, fun e => by have e2 : some b = some (w5.heap.size + 1) := e; injection e2 with e2; have := HB50.out.size; omega⟩) (fun _ _ => trivial) (below_alloc (below_alloc (Below.refl _ _) _) _) (by simp; omega) (by simp only [List.length_nil]; omega) ?_; intro v6 w6 hn6 hb6 hg6 _; have HN6 := Lib.hid (show Kd.N k32 32 w6 w5.heap.size (fun _ => True) v6 l from hn6); have HB6 := Lib.hid hb6; clear hn6 hb6 hg6) | ((with_reducible refine gate_builtin (b := .append) (xs := #[.tmp 57, .tmp 58]) rfl ?_); at_builtin; refine Kd.N_append_rows k32 (w0 := w5) w5.heap.size rfl (.tmp 57) (.tmp 58) 22 32 zS 152 rfl Try.underlying22 info32 rfl (by decide) (by decide) _ l m B m.length cB (fun _ => True) _ rfl rfl HN6.out (F_arg HB.out (HB50.out.trans (HB6.out.mono HB50.out.size))) (fun b hb => ⟨trivial, fun e => by have := Kd.N_base HN6.out b e.symm; have := HB50.out.size; omega⟩) (fun _ _ => trivial) HB6.out HB6.out.size (by omega) ?_; intro v7 w7 hn7 hb7 hg7 _; rw [← HLD.out] at hn7; obtain ⟨A7, c7, rfl⟩ := Kd.N_slice hn7; have HN7 := Lib.hid hn7; have HB7 := Lib.hid hb7; clear hn7 hb7 hg7) | (go_at_call 12; refine (Len_calls w1.heap.size w.heap.size [] w7 _ v ((HBX.out.below HB5.out).below HB7.out)).mono ?_; rintro e w8 ⟨rfl, rfl⟩) | (go_at_call 13; refine (Same17_calls A3 A7 c3 c7 L w7 1048576 (by decide) HVL.out (Kd.N_reads' (Kd.N_below (Kd.N_below HNE.out HB5.out) HB7.out)).2.2 (Kd.N_reads' HNE.out).2.1 (Kd.N_reads' HN7.out).2.2 (Kd.N_reads' HN7.out).2.1).mono ?_; rintro e w9 ⟨rfl, hb9⟩; have HB9 := Lib.hid hb9; clear hb9))
      go_ret
      exact ⟨rfl, (HB50.out.trans (HB7.out.mono HB50.out.size)).trans (HB9.out.mono (by have := HB50.out.size; have := HB7.out.size; omega))⟩
end Go.Proofs.Ytijbpncekdiodaa
