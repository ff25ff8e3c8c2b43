/- The reading of a block. Laid by gen_sj.py. · Open. Laid by gen_sk.py. -/
import Derived.Test.YtfemjlhfgmbcmaaVc
import Derived.Test.YtfemjlhfgmbcmaaVb
namespace Go.Proofs.Ytfemjlhfgmbcmaa
open Go.RowKit Go.Shelf Go.Proofs.YtfemjlhfgmbcmaaW.PrintWords Go.Proofs.YtfemjlhfgmbcmaaW.PrintLast Go.Proofs.YtfemjlhfgmbcmaaW.PrintMore
open Go.Proofs.Ytfemjlhfgmbcmaa.PRunBuilds
set_option linter.unusedVariables false
set_option linter.unusedSimpArgs false
attribute [local go_sem ↓] Go.wp_at_zero Go.wp_at_succ

/-- run.row. -/
def kR : Kd RRow := Kd.iso (Kd.pair Kd.string (Kd.pair Kd.string Kd.bool)) (fun x : RRow => (x.k, x.s, x.gone))
theorem kR_open {w : World} {x : RRow} {cs : List Value} (h : kR.K w x cs) : cs = [.string x.k, .string x.s, .bool x.gone] := by
  obtain ⟨a1, b1, rfl, rfl, a2, b2, rfl, rfl, rfl⟩ := h
  rfl
theorem kR_mkM (w : World) (base : Nat) (ok : Nat → Prop) (x : RRow) : kR.M w base ok x [.string x.k, .string x.s, .bool x.gone] := ⟨[.string x.k], [.string x.s, .bool x.gone], rfl, rfl, [.string x.s], [.bool x.gone], rfl, rfl, rfl⟩
def zRow : Value := .agg #[.string ⟨#[]⟩, .string ⟨#[]⟩, .bool false]
theorem info123 : (Try.prog.info? 123).map (fun i => (i.zero, i.size, i.bytes)) = some (some zRow, 3, 40) := by kernel_rfl
def BlkPost (w : World) (r : Option (List RRow)) (e : Ending) (w' : World) : Prop := ∃ (v : Value) (ok : Bool), e = .returned (.tuple #[v, .bool ok]) ∧ Below w.heap.size w w' ∧ (match r with
  | none => ok = false
  | some l => ok = true ∧ Kd.R kR 123 w' w.heap.size (fun _ => True) v l)
theorem BlkPost.none {w w' : World} {v : Value} {r : Option (List RRow)} (h : r = none) (hb : Below w.heap.size w w') : BlkPost w r (.returned (.tuple #[v, .bool false])) w' := by
  rw [h]; exact ⟨_, _, rfl, hb, rfl⟩
theorem blk_fin {w w' : World} {first k0 s : ByteArray} {v : Value} {r : Option (List RRow)} {X : Option (List RRow × ByteArray × Int)} {acc : List RRow} {ok : Nat → Prop} (h : r = blockE first X) (hX : X = some (acc, s, 0)) (he : endR s 0 = 0) (hk : k0 = (acc.getD 0 rz).k) (hb : Below w.heap.size w w') (h1 : Kd.R kR 123 w' w.heap.size ok v acc) :
    BlkPost w r (.returned (.tuple #[v, .bool (k0.toList == first.toList)])) w' := by
  rw [h, hX]
  unfold blockE
  dsimp only
  rw [he, ← hk]
  by_cases hf : k0 = first
  · rw [if_pos ⟨rfl, hf⟩, hf]
    exact ⟨_, _, rfl, hb, by simp, Kd.R_mono h1 (fun _ _ => trivial)⟩
  · rw [if_neg (fun h => hf h.2)]
    exact ⟨_, _, rfl, hb, ba_list hf⟩
/-- How much a reader still has to read. -/
def rdM (g : Nat) (W : World) : Nat := match W.cell? ⟨g, 0, none⟩, W.cell? ⟨g, 1, none⟩ with
  | some (.string s), some (.int _ e) => if e = 0 then s.size + 1 else 0
  | _, _ => 0
theorem rdM_is {g : Nat} {W : World} {s : ByteArray} {e : Int} (h : RdIs W g s e) : rdM g W = if e = 0 then s.size + 1 else 0 := by
  unfold rdM; rw [h.c0, h.c1]
theorem byteR_sz (s : ByteArray) (e : Int) : (byteR s e).2.1.size ≤ s.size ∧ ((byteR s e).2.2 = 0 → e = 0) := by
  unfold byteR takeR
  split
  · rename_i h
    split
    · refine ⟨?_, fun _ => h⟩
      show (s.extract _ _).size ≤ _
      rw [extract_size_le _ _ _ (Nat.le_refl _)]; omega
    · exact ⟨Nat.le_refl _, fun _ => h⟩
  · exact ⟨Nat.le_refl _, fun h => h⟩
theorem textR_sz2 (s : ByteArray) (e most : Int) : (textR s e most).2.1.size ≤ s.size ∧ ((textR s e most).2.2 = 0 → e = 0 ∧ (textR s e most).2.1.size < s.size) := by
  by_cases he : e = 0
  · subst he
    rcases textR_size s most with ⟨h1, h2⟩ | ⟨h1, h2⟩
    · exact ⟨by omega, fun _ => ⟨rfl, h2⟩⟩
    · exact ⟨by rw [h2]; exact Nat.le_refl _, fun h => absurd h h1⟩
  · have h := textR_sz s e most he
    exact ⟨by rw [h.2]; exact Nat.le_refl _, fun h2 => absurd (h.1.symm.trans h2) he⟩
theorem rowR_sz (s : ByteArray) : (rowR s 0).2.2.1.size ≤ s.size ∧ ((rowR s 0).2.2.2 = 0 → (rowR s 0).2.2.1.size < s.size) := by
  unfold rowR
  dsimp only
  have h1 := textR_sz2 s 0 64
  have h2 := byteR_sz (textR s 0 64).2.1 (textR s 0 64).2.2
  have h3 := textR_sz2 (byteR (textR s 0 64).2.1 (textR s 0 64).2.2).2.1 (byteR (textR s 0 64).2.1 (textR s 0 64).2.2).2.2 16384
  exact ⟨by omega, fun h => by have := (h3.2 h).2; omega⟩
theorem byteR_val (s : ByteArray) (e : Int) : 0 ≤ (byteR s e).1 ∧ (byteR s e).1 < 256 := by
  unfold byteR takeR
  split
  · split
    · show 0 ≤ (byte0 s).1 ∧ (byte0 s).1 < 256
      unfold byte0
      split
      · have := UInt8.toNat_lt s[0]; dsimp only; omega
      · exact ⟨Int.le_refl _, by decide⟩
    · exact ⟨Int.le_refl 0, (by decide : (0 : Int) < 256)⟩
  · exact ⟨Int.le_refl 0, (by decide : (0 : Int) < 256)⟩
theorem wpList_load_row {P : Program} {ops : Array Oper} {rest : List Oper} {o : Oper} {a : Act} {Q : Exit → Act → World → Prop} {w : World} (hgd : o.guard = none) (ty : TypeId) (x : Operand) (ho : o.op = .load ty x) (g : Nat) (hx : a.eval x = .pointer (some ⟨g, 0, none⟩)) (cs : List Value) (t : TypeId) (d : TypeDesc) (hc : w.heap[g]? = some (.cells cs.toArray t (0, 0)))
    (hu : P.underlying ty = some d) (hd : d.isRow = true) (hi : (P.info? ty).map (·.size) = some cs.length)
    (h : wpList P ops Q rest (a.put o.dst (.agg cs.toArray)) w) : wpList P ops Q (o :: rest) a w :=
  wpList_load_at hgd ty x ho ⟨g, 0, none⟩ hx cs d (fun j u hu => by rw [show (⟨g, 0, none⟩ : Addr).add j = ⟨g, j, none⟩ by rw [add_at, Nat.zero_add]]; rw [blk_cell hc]; simpa using hu) hu hd hi h
theorem one2 {a b : Value} (h1 : a.oneCell' = true) (h2 : b.oneCell' = true) : ∀ q ∈ (#[a, b] : Array Value).toList, q.oneCell' = true := by
  intro q hq
  simp only [List.mem_cons, List.not_mem_nil, or_false] at hq
  rcases hq with rfl | rfl <;> assumption

set_option maxRecDepth 100000 in
set_option maxHeartbeats 4000000 in
theorem block_calls (b first : ByteArray) (w : World) (hs : b.size ≤ 1048576) :
    Calls Try.prog 87 #[.string b, .string first] w fun e w' => BlkPost w (blockF b first) e w' := by
  have hxs : b.size ≤ maxLen := by unfold maxLen; omega
  have HI : Hid (blockF b first = if (takeF b).2.2.2 ≠ 0 ∨ (takeF b).2.2.1 ≠ b.size ∨ (takeF b).1 ≠ 2 ∨ (takeF b).2.1.size = 0 then none else blockE first (rowsG (takeF b).2.1.size (takeF b).2.1 0 [])) := Lib.hid rfl
  have HTK := Lib.hid (fun W => Take_calls b W hxs)
  have HLD := Lib.hid (show (takeF b).2.1.size ≤ 1048576 by have h := takeF_load b; omega)
  obtain ⟨T, hT⟩ : ∃ T, T = takeF b := ⟨_, rfl⟩
  rw [← hT] at HI HTK HLD
  obtain ⟨kd, ld, got, er⟩ := T
  dsimp only at HI HTK HLD
  clear hT hxs
  have hb1 : ((er : Int) != 0) = decide (er ≠ 0) := by by_cases h : er = 0 <;> simp [h]
  have hb2 : ((got : Int) != (b.size : Int)) = decide (got ≠ b.size) := by by_cases h : got = b.size <;> simp [h]; omega
  have hb3 : (kd != 2) = decide (kd ≠ 2) := by by_cases h : kd = 2 <;> simp [h]
  by_cases h6 : er ≠ 0 ∨ got ≠ b.size ∨ kd ≠ 2 ∨ ld.size = 0
  · have HXN := Lib.hid (HI.out.trans (if_pos h6))
    by_cases q1 : er = 0
    · rw [show decide (er ≠ 0) = false by simp [q1]] at hb1
      by_cases q2 : got = b.size
      · rw [show decide (got ≠ b.size) = false by simp [q2]] at hb2
        by_cases q3 : kd = 2
        · rw [show decide (kd ≠ 2) = false by simp [q3]] at hb3
          have q4 : ld.size = 0 := h6.elim (fun h => absurd q1 h) (fun h => h.elim (fun h => absurd q2 h) (fun h => h.elim (fun h => absurd q3 h) id))
          have hl0 := str_none q4
          clear h6 q1 q2 q3 q4 HI
          go_enter Try.func87, Try.ntmps87
          go_wp2_with (go_at_call 65; refine (HTK.out _).mono ?_; rintro e w1 ⟨rfl, hbw⟩)
          go_ret2
          exact BlkPost.none HXN.out hbw
        · rw [show decide (kd ≠ 2) = true by simp [q3]] at hb3
          clear h6 q1 q2 q3 HI
          go_enter Try.func87, Try.ntmps87
          go_wp2_with (go_at_call 65; refine (HTK.out _).mono ?_; rintro e w1 ⟨rfl, hbw⟩)
          go_ret2
          exact BlkPost.none HXN.out hbw
      · rw [show decide (got ≠ b.size) = true by simp [q2]] at hb2
        clear h6 q1 q2 HI hb3
        go_enter Try.func87, Try.ntmps87
        go_wp2_with (go_at_call 65; refine (HTK.out _).mono ?_; rintro e w1 ⟨rfl, hbw⟩)
        go_ret2
        exact BlkPost.none HXN.out hbw
    · rw [show decide (er ≠ 0) = true by simp [q1]] at hb1
      clear h6 q1 HI hb2 hb3
      go_enter Try.func87, Try.ntmps87
      go_wp2_with (go_at_call 65; refine (HTK.out _).mono ?_; rintro e w1 ⟨rfl, hbw⟩)
      go_ret2
      exact BlkPost.none HXN.out hbw
  have HI2 := Lib.hid (HI.out.trans (if_neg h6))
  obtain rfl : er = 0 := Classical.byContradiction fun h => h6 (.inl h)
  obtain rfl : got = b.size := Classical.byContradiction fun h => h6 (.inr (.inl h))
  obtain rfl : kd = 2 := Classical.byContradiction fun h => h6 (.inr (.inr (.inl h)))
  have hlz : ¬ ld.size = 0 := fun h => h6 (.inr (.inr (.inr h)))
  have hls := str_some (show 0 < ld.size by omega)
  have HLZ := Lib.hid hlz
  clear HI h6 hb1 hb2 hb3 hlz
  have hb1 : (((0 : Nat) : Int) != 0) = false := rfl
  have hb2 : ((b.size : Int) != (b.size : Int)) = false := by simp
  have hb3 : ((2 : Int) != 2) = false := rfl
  obtain ⟨X, hX⟩ : ∃ X, rowsG ld.size ld 0 [] = X := ⟨_, rfl⟩
  rw [hX] at HI2
  have HX := Lib.hid hX
  clear hX
  go_enter Try.func87, Try.ntmps87
  go_wp2_with (first | (go_at_call 65; refine (HTK.out _).mono ?_; rintro e w1 ⟨rfl, hbw⟩; have HBW := Lib.hid hbw; clear hbw) | (go_at_call 29; refine (Read_calls ld _).mono ?_; rintro e w2 ⟨rfl, hr2, hb2', hsz2⟩; have HR2 := Lib.hid hr2; have HB2 := Lib.hid hb2'; clear hr2 hb2' hsz2))
  have hb3w : Below w.heap.size w w2 := HBW.out.trans (HB2.out.mono HBW.out.size)
  obtain ⟨g, hg⟩ : ∃ g, g = w1.heap.size := ⟨_, rfl⟩
  have HGW := Lib.hid (show w.heap.size ≤ g by rw [hg]; exact HBW.out.size)
  rw [← hg] at HR2 ⊢
  have HB3 := Lib.hid hb3w
  clear hg hb3w HBW HB2 HTK hb1 hb2 hb3 hls
  go_loopw [11] (fun ov W => ∃ (n : Nat) (s2 : ByteArray) (e2 : Int) (acc : List RRow), Below w.heap.size w W ∧ RdIs W g s2 e2 ∧ Hid (rowsG n s2 e2 acc = X) ∧ (e2 = 0 → s2.size ≤ n) ∧ s2.size ≤ ld.size ∧ (e2 = 0 → acc.length + s2.size ≤ ld.size) ∧ (acc = [] → 0 < s2.size ∧ e2 = 0) ∧ Kd.R kR 123 W w.heap.size (fun q => q ≠ g) ov acc) (fun _ W => rdM g W)
  case atStart => exact ⟨ld.size, ld, 0, [], HB3.out, HR2.out, HX, fun _ => Nat.le_refl _, Nat.le_refl _, fun _ => by simp, fun _ => ⟨by have := HLZ.out; omega, rfl⟩, Kd.R_nil _ _ _ _ _⟩
  case round =>
    obtain ⟨n, s2, e2, acc, hbw, hrd, HN, hsn, hs2, hk2, hne, hr1⟩ := hrel
    have HBW := Lib.hid hbw
    have HRD := Lib.hid hrd
    have HK1 := Lib.hid hr1
    have HNE := Lib.hid hne
    clear hbw hrd hr1 hne HR2 HB3 HX
    by_cases he : e2 = 0
    · subst he
      have HKS := Lib.hid (show s2.size ≤ ld.size ∧ acc.length + s2.size ≤ ld.size from ⟨hs2, hk2 rfl⟩)
      clear hs2 hk2
      by_cases hlt : 0 < s2.size
      · have hd0 : decide ((0 : Int) < (s2.size : Int)) = true := by simp; omega
        obtain ⟨n, rfl⟩ : ∃ m, n = m + 1 := ⟨n - 1, by have := hsn rfl; omega⟩
        have hrs := rowR_sz s2
        have HN1 := Lib.hid (show (if 1 < (rowR s2 0).2.1 ∨ mayN (rowR s2 0).1 ≠ 0 then none else rowsG n (rowR s2 0).2.2.1 (rowR s2 0).2.2.2 (acc ++ [(rowR s2 0).1])) = X by rw [← HN.out, rowsG, if_neg (show ¬ (s2.size = 0 ∨ (0 : Int) ≠ 0) by omega)])
        have hrw : rowR s2 0 = (⟨(textR s2 0 64).1, (textR (byteR (textR s2 0 64).2.1 (textR s2 0 64).2.2).2.1 (byteR (textR s2 0 64).2.1 (textR s2 0 64).2.2).2.2 16384).1, decide ((byteR (textR s2 0 64).2.1 (textR s2 0 64).2.2).1 = 1)⟩, (byteR (textR s2 0 64).2.1 (textR s2 0 64).2.2).1, (textR (byteR (textR s2 0 64).2.1 (textR s2 0 64).2.2).2.1 (byteR (textR s2 0 64).2.1 (textR s2 0 64).2.2).2.2 16384).2.1, (textR (byteR (textR s2 0 64).2.1 (textR s2 0 64).2.2).2.1 (byteR (textR s2 0 64).2.1 (textR s2 0 64).2.2).2.2 16384).2.2) := rfl
        rw [hrw] at HN1 hrs
        clear hrw HN
        have hz1 := (textR_sz2 s2 0 64).1
        have HT1 := Lib.hid (fun (W : World) (h : RdIs W g s2 0) => Text_calls g s2 0 64 W (by unfold maxLen; have := HKS.out; have := HLD.out; omega) (by decide) (by decide) h)
        obtain ⟨T, hT⟩ : ∃ T, T = textR s2 0 64 := ⟨_, rfl⟩
        rw [← hT] at HN1 hrs hz1 HT1
        clear hT
        obtain ⟨kx, s3, e3⟩ := T
        dsimp only at HN1 hrs hz1 HT1
        have hz2 := (byteR_sz s3 e3).1
        have hgv := byteR_val s3 e3
        have HT2 := Lib.hid (fun (W : World) (h : RdIs W g s3 e3) => Byte_calls g s3 e3 W h)
        obtain ⟨T, hT⟩ : ∃ T, T = byteR s3 e3 := ⟨_, rfl⟩
        rw [← hT] at HN1 hrs hz2 hgv HT2
        clear hT
        obtain ⟨gv, s4, e4⟩ := T
        dsimp only at HN1 hrs hz2 hgv HT2
        have HT3 := Lib.hid (fun (W : World) (h : RdIs W g s4 e4) => Text_calls g s4 e4 16384 W (by unfold maxLen; have := HKS.out; have := HLD.out; omega) (by decide) (by decide) h)
        obtain ⟨T, hT⟩ : ∃ T, T = textR s4 e4 16384 := ⟨_, rfl⟩
        rw [← hT] at HN1 hrs HT3
        clear hT hz1 hz2
        obtain ⟨cx, s5, e5⟩ := T
        dsimp only at HN1 hrs HT3
        obtain ⟨bd, hbd⟩ : ∃ bd, bd = decide (gv = 1) := ⟨_, rfl⟩
        have hbd2 : (gv == 1) = bd := hbd.symm
        rw [← hbd] at HN1
        clear hbd
        have HRS := Lib.hid hrs
        have HSN := Lib.hid (hsn rfl)
        have C77 := Lib.hid (fun W => may_calls ⟨kx, cx, bd⟩ W)
        obtain ⟨mn, hmn⟩ : ∃ mn, mn = mayN ⟨kx, cx, bd⟩ := ⟨_, rfl⟩
        rw [← hmn] at HN1 C77
        clear hmn hrs hsn
        by_cases hg1 : 1 < gv
        · have hd1 : decide ((1 : Int) < gv) = true := by simp; omega
          have HXN := Lib.hid (show blockF b first = none by rw [HI2.out, ← HN1.out, if_pos (.inl hg1)]; rfl)
          clear hg1 HN1
          go_wp2_with (first | (go_at_call 32; refine (Left_calls g s2 0 _ HRD.out).mono ?_; rintro e w' ⟨rfl, rfl⟩) | (go_at_call 31; refine (Err_calls g s2 0 _ HRD.out).mono ?_; rintro e w' ⟨rfl, rfl⟩) | (go_at_call 33; refine (HT1.out _ HRD.out).mono ?_; rintro e w3 ⟨rfl, hr3, ho3⟩; have HR3 := Lib.hid hr3; have HO3 := Lib.hid ho3; clear hr3 ho3) | (go_at_call 54; refine (HT2.out _ HR3.out).mono ?_; rintro e w4 ⟨rfl, hr4, ho4⟩; have HR4 := Lib.hid hr4; have HO4 := Lib.hid (HO3.out.trans ho4); clear hr4 ho4) | (go_at_call 33; refine (HT3.out _ HR4.out).mono ?_; rintro e w5 ⟨rfl, hr5, ho5⟩; have HR5 := Lib.hid hr5; have HO5 := Lib.hid (HO4.out.trans ho5); clear hr5 ho5) | ((with_reducible refine gate_dst (N := 14) rfl ?_); refine box_event ?hg (N := 14) ?hd (cs := #[.string ⟨#[]⟩, .bool false]) (t := 38) ?hr ?_; (case hd => rfl); (case hg => rfl); (case hr => first | (go_simp; done) | (go_simp; rfl)); intro gb hgb w6 hz hb; have HG6 := Lib.hid hgb; have HZ6 := Lib.hid hz; have HB6 := Lib.hid hb; clear hgb hz hb) | (refine wpList_store_row rfl rfl 38 (.tmp 14) (.tmp 56) rfl (g := gb) rfl rfl HZ6.out (by kernel_rfl) rfl (one2 rfl rfl) ?_; intro w7 hz hg; have HZ7 := Lib.hid hz; have HGB7 := Lib.hid hg; have c70 := (blk_cell hz 0).trans rfl; have c71 := (blk_cell hz 1).trans rfl; clear hz hg))
          go_ret2
          exact BlkPost.none HXN.out (Below.grown ((HO5.out.toBelow HBW.out HGW.out HBW.out.size).trans (HB6.out.mono (by have := HO5.out.size; have := HBW.out.size; omega))) HGB7.out (by have := HO5.out.size; have := HBW.out.size; have := HB6.out.size; omega) (fun q e => by injection e with e; have := HG6.out; have := HO5.out.size; have := HBW.out.size; omega))
        · have hd1 : decide ((1 : Int) < gv) = false := by simp; omega
          by_cases hm0 : mn = 0
          · have hq : ((mn : Int) != 0) = false := by simp [hm0]
            have HN2 := Lib.hid (show rowsG n s5 e5 (acc ++ [⟨kx, cx, bd⟩]) = X by rw [← HN1.out, if_neg (by omega)])
            clear hg1 HN1 hm0
            go_wp2_with (first | (go_at_call 32; refine (Left_calls g s2 0 _ HRD.out).mono ?_; rintro e w' ⟨rfl, rfl⟩) | (go_at_call 31; refine (Err_calls g s2 0 _ HRD.out).mono ?_; rintro e w' ⟨rfl, rfl⟩) | (go_at_call 33; refine (HT1.out _ HRD.out).mono ?_; rintro e w3 ⟨rfl, hr3, ho3⟩; have HR3 := Lib.hid hr3; have HO3 := Lib.hid ho3; clear hr3 ho3) | (go_at_call 54; refine (HT2.out _ HR3.out).mono ?_; rintro e w4 ⟨rfl, hr4, ho4⟩; have HR4 := Lib.hid hr4; have HO4 := Lib.hid (HO3.out.trans ho4); clear hr4 ho4) | (go_at_call 33; refine (HT3.out _ HR4.out).mono ?_; rintro e w5 ⟨rfl, hr5, ho5⟩; have HR5 := Lib.hid hr5; have HO5 := Lib.hid (HO4.out.trans ho5); clear hr5 ho5) | ((with_reducible refine gate_dst (N := 14) rfl ?_); refine box_event ?hg (N := 14) ?hd (cs := #[.string ⟨#[]⟩, .bool false]) (t := 38) ?hr ?_; (case hd => rfl); (case hg => rfl); (case hr => first | (go_simp; done) | (go_simp; rfl)); intro gb hgb w6 hz hb; have HG6 := Lib.hid hgb; have HZ6 := Lib.hid hz; have HB6 := Lib.hid hb; clear hgb hz hb) | (refine wpList_store_row rfl rfl 38 (.tmp 14) (.tmp 56) rfl (g := gb) rfl rfl HZ6.out (by kernel_rfl) rfl (one2 rfl rfl) ?_; intro w7 hz hg; have HZ7 := Lib.hid hz; have HGB7 := Lib.hid hg; have c70 := (blk_cell hz 0).trans rfl; have c71 := (blk_cell hz 1).trans rfl; clear hz hg) | (go_at_call 77; refine (C77.out _).mono ?_; rintro e w8 ⟨rfl, hb8⟩; have HB8 := Lib.hid hb8; clear c70 c71; have hz8 := blk_below HZ7.out hb8; have c80 := (blk_cell hz8 0).trans rfl; have c81 := (blk_cell hz8 1).trans rfl; clear hz8 hb8; have HS8 := Lib.hid (show wr.heap.size ≤ w8.heap.size by have := HO5.out.size; have := HB6.out.size; have := HGB7.out.size; have := HB8.out.size; omega); have HBW8 := Lib.hid (show Below w.heap.size w w8 from (Below.grown ((HO5.out.toBelow HBW.out HGW.out HBW.out.size).trans (HB6.out.mono (by have := HO5.out.size; have := HBW.out.size; omega))) HGB7.out (by have := HO5.out.size; have := HBW.out.size; have := HB6.out.size; omega) (fun q e => by injection e with e; have := HG6.out; have := HO5.out.size; have := HBW.out.size; omega)).trans (HB8.out.mono (by have := HO5.out.size; have := HBW.out.size; have := HB6.out.size; have := HGB7.out.size; omega))); have HR8 := Lib.hid (show RdIs w8 g s5 e5 from (RdIs.grown' (HR5.out.below HB6.out) HGB7.out (fun e => by injection e with e; have := HG6.out; have := HR5.out.lt; omega)).below HB8.out); have HK8 := Lib.hid (Kd.R_step HK1.out (fun q hq hq2 => (HB8.out.block q (by have := HO5.out.size; have := HB6.out.size; have := HGB7.out.size; omega)).trans ((HGB7.out.block q (by have := HO5.out.size; have := HB6.out.size; omega) (fun e => by injection e with e; have := HG6.out; have := HO5.out.size; omega)).trans ((HB6.out.block q (by have := HO5.out.size; omega)).trans (HO5.out.block q hq2 hq)))))) | ((with_reducible refine gate_builtin (b := .append) (xs := #[.tmp 65, .tmp 69]) rfl ?_); at_builtin; refine Kd.R_append kR (w0 := w8) w.heap.size rfl (.tmp 65) (.tmp 69) 119 123 zRow 40 rfl Try.underlying119 info123 rfl (by decide) (by decide) u11 acc ⟨kx, cx, bd⟩ [.string kx, .string cx, .bool bd] (fun q => q ≠ g) (fun _ => False) rfl rfl ?aP (fun _ hk => hk.elim) ?aF ?aO ?aB ?aS ?aL ?_; (case aP => exact kR_mkM _ _ _ _); (case aF => exact (fun q hq => by have := HS8.out; have := HRD.out.lt; omega)); (case aO => exact HK8.out); (case aB => exact Below.refl _ _); (case aS => exact (by have := HS8.out; have := HBW.out.size; omega)); (case aL => (have := HKS.out; have := HLD.out; omega)); intro v1 w9 hR _ hgr _; have HR9 := Lib.hid hR; have HGR := Lib.hid hgr; clear hR hgr))
            go_roundw
            case rel =>
              refine ⟨n, s5, e5, acc ++ [⟨kx, cx, bd⟩], ?_, ?_, HN2, fun h => by have := HRS.out.2 h; have := HSN.out; omega, by have := HRS.out; have := HKS.out; omega, fun h => by have := HRS.out.2 h; have := HKS.out; simp only [List.length_append, List.length_singleton]; omega, fun h => by simp at h, HR9.out⟩
              · exact Below.grown HBW8.out HGR.out (by have := HS8.out; have := HBW.out.size; omega) (fun q e => ((Kd.R_bound HK8.out).1 q e).2.1)
              · exact RdIs.grown' HR8.out HGR.out (fun e => HK8.out.1 g e rfl)
            case measure =>
              rw [rdM_is (RdIs.grown' HR8.out HGR.out (fun e => HK8.out.1 g e rfl)), rdM_is HRD.out, if_pos rfl]
              have h := HRS.out
              split
              · rename_i h5
                have := h.2 h5
                omega
              · omega
          · have hq : ((mn : Int) != 0) = true := by simp [hm0]
            have HXN := Lib.hid (show blockF b first = none by rw [HI2.out, ← HN1.out, if_pos (.inr hm0)]; rfl)
            clear hg1 HN1 hm0
            go_wp2_with (first | (go_at_call 32; refine (Left_calls g s2 0 _ HRD.out).mono ?_; rintro e w' ⟨rfl, rfl⟩) | (go_at_call 31; refine (Err_calls g s2 0 _ HRD.out).mono ?_; rintro e w' ⟨rfl, rfl⟩) | (go_at_call 33; refine (HT1.out _ HRD.out).mono ?_; rintro e w3 ⟨rfl, hr3, ho3⟩; have HR3 := Lib.hid hr3; have HO3 := Lib.hid ho3; clear hr3 ho3) | (go_at_call 54; refine (HT2.out _ HR3.out).mono ?_; rintro e w4 ⟨rfl, hr4, ho4⟩; have HR4 := Lib.hid hr4; have HO4 := Lib.hid (HO3.out.trans ho4); clear hr4 ho4) | (go_at_call 33; refine (HT3.out _ HR4.out).mono ?_; rintro e w5 ⟨rfl, hr5, ho5⟩; have HR5 := Lib.hid hr5; have HO5 := Lib.hid (HO4.out.trans ho5); clear hr5 ho5) | ((with_reducible refine gate_dst (N := 14) rfl ?_); refine box_event ?hg (N := 14) ?hd (cs := #[.string ⟨#[]⟩, .bool false]) (t := 38) ?hr ?_; (case hd => rfl); (case hg => rfl); (case hr => first | (go_simp; done) | (go_simp; rfl)); intro gb hgb w6 hz hb; have HG6 := Lib.hid hgb; have HZ6 := Lib.hid hz; have HB6 := Lib.hid hb; clear hgb hz hb) | (refine wpList_store_row rfl rfl 38 (.tmp 14) (.tmp 56) rfl (g := gb) rfl rfl HZ6.out (by kernel_rfl) rfl (one2 rfl rfl) ?_; intro w7 hz hg; have HZ7 := Lib.hid hz; have HGB7 := Lib.hid hg; have c70 := (blk_cell hz 0).trans rfl; have c71 := (blk_cell hz 1).trans rfl; clear hz hg) | (go_at_call 77; refine (C77.out _).mono ?_; rintro e w8 ⟨rfl, hb8⟩; have HB8 := Lib.hid hb8; clear c70 c71; have hz8 := blk_below HZ7.out hb8; have c80 := (blk_cell hz8 0).trans rfl; have c81 := (blk_cell hz8 1).trans rfl; clear hz8 hb8))
            go_ret2
            exact BlkPost.none HXN.out ((Below.grown ((HO5.out.toBelow HBW.out HGW.out HBW.out.size).trans (HB6.out.mono (by have := HO5.out.size; have := HBW.out.size; omega))) HGB7.out (by have := HO5.out.size; have := HBW.out.size; have := HB6.out.size; omega) (fun q e => by injection e with e; have := HG6.out; have := HO5.out.size; have := HBW.out.size; omega)).trans (HB8.out.mono (by have := HO5.out.size; have := HBW.out.size; have := HB6.out.size; have := HGB7.out.size; omega)))
      · have hz : s2.size = 0 := by omega
        have hd0 : decide ((0 : Int) < (s2.size : Int)) = false := decide_eq_false (by omega)
        have HX2 := Lib.hid (show X = some (acc, s2, 0) by
          rw [← HN.out]
          cases n <;> (unfold rowsG; rw [if_pos (.inl hz)]))
        have hen : endR s2 0 = 0 := by unfold endR; rw [if_neg (fun h => by have := h.2; omega)]
        have HEN := Lib.hid hen
        have hacc : acc ≠ [] := fun h => by have := (HNE.out h).1; omega
        have HAC := Lib.hid hacc
        have C58 := Lib.hid (End_calls g s2 0 wr.drew (HRD.out.below (below_drew1 (Below.refl _ _))))
        rw [hen] at C58
        clear HN hz hsn hen hacc
        obtain ⟨Ao, co, rfl⟩ := Kd.R_slice HK1.out
        obtain ⟨ad, cv, hAo, hcl, hFK, hcc, _⟩ := Kd.F_get (Kd.R_F HK1.out) rz 0 (Int.le_refl _) (by have h := List.length_pos_iff.2 HAC.out; omega)
        obtain rfl := kR_open (Kd.FK_now hFK)
        subst hAo
        have hal : 0 < acc.length := List.length_pos_iff.2 HAC.out
        have hk0 : wr.drew.cell? ad = some (.string (acc.getD 0 rz).k) := by
          have h := hcc 0 _ rfl
          rwa [show (ad.add ((0 : Int).toNat * kR.sz + 0)) = ad by cases ad; rfl] at h
        obtain ⟨k0, hk0e⟩ : ∃ k0, k0 = (acc.getD 0 rz).k := ⟨_, rfl⟩
        rw [← hk0e] at hk0
        have HK0E := Lib.hid hk0e
        clear hFK hcc hcl hk0e
        go_wp2_with (first | (go_at_call 32; refine (Left_calls g s2 0 _ HRD.out).mono ?_; rintro e w' ⟨rfl, rfl⟩))
        refine start_ (n := 14) (S := fun w' => w'.cell? ad = some (.string k0)) (ds := []) #[false, false, false, false, false, false, false, false, false, false, false, false, false, false] (by kernel_rfl) rfl rfl (hk0) (fun hHeld => ?_)
        refine pure_ (i := 0) (N := some 71) (v := ?_) (a' := ?_) #[true, false, false, false, false, false, false, false, false, false, false, false, false, false] rfl rfl (by kernel_rfl) (fun _ _ _ h => h) (Or.inl ⟨by rfl, ?_⟩) ?_ ?_
        rotate_left
        · intro w'
          go_simp
          with_reducible rfl
        rotate_left
        · simp only [Act.put, List.setIfInBounds_toArray, List.set_cons_zero, List.set_cons_succ, i64_w, i32_w]
          rfl
        refine pure_ (i := 1) (N := some 72) (v := ?_) (a' := ?_) #[true, true, false, false, false, false, false, false, false, false, false, false, false, false] rfl rfl (by kernel_rfl) (fun _ _ _ h => h) (Or.inl ⟨by rfl, ?_⟩) ?_ ?_
        rotate_left
        · intro w'
          go_simp
          with_reducible rfl
        rotate_left
        · simp only [Act.put, List.setIfInBounds_toArray, List.set_cons_zero, List.set_cons_succ, i64_w, i32_w]
          rfl
        refine one_ (i := 2) (N := some 73) #[true, true, true, false, false, false, false, false, false, false, false, false, false, false] rfl rfl (by kernel_rfl) (by decide) (fun K hK => ?_)
        refine goes_ Try.func58 (by kernel_rfl) rfl #[.pointer (some ⟨g, 0, none⟩)] (by rfl) rfl rfl (by simp only [List.map_toArray, List.map_cons, List.map_nil]; rfl) ?_
        refine C58.out.mono ?_
        rintro e wl ⟨rfl, rfl⟩
        refine ⟨_, rfl, ?_⟩
        refine hK.out _ _ (hk0) (fun hHeld => ?_)
        clear hK K
        refine norm_ (a' := ?_) ?_ ?_
        rotate_left
        · show Act.put _ (some 73) _ = _
          simp only [Act.put, List.setIfInBounds_toArray, List.set_cons_zero, List.set_cons_succ, i64_w, i32_w]
          rfl
        refine pure_ (i := 3) (N := some 74) (v := ?_) (a' := ?_) #[true, true, true, true, false, false, false, false, false, false, false, false, false, false] rfl rfl (by kernel_rfl) (fun _ _ _ h => h) (Or.inl ⟨by rfl, ?_⟩) ?_ ?_
        rotate_left
        · intro w'
          go_simp
          with_reducible rfl
        rotate_left
        · simp only [Act.put, List.setIfInBounds_toArray, List.set_cons_zero, List.set_cons_succ, i64_w, i32_w]
          rfl
        refine pure_ (i := 4) (N := some 75) (v := ?_) (a' := ?_) #[true, true, true, true, true, false, false, false, false, false, false, false, false, false] rfl rfl (by kernel_rfl) (fun _ _ _ h => h) (Or.inl ⟨by rfl, ?_⟩) ?_ ?_
        rotate_left
        · intro w'
          go_simp
          with_reducible rfl
        rotate_left
        · simp only [Act.put, List.setIfInBounds_toArray, List.set_cons_zero, List.set_cons_succ, i64_w, i32_w]
          rfl
        refine pure_ (i := 5) (N := some 76) (v := ?_) (a' := ?_) #[true, true, true, true, true, true, false, false, false, false, false, false, false, false] rfl rfl (by kernel_rfl) (fun _ _ _ h => h) (Or.inl ⟨by rfl, ?_⟩) ?_ ?_
        rotate_left
        · intro w'
          go_simp
          with_reducible rfl
        rotate_left
        · simp only [Act.put, List.setIfInBounds_toArray, List.set_cons_zero, List.set_cons_succ, i64_w, i32_w]
          rfl
        refine pure_ (i := 6) (N := some 77) (v := ?_) (a' := ?_) #[true, true, true, true, true, true, true, false, false, false, false, false, false, false] rfl rfl (by kernel_rfl) (fun _ _ _ h => h) (Or.inl ⟨by rfl, ?_⟩) ?_ ?_
        rotate_left
        · intro w'
          go_simp
          with_reducible rfl
        rotate_left
        · simp only [Act.put, List.setIfInBounds_toArray, List.set_cons_zero, List.set_cons_succ, i64_w, i32_w]
          rfl
        refine pure_ (i := 7) (N := some 78) (v := ?_) (a' := ?_) #[true, true, true, true, true, true, true, true, false, false, false, false, false, false] rfl rfl (by kernel_rfl) (fun _ _ _ h => h) (Or.inl ⟨by rfl, ?_⟩) ?_ ?_
        rotate_left
        · intro w'
          go_simp
          with_reducible rfl
        rotate_left
        · simp only [Act.put, List.setIfInBounds_toArray, List.set_cons_zero, List.set_cons_succ, i64_w, i32_w]
          rfl
        refine take_ (i := 8) (N := some 79) (v := ?_) (a' := ?_) #[true, true, true, true, true, true, true, true, true, false, false, false, false, false] rfl rfl (by kernel_rfl) (fun _ _ _ h => h) (Or.inl ⟨by rfl, ?_⟩) hHeld ?_ ?_
        rotate_left
        · rintro w' s0
          go_simp
          with_reducible rfl
        rotate_left
        · simp only [Act.put, List.setIfInBounds_toArray, List.set_cons_zero, List.set_cons_succ, i64_w, i32_w]
          rfl
        refine pure_ (i := 9) (N := some 80) (v := ?_) (a' := ?_) #[true, true, true, true, true, true, true, true, true, true, false, false, false, false] rfl rfl (by kernel_rfl) (fun _ _ _ h => h) (Or.inl ⟨by rfl, ?_⟩) ?_ ?_
        rotate_left
        · intro w'
          go_simp
          with_reducible rfl
        rotate_left
        · simp only [Act.put, List.setIfInBounds_toArray, List.set_cons_zero, List.set_cons_succ, i64_w, i32_w]
          rfl
        refine pure_ (i := 10) (N := some 81) (v := ?_) (a' := ?_) #[true, true, true, true, true, true, true, true, true, true, true, false, false, false] rfl rfl (by kernel_rfl) (fun _ _ _ h => h) (Or.inl ⟨by rfl, ?_⟩) ?_ ?_
        rotate_left
        · intro w'
          go_simp
          with_reducible rfl
        rotate_left
        · simp only [Act.put, List.setIfInBounds_toArray, List.set_cons_zero, List.set_cons_succ, i64_w, i32_w]
          rfl
        refine pure_ (i := 11) (N := some 82) (v := ?_) (a' := ?_) #[true, true, true, true, true, true, true, true, true, true, true, true, false, false] rfl rfl (by kernel_rfl) (fun _ _ _ h => h) (Or.inl ⟨by rfl, ?_⟩) ?_ ?_
        rotate_left
        · intro w'
          go_simp
          with_reducible rfl
        rotate_left
        · simp only [Act.put, List.setIfInBounds_toArray, List.set_cons_zero, List.set_cons_succ, i64_w, i32_w]
          rfl
        refine pure_ (i := 12) (N := some 4) (v := ?_) (a' := ?_) #[true, true, true, true, true, true, true, true, true, true, true, true, true, false] rfl rfl (by kernel_rfl) (fun _ _ _ h => h) (Or.inl ⟨by rfl, ?_⟩) ?_ ?_
        rotate_left
        · intro w'
          go_simp
          with_reducible rfl
        rotate_left
        · simp only [Act.put, List.setIfInBounds_toArray, List.set_cons_zero, List.set_cons_succ, i64_w, i32_w]
          rfl
        refine pure_ (i := 13) (N := some 5) (v := ?_) (a' := ?_) #[true, true, true, true, true, true, true, true, true, true, true, true, true, true] rfl rfl (by kernel_rfl) (fun _ _ _ h => h) (Or.inl ⟨by rfl, ?_⟩) ?_ ?_
        rotate_left
        · intro w'
          go_simp
          with_reducible rfl
        rotate_left
        · simp only [Act.put, List.setIfInBounds_toArray, List.set_cons_zero, List.set_cons_succ, i64_w, i32_w]
          rfl
        refine done_ (by kernel_rfl) ?_
        clear hHeld
        go_wp2_with fail
        go_ret2
        exact blk_fin HI2.out HX2.out HEN.out HK0E.out (HBW.out.trans ((below_drew1 (Below.refl wr.heap.size wr)).mono HBW.out.size)) (Kd.R_below HK1.out (below_drew1 (Below.refl _ _)))
    · have hne2 : (e2 == 0) = false := by simpa using he
      have hen : endR s2 e2 = e2 := by unfold endR; rw [if_neg (fun h => he h.1)]
      have HX2 := Lib.hid (show blockF b first = none by
        rw [HI2.out, ← HN.out]
        have h : ∀ m, rowsG m s2 e2 acc = some (acc, s2, e2) := fun m => by cases m <;> (unfold rowsG; rw [if_pos (.inr he)])
        rw [h]
        unfold blockE
        dsimp only
        rw [hen, if_neg (fun h => he h.1)])
      have C58 := Lib.hid (End_calls g s2 e2 wr.drew (HRD.out.below (below_drew1 (Below.refl _ _))))
      rw [hen] at C58
      clear HN hs2 hk2 hsn hen he
      by_cases hlt : 0 < s2.size
      · have hd0 : decide ((0 : Int) < (s2.size : Int)) = true := by simp; omega
        go_wp2_with (first | (go_at_call 32; refine (Left_calls g s2 e2 _ HRD.out).mono ?_; rintro e w' ⟨rfl, rfl⟩) | (go_at_call 31; refine (Err_calls g s2 e2 _ HRD.out).mono ?_; rintro e w' ⟨rfl, rfl⟩))
        refine start_ (n := 14) (S := fun _ => True) (ds := []) #[false, false, false, false, false, false, false, false, false, false, false, false, false, false] (by kernel_rfl) rfl rfl (trivial) (fun hHeld => ?_)
        refine pure_ (i := 0) (N := some 71) (v := ?_) (a' := ?_) #[true, false, false, false, false, false, false, false, false, false, false, false, false, false] rfl rfl (by kernel_rfl) (fun _ _ _ h => h) (Or.inl ⟨by rfl, ?_⟩) ?_ ?_
        rotate_left
        · intro w'
          go_simp
          with_reducible rfl
        rotate_left
        · simp only [Act.put, List.setIfInBounds_toArray, List.set_cons_zero, List.set_cons_succ, i64_w, i32_w]
          rfl
        refine pure_ (i := 1) (N := some 72) (v := ?_) (a' := ?_) #[true, true, false, false, false, false, false, false, false, false, false, false, false, false] rfl rfl (by kernel_rfl) (fun _ _ _ h => h) (Or.inl ⟨by rfl, ?_⟩) ?_ ?_
        rotate_left
        · intro w'
          go_simp
          with_reducible rfl
        rotate_left
        · simp only [Act.put, List.setIfInBounds_toArray, List.set_cons_zero, List.set_cons_succ, i64_w, i32_w]
          rfl
        refine one_ (i := 2) (N := some 73) #[true, true, true, false, false, false, false, false, false, false, false, false, false, false] rfl rfl (by kernel_rfl) (by decide) (fun K hK => ?_)
        refine goes_ Try.func58 (by kernel_rfl) rfl #[.pointer (some ⟨g, 0, none⟩)] (by rfl) rfl rfl (by simp only [List.map_toArray, List.map_cons, List.map_nil]; rfl) ?_
        refine C58.out.mono ?_
        rintro e wl ⟨rfl, rfl⟩
        refine ⟨_, rfl, ?_⟩
        refine hK.out _ _ (trivial) (fun hHeld => ?_)
        clear hK K
        refine norm_ (a' := ?_) ?_ ?_
        rotate_left
        · show Act.put _ (some 73) _ = _
          simp only [Act.put, List.setIfInBounds_toArray, List.set_cons_zero, List.set_cons_succ, i64_w, i32_w]
          rfl
        refine pure_ (i := 3) (N := some 74) (v := ?_) (a' := ?_) #[true, true, true, true, false, false, false, false, false, false, false, false, false, false] rfl rfl (by kernel_rfl) (fun _ _ _ h => h) (Or.inl ⟨by rfl, ?_⟩) ?_ ?_
        rotate_left
        · intro w'
          go_simp
          with_reducible rfl
        rotate_left
        · simp only [Act.put, List.setIfInBounds_toArray, List.set_cons_zero, List.set_cons_succ, i64_w, i32_w]
          rfl
        refine pure_ (i := 4) (N := some 75) (v := ?_) (a' := ?_) #[true, true, true, true, true, false, false, false, false, false, false, false, false, false] rfl rfl (by kernel_rfl) (fun _ _ _ h => h) (Or.inl ⟨by rfl, ?_⟩) ?_ ?_
        rotate_left
        · intro w'
          go_simp
          with_reducible rfl
        rotate_left
        · simp only [Act.put, List.setIfInBounds_toArray, List.set_cons_zero, List.set_cons_succ, i64_w, i32_w]
          rfl
        refine pure_ (i := 5) (N := some 76) (v := undef) (a' := ?_) #[true, true, true, true, true, true, false, false, false, false, false, false, false, false] rfl rfl (by kernel_rfl) (fun _ _ _ h => h) (Or.inr ⟨by rfl, rfl⟩) ?_ ?_
        rotate_left
        · simp only [Act.put, List.setIfInBounds_toArray, List.set_cons_zero, List.set_cons_succ, i64_w, i32_w]
          rfl
        refine pure_ (i := 6) (N := some 77) (v := undef) (a' := ?_) #[true, true, true, true, true, true, true, false, false, false, false, false, false, false] rfl rfl (by kernel_rfl) (fun _ _ _ h => h) (Or.inr ⟨by rfl, rfl⟩) ?_ ?_
        rotate_left
        · simp only [Act.put, List.setIfInBounds_toArray, List.set_cons_zero, List.set_cons_succ, i64_w, i32_w]
          rfl
        refine pure_ (i := 7) (N := some 78) (v := undef) (a' := ?_) #[true, true, true, true, true, true, true, true, false, false, false, false, false, false] rfl rfl (by kernel_rfl) (fun _ _ _ h => h) (Or.inr ⟨by rfl, rfl⟩) ?_ ?_
        rotate_left
        · simp only [Act.put, List.setIfInBounds_toArray, List.set_cons_zero, List.set_cons_succ, i64_w, i32_w]
          rfl
        refine pure_ (i := 8) (N := some 79) (v := undef) (a' := ?_) #[true, true, true, true, true, true, true, true, true, false, false, false, false, false] rfl rfl (by kernel_rfl) (fun _ _ _ h => h) (Or.inr ⟨by rfl, rfl⟩) ?_ ?_
        rotate_left
        · simp only [Act.put, List.setIfInBounds_toArray, List.set_cons_zero, List.set_cons_succ, i64_w, i32_w]
          rfl
        refine pure_ (i := 9) (N := some 80) (v := undef) (a' := ?_) #[true, true, true, true, true, true, true, true, true, true, false, false, false, false] rfl rfl (by kernel_rfl) (fun _ _ _ h => h) (Or.inr ⟨by rfl, rfl⟩) ?_ ?_
        rotate_left
        · simp only [Act.put, List.setIfInBounds_toArray, List.set_cons_zero, List.set_cons_succ, i64_w, i32_w]
          rfl
        refine pure_ (i := 10) (N := some 81) (v := undef) (a' := ?_) #[true, true, true, true, true, true, true, true, true, true, true, false, false, false] rfl rfl (by kernel_rfl) (fun _ _ _ h => h) (Or.inr ⟨by rfl, rfl⟩) ?_ ?_
        rotate_left
        · simp only [Act.put, List.setIfInBounds_toArray, List.set_cons_zero, List.set_cons_succ, i64_w, i32_w]
          rfl
        refine pure_ (i := 11) (N := some 82) (v := ?_) (a' := ?_) #[true, true, true, true, true, true, true, true, true, true, true, true, false, false] rfl rfl (by kernel_rfl) (fun _ _ _ h => h) (Or.inl ⟨by rfl, ?_⟩) ?_ ?_
        rotate_left
        · intro w'
          go_simp
          with_reducible rfl
        rotate_left
        · simp only [Act.put, List.setIfInBounds_toArray, List.set_cons_zero, List.set_cons_succ, i64_w, i32_w]
          rfl
        refine pure_ (i := 12) (N := some 4) (v := ?_) (a' := ?_) #[true, true, true, true, true, true, true, true, true, true, true, true, true, false] rfl rfl (by kernel_rfl) (fun _ _ _ h => h) (Or.inl ⟨by rfl, ?_⟩) ?_ ?_
        rotate_left
        · intro w'
          go_simp
          with_reducible rfl
        rotate_left
        · simp only [Act.put, List.setIfInBounds_toArray, List.set_cons_zero, List.set_cons_succ, i64_w, i32_w]
          rfl
        refine pure_ (i := 13) (N := some 5) (v := ?_) (a' := ?_) #[true, true, true, true, true, true, true, true, true, true, true, true, true, true] rfl rfl (by kernel_rfl) (fun _ _ _ h => h) (Or.inl ⟨by rfl, ?_⟩) ?_ ?_
        rotate_left
        · intro w'
          go_simp
          with_reducible rfl
        rotate_left
        · simp only [Act.put, List.setIfInBounds_toArray, List.set_cons_zero, List.set_cons_succ, i64_w, i32_w]
          rfl
        refine done_ (by kernel_rfl) ?_
        clear hHeld
        go_wp2_with fail
        go_ret2
        exact BlkPost.none HX2.out (HBW.out.trans ((below_drew1 (Below.refl wr.heap.size wr)).mono HBW.out.size))
      · have hd0 : decide ((0 : Int) < (s2.size : Int)) = false := decide_eq_false (by omega)
        go_wp2_with (first | (go_at_call 32; refine (Left_calls g s2 e2 _ HRD.out).mono ?_; rintro e w' ⟨rfl, rfl⟩) | (go_at_call 31; refine (Err_calls g s2 e2 _ HRD.out).mono ?_; rintro e w' ⟨rfl, rfl⟩))
        refine start_ (n := 14) (S := fun _ => True) (ds := []) #[false, false, false, false, false, false, false, false, false, false, false, false, false, false] (by kernel_rfl) rfl rfl (trivial) (fun hHeld => ?_)
        refine pure_ (i := 0) (N := some 71) (v := ?_) (a' := ?_) #[true, false, false, false, false, false, false, false, false, false, false, false, false, false] rfl rfl (by kernel_rfl) (fun _ _ _ h => h) (Or.inl ⟨by rfl, ?_⟩) ?_ ?_
        rotate_left
        · intro w'
          go_simp
          with_reducible rfl
        rotate_left
        · simp only [Act.put, List.setIfInBounds_toArray, List.set_cons_zero, List.set_cons_succ, i64_w, i32_w]
          rfl
        refine pure_ (i := 1) (N := some 72) (v := ?_) (a' := ?_) #[true, true, false, false, false, false, false, false, false, false, false, false, false, false] rfl rfl (by kernel_rfl) (fun _ _ _ h => h) (Or.inl ⟨by rfl, ?_⟩) ?_ ?_
        rotate_left
        · intro w'
          go_simp
          with_reducible rfl
        rotate_left
        · simp only [Act.put, List.setIfInBounds_toArray, List.set_cons_zero, List.set_cons_succ, i64_w, i32_w]
          rfl
        refine one_ (i := 2) (N := some 73) #[true, true, true, false, false, false, false, false, false, false, false, false, false, false] rfl rfl (by kernel_rfl) (by decide) (fun K hK => ?_)
        refine goes_ Try.func58 (by kernel_rfl) rfl #[.pointer (some ⟨g, 0, none⟩)] (by rfl) rfl rfl (by simp only [List.map_toArray, List.map_cons, List.map_nil]; rfl) ?_
        refine C58.out.mono ?_
        rintro e wl ⟨rfl, rfl⟩
        refine ⟨_, rfl, ?_⟩
        refine hK.out _ _ (trivial) (fun hHeld => ?_)
        clear hK K
        refine norm_ (a' := ?_) ?_ ?_
        rotate_left
        · show Act.put _ (some 73) _ = _
          simp only [Act.put, List.setIfInBounds_toArray, List.set_cons_zero, List.set_cons_succ, i64_w, i32_w]
          rfl
        refine pure_ (i := 3) (N := some 74) (v := ?_) (a' := ?_) #[true, true, true, true, false, false, false, false, false, false, false, false, false, false] rfl rfl (by kernel_rfl) (fun _ _ _ h => h) (Or.inl ⟨by rfl, ?_⟩) ?_ ?_
        rotate_left
        · intro w'
          go_simp
          with_reducible rfl
        rotate_left
        · simp only [Act.put, List.setIfInBounds_toArray, List.set_cons_zero, List.set_cons_succ, i64_w, i32_w]
          rfl
        refine pure_ (i := 4) (N := some 75) (v := ?_) (a' := ?_) #[true, true, true, true, true, false, false, false, false, false, false, false, false, false] rfl rfl (by kernel_rfl) (fun _ _ _ h => h) (Or.inl ⟨by rfl, ?_⟩) ?_ ?_
        rotate_left
        · intro w'
          go_simp
          with_reducible rfl
        rotate_left
        · simp only [Act.put, List.setIfInBounds_toArray, List.set_cons_zero, List.set_cons_succ, i64_w, i32_w]
          rfl
        refine pure_ (i := 5) (N := some 76) (v := undef) (a' := ?_) #[true, true, true, true, true, true, false, false, false, false, false, false, false, false] rfl rfl (by kernel_rfl) (fun _ _ _ h => h) (Or.inr ⟨by rfl, rfl⟩) ?_ ?_
        rotate_left
        · simp only [Act.put, List.setIfInBounds_toArray, List.set_cons_zero, List.set_cons_succ, i64_w, i32_w]
          rfl
        refine pure_ (i := 6) (N := some 77) (v := undef) (a' := ?_) #[true, true, true, true, true, true, true, false, false, false, false, false, false, false] rfl rfl (by kernel_rfl) (fun _ _ _ h => h) (Or.inr ⟨by rfl, rfl⟩) ?_ ?_
        rotate_left
        · simp only [Act.put, List.setIfInBounds_toArray, List.set_cons_zero, List.set_cons_succ, i64_w, i32_w]
          rfl
        refine pure_ (i := 7) (N := some 78) (v := undef) (a' := ?_) #[true, true, true, true, true, true, true, true, false, false, false, false, false, false] rfl rfl (by kernel_rfl) (fun _ _ _ h => h) (Or.inr ⟨by rfl, rfl⟩) ?_ ?_
        rotate_left
        · simp only [Act.put, List.setIfInBounds_toArray, List.set_cons_zero, List.set_cons_succ, i64_w, i32_w]
          rfl
        refine pure_ (i := 8) (N := some 79) (v := undef) (a' := ?_) #[true, true, true, true, true, true, true, true, true, false, false, false, false, false] rfl rfl (by kernel_rfl) (fun _ _ _ h => h) (Or.inr ⟨by rfl, rfl⟩) ?_ ?_
        rotate_left
        · simp only [Act.put, List.setIfInBounds_toArray, List.set_cons_zero, List.set_cons_succ, i64_w, i32_w]
          rfl
        refine pure_ (i := 9) (N := some 80) (v := undef) (a' := ?_) #[true, true, true, true, true, true, true, true, true, true, false, false, false, false] rfl rfl (by kernel_rfl) (fun _ _ _ h => h) (Or.inr ⟨by rfl, rfl⟩) ?_ ?_
        rotate_left
        · simp only [Act.put, List.setIfInBounds_toArray, List.set_cons_zero, List.set_cons_succ, i64_w, i32_w]
          rfl
        refine pure_ (i := 10) (N := some 81) (v := undef) (a' := ?_) #[true, true, true, true, true, true, true, true, true, true, true, false, false, false] rfl rfl (by kernel_rfl) (fun _ _ _ h => h) (Or.inr ⟨by rfl, rfl⟩) ?_ ?_
        rotate_left
        · simp only [Act.put, List.setIfInBounds_toArray, List.set_cons_zero, List.set_cons_succ, i64_w, i32_w]
          rfl
        refine pure_ (i := 11) (N := some 82) (v := ?_) (a' := ?_) #[true, true, true, true, true, true, true, true, true, true, true, true, false, false] rfl rfl (by kernel_rfl) (fun _ _ _ h => h) (Or.inl ⟨by rfl, ?_⟩) ?_ ?_
        rotate_left
        · intro w'
          go_simp
          with_reducible rfl
        rotate_left
        · simp only [Act.put, List.setIfInBounds_toArray, List.set_cons_zero, List.set_cons_succ, i64_w, i32_w]
          rfl
        refine pure_ (i := 12) (N := some 4) (v := ?_) (a' := ?_) #[true, true, true, true, true, true, true, true, true, true, true, true, true, false] rfl rfl (by kernel_rfl) (fun _ _ _ h => h) (Or.inl ⟨by rfl, ?_⟩) ?_ ?_
        rotate_left
        · intro w'
          go_simp
          with_reducible rfl
        rotate_left
        · simp only [Act.put, List.setIfInBounds_toArray, List.set_cons_zero, List.set_cons_succ, i64_w, i32_w]
          rfl
        refine pure_ (i := 13) (N := some 5) (v := ?_) (a' := ?_) #[true, true, true, true, true, true, true, true, true, true, true, true, true, true] rfl rfl (by kernel_rfl) (fun _ _ _ h => h) (Or.inl ⟨by rfl, ?_⟩) ?_ ?_
        rotate_left
        · intro w'
          go_simp
          with_reducible rfl
        rotate_left
        · simp only [Act.put, List.setIfInBounds_toArray, List.set_cons_zero, List.set_cons_succ, i64_w, i32_w]
          rfl
        refine done_ (by kernel_rfl) ?_
        clear hHeld
        go_wp2_with fail
        go_ret2
        exact BlkPost.none HX2.out (HBW.out.trans ((below_drew1 (Below.refl wr.heap.size wr)).mono HBW.out.size))
end Go.Proofs.Ytfemjlhfgmbcmaa

namespace Go.Proofs.Ytfemjlhfgmbcmaa
open Go.RowKit Go.Shelf Go.Proofs.YtfemjlhfgmbcmaaW.PrintWords Go.Proofs.YtfemjlhfgmbcmaaW.PrintLast Go.Proofs.YtfemjlhfgmbcmaaW.PrintMore
open Go.Proofs.Ytfemjlhfgmbcmaa.PRunBuilds
set_option linter.unusedVariables false
set_option linter.unusedSimpArgs false
attribute [local go_sem ↓] Go.wp_at_zero Go.wp_at_succ

/-- A run that was opened: its rows, how many blocks. -/
def RunIs (W : World) (g base : Nat) (rows : List RRow) (n : Nat) : Prop := ∃ A c bx, W.heap[g]? = some (.cells #[.slice A rows.length c, .int .i64 n, .func (.func 88) #[] #[.pointer (some ⟨bx, 0, none⟩)]] 121 (0, 0)) ∧ W.heap[bx]? = some (.cells #[.pointer (some ⟨g, 0, none⟩)] 36 (0, 0)) ∧ Kd.F kR W (fun k => base ≤ k ∧ k < W.heap.size) A rows.length rows ∧ base ≤ g ∧ base ≤ bx ∧ rows.length ≤ c
theorem RunIs.below {W W' : World} {g base : Nat} {rows : List RRow} {n : Nat} (h : RunIs W g base rows n) (hb : Below W.heap.size W W') : RunIs W' g base rows n := by
  obtain ⟨A, c, bx, h1, h2, h3, h4, h5, h6⟩ := h
  exact ⟨A, c, bx, blk_below h1 hb, blk_below h2 hb, Kd.F_mono (Kd.F_below h3 hb) (fun k hk => ⟨hk.1, by have := hb.size; omega⟩), h4, h5, h6⟩
def OpnPost (w : World) (r : Option (List RRow × Nat)) (e : Ending) (w' : World) : Prop := match r with
  | none => e = .returned (.tuple #[.pointer none, .int .i64 3]) ∧ Below w.heap.size w w'
  | some x => ∃ g, e = .returned (.tuple #[.pointer (some ⟨g, 0, none⟩), .int .i64 0]) ∧ Below w.heap.size w w' ∧ RunIs w' g w.heap.size x.1 x.2
theorem OpnPost_none {w w' : World} {r : Option (List RRow × Nat)} (h : r = none) (hb : Below w.heap.size w w') : OpnPost w r (.returned (.tuple #[.pointer none, .int .i64 3])) w' := by
  rw [h]; exact ⟨rfl, hb⟩
theorem OpnPost_some {w w' : World} {r : Option (List RRow × Nat)} {g : Nat} (x : List RRow × Nat) (h : r = some x) (hb : Below w.heap.size w w') (hr : RunIs w' g w.heap.size x.1 x.2) : OpnPost w r (.returned (.tuple #[.pointer (some ⟨g, 0, none⟩), .int .i64 0])) w' := by
  rw [h]; exact ⟨g, rfl, hb, hr⟩
theorem rowsG_len : ∀ (n : Nat) (s : ByteArray) (e : Int) (acc : List RRow) (r), rowsG n s e acc = some r → r.1.length ≤ acc.length + n := by
  intro n
  induction n with
  | zero =>
    intro s e acc r h
    unfold rowsG at h
    split at h
    · injection h with h; rw [← h]; exact Nat.le_refl _
    · cases h
  | succ n ih =>
    intro s e acc r h
    unfold rowsG at h
    split at h
    · injection h with h; rw [← h]; exact Nat.le_add_right _ _
    · split at h
      · cases h
      · have := ih _ _ _ _ h
        rw [List.length_append, List.length_singleton] at this
        omega
theorem blockF_len {b first : ByteArray} {l : List RRow} (h : blockF b first = some l) : l.length ≤ b.size := by
  unfold blockF at h
  split at h
  · cases h
  · cases hr : rowsG (takeF b).2.1.size (takeF b).2.1 0 [] with
    | none => rw [hr] at h; cases h
    | some r =>
      rw [hr] at h
      unfold blockE at h
      dsimp only at h
      split at h
      · injection h with h
        rw [← h]
        have h1 := rowsG_len _ _ _ _ _ hr
        have h2 := takeF_load b
        simp only [List.length_nil] at h1
        omega
      · cases h
theorem idxG_len : ∀ (n : Nat) (s : ByteArray) (e : Int) (a : List Int) (c : List ByteArray) (r), idxG n s e a c = some r → a.length = c.length → r.1.length = r.2.1.length ∧ r.1.length ≤ a.length + (if e = 0 then s.size + 1 else 0) := by
  intro n
  induction n with
  | zero => intro s e a c r h ha; simp only [idxG, Option.some.injEq] at h; rw [← h]; exact ⟨ha, Nat.le_add_right _ _⟩
  | succ n ih =>
    intro s e a c r h ha
    rw [idxG] at h
    by_cases he : e = 0
    · subst he
      rw [if_pos rfl] at h
      split at h
      · cases h
      · have h1 := ih _ _ _ _ _ h (by rw [List.length_append, List.length_append, ha]; rfl)
        have h2 := uintR_sz s
        have h3 := textR_sz2 (uintR s 0).2.1 (uintR s 0).2.2 64
        rw [List.length_append, List.length_singleton] at h1
        refine ⟨h1.1, ?_⟩
        rw [if_pos rfl]
        have h4 := h1.2
        split at h4
        · rename_i h5
          have h6 := h3.2 h5
          rcases h2 with ⟨_, h2⟩ | ⟨h2, _⟩
          · omega
          · exact absurd h6.1 h2
        · omega
    · rw [if_neg he] at h
      injection h with h
      rw [← h]; exact ⟨ha, Nat.le_add_right _ _⟩
theorem idxE_len {at_ n : Nat} {s : ByteArray} {e : Int} {x : Nat × List Int × List ByteArray} (h : idxE at_ (idxG n s e [] []) = some x) : x.2.1.length = x.2.2.length ∧ x.2.1.length ≤ s.size + 1 := by
  cases hg : idxG n s e [] [] with
  | none => rw [hg] at h; cases h
  | some r =>
    rw [hg] at h
    unfold idxE at h
    dsimp only at h
    have h1 := idxG_len n s e [] [] r hg (by rfl)
    by_cases he : endR r.2.2.1 r.2.2.2 = 0
    · rw [if_pos he] at h
      injection h with h
      rw [← h]
      refine ⟨h1.1, ?_⟩
      have h2 := h1.2
      simp only [List.length_nil, Nat.zero_add] at h2
      dsimp only
      split at h2 <;> omega
    · rw [if_neg he] at h; cases h
theorem indexF_len {b : ByteArray} {x : Nat × List Int × List ByteArray} (hs : b.size ≤ 1048576) (h : indexF b = some x) : x.2.1.length = x.2.2.length ∧ x.2.1.length ≤ 1048577 ∧ x.1 ≤ b.size := by
  have h0 := indexF_some h
  have h3 : (idxT b).size ≤ b.size := by unfold idxT; rw [extract_size_le _ _ _ (by omega)]; omega
  have h2 := takeF_load (idxT b)
  have h4 := uintR_size (takeF (idxT b)).2.1 0
  unfold indexF at h
  rw [if_neg (by omega), if_neg (by omega), if_neg (by rintro (h | h | h); exact h h0.2.1; exact h h0.2.2.1; exact h h0.2.2.2.1)] at h
  obtain ⟨h5, h6⟩ := idxE_len h
  exact ⟨h5, by omega, by omega⟩
theorem R_cap {α : Type} {d : Kd α} {e base : Nat} {w : World} {ok : Nat → Prop} {A : Option Addr} {n c : Nat} {xs : List α} (h : d.R e w base ok (.slice A n c) xs) : n ≤ c := by
  obtain ⟨inner, ho⟩ := Kd.R_own h
  rcases ho.2 with ⟨hv, _⟩ | ⟨g, cap, cur, hv, _, _, hc, _⟩
  · injection hv with _ h1 h2; omega
  · injection hv with _ h1 h2; omega
theorem run_store_func0 {P : Program} {w : World} {a : Addr} {m : Mode} (f : Fn) (x y : Array Value) : (store a (.func f x y) m).run P w = stored P w a (.func f x y) m := run_store P w a _ m rfl
attribute [local go_sem] run_store_func0
theorem drop_getD {α : Type} (l : List α) (j : Nat) (d : α) (h : j < l.length) : l.drop j = l.getD j d :: l.drop (j + 1) := by
  rw [List.drop_eq_getElem_cons h, List.getD_eq_getElem?_getD, List.getElem?_eq_getElem h]; rfl
theorem sortedB_not {l : List RRow} (i : Nat) (hi : i + 1 < l.length) (h : leB (l.getD (i + 1) rz).k (l.getD i rz).k = true) : sortedB l = false := by
  cases hs : sortedB l with
  | false => rfl
  | true => have := (sortedB_iff l).1 hs i hi; rw [h] at this; cases this

set_option maxRecDepth 100000 in
set_option maxHeartbeats 16000000 in
theorem Open_calls (b : ByteArray) (w : World) (hmax : b.size ≤ maxLen) :
    Calls Try.prog 42 #[.string b] w fun e w' => OpnPost w (openF b) e w' := by
  by_cases hbig : 1048576 < b.size
  · have hd : decide ((1048576 : Int) < (b.size : Int)) = true := by simp; omega
    have HXN := Lib.hid (show openF b = none by unfold openF; rw [if_pos hbig])
    clear hbig
    go_enter Try.func42, Try.ntmps42
    go_wp2_with fail
    go_ret2
    exact OpnPost_none HXN.out (Below.refl _ _)
  have hd : decide ((1048576 : Int) < (b.size : Int)) = false := by simp; omega
  have hs : b.size ≤ 1048576 := by omega
  have HO : Hid (openF b = openI b (indexF b)) := Lib.hid (by unfold openF; rw [if_neg hbig])
  have C86 := index_calls b w hs
  clear hbig hmax
  cases hI : indexF b with
  | none =>
    rw [hI] at HO C86
    have HXN := Lib.hid (show openF b = none from HO.out)
    have C := Lib.hid C86
    clear C86 HO hI
    go_enter Try.func42, Try.ntmps42
    go_wp2_with (go_at_call 86; refine C.out.mono ?_; rintro e w1 ⟨at1, v1, v2, ok, rfl, hb1, rfl⟩; have HB1 := Lib.hid hb1; clear hb1)
    go_ret2
    exact OpnPost_none HXN.out HB1.out
  | some x =>
    have hil := indexF_len hs hI
    have his := (indexF_some hI).2.2.2.2.2
    rw [hI] at HO C86
    obtain ⟨fin, szs, fs⟩ := x
    dsimp only at hil his
    have C := Lib.hid C86
    clear C86 hI
    obtain ⟨X, hX⟩ : ∃ X, openG b fin szs fs 0 [] = X := ⟨_, rfl⟩
    have HX := Lib.hid hX
    have HO2 := Lib.hid (show openF b = openE fin szs.length X by rw [← hX]; exact HO.out)
    have HIL := Lib.hid hil
    have HIS := Lib.hid his
    clear hX HO hil his
    go_enter Try.func42, Try.ntmps42
    go_wp2_with (go_at_call 86; refine C.out.mono ?_; rintro e w1 ⟨at1, v1, v2, ok, rfl, hb1, rfl, rfl, hr1, hr2⟩; obtain ⟨A1, c1, rfl⟩ := Kd.R_slice hr1; obtain ⟨A2, c2, rfl⟩ := Kd.R_slice hr2; have HB1 := Lib.hid hb1; have HR1 := Lib.hid hr1; have HR2 := Lib.hid hr2; clear hb1 hr1 hr2)
    obtain ⟨g, hg⟩ : ∃ g, g = w1.heap.size := ⟨_, rfl⟩
    obtain ⟨W0, hW0⟩ : ∃ W0, W0 = (w1.alloc (.cells #[.slice none 0 0, .int .i64 szs.length, .nilFunc] 121)).alloc (.cells #[.pointer (some ⟨w1.heap.size, 0, none⟩)] 36) := ⟨_, rfl⟩
    have hb0 : Below w1.heap.size w1 W0 := hW0 ▸ below_alloc (below_alloc (Below.refl _ _) _) _
    have hz0 : W0.heap[g]? = some (.cells #[.slice none 0 0, .int .i64 szs.length, .nilFunc] 121 (0, 0)) := by rw [hg, hW0]; exact blk_alloc (blk_new w1 _) _
    have hx0 : W0.heap[g + 1]? = some (.cells #[.pointer (some ⟨g, 0, none⟩)] 36 (0, 0)) := by rw [hg, hW0]; exact heap_alloc2_new w1 _ _
    rw [← hW0, ← hg]
    have HB0 := Lib.hid hb0
    have HZ0 := Lib.hid hz0
    have HX0 := Lib.hid hx0
    have HG := Lib.hid hg
    have HF1 := Lib.hid (Kd.F_bound (Kd.R_F HR1.out))
    have HF2 := Lib.hid (Kd.F_bound (Kd.R_F HR2.out))
    clear hg hb0 hz0 hx0 hW0
    go_loopw [9, 33] (fun av iv W => ∃ (j : Int) (at_ : Nat) (acc : List RRow) (rv : Value), iv = .int .i64 j ∧ av = .int .i64 at_ ∧ 0 ≤ j ∧ j ≤ szs.length ∧ at_ ≤ fin ∧ acc.length ≤ at_ ∧ Below w1.heap.size w1 W ∧ W.heap[g]? = some (.cells #[rv, .int .i64 szs.length, .nilFunc] 121 (0, 0)) ∧ W.heap[g + 1]? = some (.cells #[.pointer (some ⟨g, 0, none⟩)] 36 (0, 0)) ∧ Kd.R kR 123 W w1.heap.size (fun q => q ≠ g ∧ q ≠ g + 1) rv acc ∧ Hid (openG b fin (szs.drop j.toNat) (fs.drop j.toNat) at_ acc = X)) (fun _ iv _ => szs.length - (intOf iv).toNat)
    case atStart => exact ⟨0, 0, [], _, rfl, rfl, Int.le_refl _, by omega, Nat.zero_le _, Nat.le_refl _, HB0.out, HZ0.out, HX0.out, Kd.R_nil _ _ _ _ _, HX⟩
    case round =>
      obtain ⟨j, at_, acc, rv, rfl, rfl, hj0, hj, hat, hac, hbw, hzg, hzx, hrr, HN⟩ := hrel
      have HBW := Lib.hid hbw
      have HZG := Lib.hid hzg
      have HZX := Lib.hid hzx
      have HRR := Lib.hid hrr
      have HAC := Lib.hid hac
      clear hbw hzg hzx hrr hac HB0 HZ0 HX0 HX
      by_cases hlt : j < (szs.length : Int)
      · have hjl : j.toNat < szs.length := by omega
        obtain ⟨ad1, cv1, hA1, _, hK1, hc1, _⟩ := Kd.F_get (Kd.F_below HF1.out HBW.out) 0 j hj0 hlt
        obtain ⟨ad2, cv2, hA2, _, hK2, hc2, had2⟩ := Kd.F_get (Kd.F_below HF2.out HBW.out) ⟨#[]⟩ j hj0 (by have := HIL.out; omega)
        have hk1 := Kd.FK_now hK1
        have e1 : cv1 = [.int .i64 (szs.getD j.toNat 0)] := hk1
        obtain rfl := str_open (Kd.FK_now hK2)
        subst e1
        subst hA1
        subst hA2
        obtain ⟨n, hn⟩ : ∃ n, n = szs.getD j.toNat 0 := ⟨_, rfl⟩
        obtain ⟨f, hf⟩ : ∃ f, f = fs.getD j.toNat ⟨#[]⟩ := ⟨_, rfl⟩
        have hn0 : 0 ≤ n := by rw [hn, List.getD_eq_getElem?_getD, List.getElem?_eq_getElem hjl]; exact HIS.out _ (List.getElem_mem hjl)
        rw [← hn] at hc1
        rw [← hf] at hc2
        have i1 : wr.cell? (ad1.add j.toNat) = some (.int .i64 n) := by have := hc1 0 _ rfl; rwa [show j.toNat * (Kd.int .i64).sz + 0 = j.toNat by show j.toNat * 1 + 0 = _; omega] at this
        have i2 : wr.cell? (ad2.add j.toNat) = some (.string f) := by have := hc2 0 _ rfl; rwa [show j.toNat * Kd.string.sz + 0 = j.toNat by show j.toNat * 1 + 0 = _; omega] at this
        have hN : (if ((fin : Int) - at_) < n then none else match blockF (b.extract at_ (at_ + n.toNat)) f with
            | none => none
            | some rows => openG b fin (szs.drop (j.toNat + 1)) (fs.drop (j.toNat + 1)) (at_ + n.toNat) (acc ++ rows)) = X := by
          rw [← HN.out, drop_getD szs j.toNat 0 hjl, drop_getD fs j.toNat ⟨#[]⟩ (by have := HIL.out; omega), openG, ← hn, ← hf]
          rfl
        clear hk1 hK1 hK2 hc1 hc2 hn hf HN hjl had2
        obtain ⟨m, rfl⟩ := Int.eq_ofNat_of_zero_le hn0
        rw [Int.toNat_natCast] at hN
        have hjf : j < (fs.length : Int) := by have := HIL.out; omega
        have hjb : j ≤ 1048577 := by have := HIL.out; omega
        have hfb : fin ≤ 1048576 := by have := HIL.out; omega
        by_cases hgt : ((fin : Int) - at_) < (m : Int)
        · have hd1 : decide ((fin : Int) - at_ < (m : Int)) = true := by simp; omega
          have HX2 := Lib.hid (show openF b = none by rw [HO2.out, ← hN, if_pos hgt]; rfl)
          clear hN hgt hn0
          go_wp2_with fail
          go_ret2
          exact OpnPost_none HX2.out (HB1.out.trans (HBW.out.mono HB1.out.size))
        · have hd1 : decide ((fin : Int) - at_ < (m : Int)) = false := by simp; omega
          rw [if_neg hgt] at hN
          have hmf : at_ + m ≤ fin := by omega
          have hmb : at_ + m ≤ b.size := by have := HIL.out; omega
          obtain ⟨q, hq⟩ : ∃ q, q = at_ + m := ⟨_, rfl⟩
          have hq1 : at_ ≤ q := by omega
          have hq2 : q ≤ b.size := by omega
          have HW48 := Lib.hid (show wrap64 ((at_ : Int) + (m : Int)) = (q : Int) by rw [IntWalk.wrap64_in _ (by omega)]; omega)
          have HQ := Lib.hid hq
          have HQF := Lib.hid (show q ≤ fin by omega)
          rw [← hq] at hN
          clear hq hmf hmb
          have hxs : (b.extract at_ q).size = m := by rw [extract_size_le _ _ _ hq2]; have := HQ.out; omega
          have C87 := fun W => block_calls (b.extract at_ q) f W (by omega)
          have hbl := fun l (h : blockF (b.extract at_ q) f = some l) => blockF_len h
          rw [hxs] at hbl
          obtain ⟨xb, hxb⟩ : ∃ xb, xb = b.extract at_ q := ⟨_, rfl⟩
          rw [← hxb] at hN C87 hbl
          have HS13 := Lib.hid (show wr.drew.cell? (ad2.add j.toNat) = some (.string f) from i2)
          clear hgt hn0 hxs
          cases hbk : blockF xb f with
          | none =>
            rw [hbk] at hN C87
            have HX2 := Lib.hid (show openF b = none by rw [HO2.out, ← hN]; rfl)
            have C := Lib.hid C87
            clear hN C87 hbk hbl
            go_wp2_with fail
            refine start_ (n := 16) (S := fun w' => w'.cell? (ad2.add j.toNat) = some (.string f)) (ds := []) #[false, false, false, false, false, false, false, false, false, false, false, false, false, false, false, false] (by kernel_rfl) rfl rfl (HS13.out) (fun hHeld => ?_)
            refine pure_ (i := 0) (N := some 44) (v := ?_) (a' := ?_) #[true, false, false, false, false, false, false, false, false, false, false, false, false, false, false, false] rfl rfl (by kernel_rfl) (fun _ _ _ h => h) (Or.inl ⟨by rfl, ?_⟩) ?_ ?_
            rotate_left
            · intro w'
              go_simp
              with_reducible rfl
            rotate_left
            · simp only [Act.put, List.setIfInBounds_toArray, List.set_cons_zero, List.set_cons_succ, i64_w, i32_w]
              rfl
            refine pure_ (i := 1) (N := some 45) (v := ?_) (a' := ?_) #[true, true, false, false, false, false, false, false, false, false, false, false, false, false, false, false] rfl rfl (by kernel_rfl) (fun _ _ _ h => h) (Or.inl ⟨by rfl, ?_⟩) ?_ ?_
            rotate_left
            · intro w'
              go_simp
              with_reducible rfl
            rotate_left
            · simp only [Act.put, List.setIfInBounds_toArray, List.set_cons_zero, List.set_cons_succ, i64_w, i32_w]
              rfl
            refine pure_ (i := 2) (N := some 46) (v := ?_) (a' := ?_) #[true, true, true, false, false, false, false, false, false, false, false, false, false, false, false, false] rfl rfl (by kernel_rfl) (fun _ _ _ h => h) (Or.inl ⟨by rfl, ?_⟩) ?_ ?_
            rotate_left
            · intro w'
              go_simp
              with_reducible rfl
            rotate_left
            · simp only [Act.put, List.setIfInBounds_toArray, List.set_cons_zero, List.set_cons_succ, i64_w, i32_w]
              rfl
            refine pure_ (i := 3) (N := some 47) (v := ?_) (a' := ?_) #[true, true, true, true, false, false, false, false, false, false, false, false, false, false, false, false] rfl rfl (by kernel_rfl) (fun _ _ _ h => h) (Or.inl ⟨by rfl, ?_⟩) ?_ ?_
            rotate_left
            · intro w'
              go_simp
              with_reducible rfl
            rotate_left
            · simp only [Act.put, List.setIfInBounds_toArray, List.set_cons_zero, List.set_cons_succ, i64_w, i32_w]
              rfl
            refine pure_ (i := 4) (N := some 48) (v := .int .i64 (q : Int)) (a' := ?_) #[true, true, true, true, true, false, false, false, false, false, false, false, false, false, false, false] rfl rfl (by kernel_rfl) (fun _ _ _ h => h) (Or.inl ⟨by rfl, ?_⟩) ?_ ?_
            · intro w'
              go_simp
              exact (IntWalk.i64_left _).trans HW48.out
            rotate_left
            · simp only [Act.put, List.setIfInBounds_toArray, List.set_cons_zero, List.set_cons_succ, i64_w, i32_w]
              rfl
            refine pure_ (i := 5) (N := some 49) (v := ?_) (a' := ?_) #[true, true, true, true, true, true, false, false, false, false, false, false, false, false, false, false] rfl rfl (by kernel_rfl) (fun _ _ _ h => h) (Or.inl ⟨by rfl, ?_⟩) ?_ ?_
            rotate_left
            · intro w'
              go_simp
              with_reducible rfl
            rotate_left
            · simp only [Act.put, List.setIfInBounds_toArray, List.set_cons_zero, List.set_cons_succ, i64_w, i32_w]
              rfl
            refine pure_ (i := 6) (N := some 50) (v := ?_) (a' := ?_) #[true, true, true, true, true, true, true, false, false, false, false, false, false, false, false, false] rfl rfl (by kernel_rfl) (fun _ _ _ h => h) (Or.inl ⟨by rfl, ?_⟩) ?_ ?_
            rotate_left
            · intro w'
              go_simp
              with_reducible rfl
            rotate_left
            · simp only [Act.put, List.setIfInBounds_toArray, List.set_cons_zero, List.set_cons_succ, i64_w, i32_w]
              rfl
            refine pure_ (i := 7) (N := some 51) (v := ?_) (a' := ?_) #[true, true, true, true, true, true, true, true, false, false, false, false, false, false, false, false] rfl rfl (by kernel_rfl) (fun _ _ _ h => h) (Or.inl ⟨by rfl, ?_⟩) ?_ ?_
            rotate_left
            · intro w'
              go_simp
              with_reducible rfl
            rotate_left
            · simp only [Act.put, List.setIfInBounds_toArray, List.set_cons_zero, List.set_cons_succ, i64_w, i32_w]
              rfl
            refine pure_ (i := 8) (N := some 52) (v := ?_) (a' := ?_) #[true, true, true, true, true, true, true, true, true, false, false, false, false, false, false, false] rfl rfl (by kernel_rfl) (fun _ _ _ h => h) (Or.inl ⟨by rfl, ?_⟩) ?_ ?_
            rotate_left
            · intro w'
              go_simp
              with_reducible rfl
            rotate_left
            · simp only [Act.put, List.setIfInBounds_toArray, List.set_cons_zero, List.set_cons_succ, i64_w, i32_w]
              rfl
            refine take_ (i := 9) (N := some 53) (v := ?_) (a' := ?_) #[true, true, true, true, true, true, true, true, true, true, false, false, false, false, false, false] rfl rfl (by kernel_rfl) (fun _ _ _ h => h) (Or.inl ⟨by rfl, ?_⟩) hHeld ?_ ?_
            rotate_left
            · rintro w' s0
              go_simp
              with_reducible rfl
            rotate_left
            · simp only [Act.put, List.setIfInBounds_toArray, List.set_cons_zero, List.set_cons_succ, i64_w, i32_w]
              rfl
            refine one_ (i := 10) (N := some 54) #[true, true, true, true, true, true, true, true, true, true, true, false, false, false, false, false] rfl rfl (by kernel_rfl) (by decide) (fun K hK => ?_)
            refine goes_ Try.func87 (by kernel_rfl) rfl #[.string (b.extract at_ q), .string f] (by rfl) rfl rfl (by simp only [List.map_toArray, List.map_cons, List.map_nil]; rfl) ?_
            rw [← hxb]
            refine (C.out _).mono ?_
            rintro e w8 he
            obtain ⟨v8, ok8, rfl, hb8, rfl⟩ := he
            refine ⟨_, rfl, ?_⟩
            have HB8 := Lib.hid hb8
            clear hb8
            refine hK.out _ _ (pw_cell_below HB8.out hHeld) (fun hHeld => ?_)
            clear hK K
            refine norm_ (a' := ?_) ?_ ?_
            rotate_left
            · show Act.put _ (some 54) _ = _
              simp only [Act.put, List.setIfInBounds_toArray, List.set_cons_zero, List.set_cons_succ, i64_w, i32_w]
              rfl
            refine pure_ (i := 11) (N := some 43) (v := ?_) (a' := ?_) #[true, true, true, true, true, true, true, true, true, true, true, true, false, false, false, false] rfl rfl (by kernel_rfl) (fun _ _ _ h => h) (Or.inl ⟨by rfl, ?_⟩) ?_ ?_
            rotate_left
            · intro w'
              go_simp
              with_reducible rfl
            rotate_left
            · simp only [Act.put, List.setIfInBounds_toArray, List.set_cons_zero, List.set_cons_succ, i64_w, i32_w]
              rfl
            refine pure_ (i := 12) (N := some 55) (v := ?_) (a' := ?_) #[true, true, true, true, true, true, true, true, true, true, true, true, true, false, false, false] rfl rfl (by kernel_rfl) (fun _ _ _ h => h) (Or.inl ⟨by rfl, ?_⟩) ?_ ?_
            rotate_left
            · intro w'
              go_simp
              with_reducible rfl
            rotate_left
            · simp only [Act.put, List.setIfInBounds_toArray, List.set_cons_zero, List.set_cons_succ, i64_w, i32_w]
              rfl
            refine pure_ (i := 13) (N := some 56) (v := ?_) (a' := ?_) #[true, true, true, true, true, true, true, true, true, true, true, true, true, true, false, false] rfl rfl (by kernel_rfl) (fun _ _ _ h => h) (Or.inl ⟨by rfl, ?_⟩) ?_ ?_
            rotate_left
            · intro w'
              go_simp
              with_reducible rfl
            rotate_left
            · simp only [Act.put, List.setIfInBounds_toArray, List.set_cons_zero, List.set_cons_succ, i64_w, i32_w]
              rfl
            refine pure_ (i := 14) (N := some 12) (v := ?_) (a' := ?_) #[true, true, true, true, true, true, true, true, true, true, true, true, true, true, true, false] rfl rfl (by kernel_rfl) (fun _ _ _ h => h) (Or.inl ⟨by rfl, ?_⟩) ?_ ?_
            rotate_left
            · intro w'
              go_simp
              with_reducible rfl
            rotate_left
            · simp only [Act.put, List.setIfInBounds_toArray, List.set_cons_zero, List.set_cons_succ, i64_w, i32_w]
              rfl
            refine pure_ (i := 15) (N := some 13) (v := ?_) (a' := ?_) #[true, true, true, true, true, true, true, true, true, true, true, true, true, true, true, true] rfl rfl (by kernel_rfl) (fun _ _ _ h => h) (Or.inl ⟨by rfl, ?_⟩) ?_ ?_
            rotate_left
            · intro w'
              go_simp
              with_reducible rfl
            rotate_left
            · simp only [Act.put, List.setIfInBounds_toArray, List.set_cons_zero, List.set_cons_succ, i64_w, i32_w]
              rfl
            refine done_ (by kernel_rfl) ?_
            clear hHeld
            go_wp2_with fail
            go_ret2
            exact OpnPost_none HX2.out ((HB1.out.trans (HBW.out.mono HB1.out.size)).trans (((below_drew1 (Below.refl wr.heap.size wr)).trans HB8.out).mono (by have := HB1.out.size; have := HBW.out.size; omega)))
          | some rows =>
            rw [hbk] at hN C87
            dsimp only at hN
            have HN2 := Lib.hid hN
            have C := Lib.hid C87
            have HBL := Lib.hid (hbl rows hbk)
            clear hN C87 hbk hbl
            go_wp2_with fail
            refine start_ (n := 16) (S := fun w' => w'.cell? (ad2.add j.toNat) = some (.string f)) (ds := []) #[false, false, false, false, false, false, false, false, false, false, false, false, false, false, false, false] (by kernel_rfl) rfl rfl (HS13.out) (fun hHeld => ?_)
            refine pure_ (i := 0) (N := some 44) (v := ?_) (a' := ?_) #[true, false, false, false, false, false, false, false, false, false, false, false, false, false, false, false] rfl rfl (by kernel_rfl) (fun _ _ _ h => h) (Or.inl ⟨by rfl, ?_⟩) ?_ ?_
            rotate_left
            · intro w'
              go_simp
              with_reducible rfl
            rotate_left
            · simp only [Act.put, List.setIfInBounds_toArray, List.set_cons_zero, List.set_cons_succ, i64_w, i32_w]
              rfl
            refine pure_ (i := 1) (N := some 45) (v := ?_) (a' := ?_) #[true, true, false, false, false, false, false, false, false, false, false, false, false, false, false, false] rfl rfl (by kernel_rfl) (fun _ _ _ h => h) (Or.inl ⟨by rfl, ?_⟩) ?_ ?_
            rotate_left
            · intro w'
              go_simp
              with_reducible rfl
            rotate_left
            · simp only [Act.put, List.setIfInBounds_toArray, List.set_cons_zero, List.set_cons_succ, i64_w, i32_w]
              rfl
            refine pure_ (i := 2) (N := some 46) (v := ?_) (a' := ?_) #[true, true, true, false, false, false, false, false, false, false, false, false, false, false, false, false] rfl rfl (by kernel_rfl) (fun _ _ _ h => h) (Or.inl ⟨by rfl, ?_⟩) ?_ ?_
            rotate_left
            · intro w'
              go_simp
              with_reducible rfl
            rotate_left
            · simp only [Act.put, List.setIfInBounds_toArray, List.set_cons_zero, List.set_cons_succ, i64_w, i32_w]
              rfl
            refine pure_ (i := 3) (N := some 47) (v := ?_) (a' := ?_) #[true, true, true, true, false, false, false, false, false, false, false, false, false, false, false, false] rfl rfl (by kernel_rfl) (fun _ _ _ h => h) (Or.inl ⟨by rfl, ?_⟩) ?_ ?_
            rotate_left
            · intro w'
              go_simp
              with_reducible rfl
            rotate_left
            · simp only [Act.put, List.setIfInBounds_toArray, List.set_cons_zero, List.set_cons_succ, i64_w, i32_w]
              rfl
            refine pure_ (i := 4) (N := some 48) (v := .int .i64 (q : Int)) (a' := ?_) #[true, true, true, true, true, false, false, false, false, false, false, false, false, false, false, false] rfl rfl (by kernel_rfl) (fun _ _ _ h => h) (Or.inl ⟨by rfl, ?_⟩) ?_ ?_
            · intro w'
              go_simp
              exact (IntWalk.i64_left _).trans HW48.out
            rotate_left
            · simp only [Act.put, List.setIfInBounds_toArray, List.set_cons_zero, List.set_cons_succ, i64_w, i32_w]
              rfl
            refine pure_ (i := 5) (N := some 49) (v := ?_) (a' := ?_) #[true, true, true, true, true, true, false, false, false, false, false, false, false, false, false, false] rfl rfl (by kernel_rfl) (fun _ _ _ h => h) (Or.inl ⟨by rfl, ?_⟩) ?_ ?_
            rotate_left
            · intro w'
              go_simp
              with_reducible rfl
            rotate_left
            · simp only [Act.put, List.setIfInBounds_toArray, List.set_cons_zero, List.set_cons_succ, i64_w, i32_w]
              rfl
            refine pure_ (i := 6) (N := some 50) (v := ?_) (a' := ?_) #[true, true, true, true, true, true, true, false, false, false, false, false, false, false, false, false] rfl rfl (by kernel_rfl) (fun _ _ _ h => h) (Or.inl ⟨by rfl, ?_⟩) ?_ ?_
            rotate_left
            · intro w'
              go_simp
              with_reducible rfl
            rotate_left
            · simp only [Act.put, List.setIfInBounds_toArray, List.set_cons_zero, List.set_cons_succ, i64_w, i32_w]
              rfl
            refine pure_ (i := 7) (N := some 51) (v := ?_) (a' := ?_) #[true, true, true, true, true, true, true, true, false, false, false, false, false, false, false, false] rfl rfl (by kernel_rfl) (fun _ _ _ h => h) (Or.inl ⟨by rfl, ?_⟩) ?_ ?_
            rotate_left
            · intro w'
              go_simp
              with_reducible rfl
            rotate_left
            · simp only [Act.put, List.setIfInBounds_toArray, List.set_cons_zero, List.set_cons_succ, i64_w, i32_w]
              rfl
            refine pure_ (i := 8) (N := some 52) (v := ?_) (a' := ?_) #[true, true, true, true, true, true, true, true, true, false, false, false, false, false, false, false] rfl rfl (by kernel_rfl) (fun _ _ _ h => h) (Or.inl ⟨by rfl, ?_⟩) ?_ ?_
            rotate_left
            · intro w'
              go_simp
              with_reducible rfl
            rotate_left
            · simp only [Act.put, List.setIfInBounds_toArray, List.set_cons_zero, List.set_cons_succ, i64_w, i32_w]
              rfl
            refine take_ (i := 9) (N := some 53) (v := ?_) (a' := ?_) #[true, true, true, true, true, true, true, true, true, true, false, false, false, false, false, false] rfl rfl (by kernel_rfl) (fun _ _ _ h => h) (Or.inl ⟨by rfl, ?_⟩) hHeld ?_ ?_
            rotate_left
            · rintro w' s0
              go_simp
              with_reducible rfl
            rotate_left
            · simp only [Act.put, List.setIfInBounds_toArray, List.set_cons_zero, List.set_cons_succ, i64_w, i32_w]
              rfl
            refine one_ (i := 10) (N := some 54) #[true, true, true, true, true, true, true, true, true, true, true, false, false, false, false, false] rfl rfl (by kernel_rfl) (by decide) (fun K hK => ?_)
            refine goes_ Try.func87 (by kernel_rfl) rfl #[.string (b.extract at_ q), .string f] (by rfl) rfl rfl (by simp only [List.map_toArray, List.map_cons, List.map_nil]; rfl) ?_
            rw [← hxb]
            refine (C.out _).mono ?_
            rintro e w8 he
            obtain ⟨v8, ok8, rfl, hb8, rfl, hr8⟩ := he
            refine ⟨_, rfl, ?_⟩
            have HB8 := Lib.hid hb8
            have HR8 := Lib.hid hr8
            clear hr8
            clear hb8
            refine hK.out _ _ (pw_cell_below HB8.out hHeld) (fun hHeld => ?_)
            clear hK K
            refine norm_ (a' := ?_) ?_ ?_
            rotate_left
            · show Act.put _ (some 54) _ = _
              simp only [Act.put, List.setIfInBounds_toArray, List.set_cons_zero, List.set_cons_succ, i64_w, i32_w]
              rfl
            refine pure_ (i := 11) (N := some 43) (v := ?_) (a' := ?_) #[true, true, true, true, true, true, true, true, true, true, true, true, false, false, false, false] rfl rfl (by kernel_rfl) (fun _ _ _ h => h) (Or.inl ⟨by rfl, ?_⟩) ?_ ?_
            rotate_left
            · intro w'
              go_simp
              with_reducible rfl
            rotate_left
            · simp only [Act.put, List.setIfInBounds_toArray, List.set_cons_zero, List.set_cons_succ, i64_w, i32_w]
              rfl
            refine pure_ (i := 12) (N := some 55) (v := ?_) (a' := ?_) #[true, true, true, true, true, true, true, true, true, true, true, true, true, false, false, false] rfl rfl (by kernel_rfl) (fun _ _ _ h => h) (Or.inl ⟨by rfl, ?_⟩) ?_ ?_
            rotate_left
            · intro w'
              go_simp
              with_reducible rfl
            rotate_left
            · simp only [Act.put, List.setIfInBounds_toArray, List.set_cons_zero, List.set_cons_succ, i64_w, i32_w]
              rfl
            refine pure_ (i := 13) (N := some 56) (v := ?_) (a' := ?_) #[true, true, true, true, true, true, true, true, true, true, true, true, true, true, false, false] rfl rfl (by kernel_rfl) (fun _ _ _ h => h) (Or.inl ⟨by rfl, ?_⟩) ?_ ?_
            rotate_left
            · intro w'
              go_simp
              with_reducible rfl
            rotate_left
            · simp only [Act.put, List.setIfInBounds_toArray, List.set_cons_zero, List.set_cons_succ, i64_w, i32_w]
              rfl
            refine pure_ (i := 14) (N := some 12) (v := ?_) (a' := ?_) #[true, true, true, true, true, true, true, true, true, true, true, true, true, true, true, false] rfl rfl (by kernel_rfl) (fun _ _ _ h => h) (Or.inl ⟨by rfl, ?_⟩) ?_ ?_
            rotate_left
            · intro w'
              go_simp
              with_reducible rfl
            rotate_left
            · simp only [Act.put, List.setIfInBounds_toArray, List.set_cons_zero, List.set_cons_succ, i64_w, i32_w]
              rfl
            refine pure_ (i := 15) (N := some 13) (v := ?_) (a' := ?_) #[true, true, true, true, true, true, true, true, true, true, true, true, true, true, true, true] rfl rfl (by kernel_rfl) (fun _ _ _ h => h) (Or.inl ⟨by rfl, ?_⟩) ?_ ?_
            rotate_left
            · intro w'
              go_simp
              with_reducible rfl
            rotate_left
            · simp only [Act.put, List.setIfInBounds_toArray, List.set_cons_zero, List.set_cons_succ, i64_w, i32_w]
              rfl
            refine done_ (by kernel_rfl) ?_
            clear hHeld
            go_wp2_with fail
            obtain ⟨A8, c8, rfl⟩ := Kd.R_slice HR8.out
            have hs8 : wr.heap.size ≤ w8.heap.size := HB8.out.size
            have hw8 : Below wr.heap.size wr w8 := (below_drew1 (Below.refl _ _)).trans HB8.out
            have hd8 : Below w8.heap.size w8 w8.drew := below_drew1 (Below.refl _ _)
            have HZ8 := Lib.hid (show w8.drew.heap[g]? = some (.cells #[rv, .int .i64 szs.length, .nilFunc] 121 (0, 0)) from blk_below HZG.out (hw8.trans (hd8.mono hs8)))
            have HX8 := Lib.hid (show w8.drew.heap[g + 1]? = some (.cells #[.pointer (some ⟨g, 0, none⟩)] 36 (0, 0)) from blk_below HZX.out (hw8.trans (hd8.mono hs8)))
            have HRR8 := Lib.hid (Kd.R_below (Kd.R_below HRR.out hw8) hd8)
            have HC8 := Lib.hid (Kd.F_now (Kd.F_below (Kd.R_F HR8.out) hd8))
            have HBW8 := Lib.hid (HBW.out.trans ((hw8.trans (hd8.mono hs8)).mono HBW.out.size))
            have hS16 : w8.drew.cell? ⟨g + 1, 0, none⟩ = some (.pointer (some ⟨g, 0, none⟩)) ∧ w8.drew.cell? ⟨g, 0, none⟩ = some rv := ⟨(blk_cell HX8.out 0).trans rfl, (blk_cell HZ8.out 0).trans rfl⟩
            have HGL := Lib.hid (show g + 1 < w8.drew.heap.size from blk_lt HX8.out)
            clear hs8 hw8 hd8
            refine start_ (n := 10) (S := fun w' => w'.cell? ⟨g + 1, 0, none⟩ = some (.pointer (some ⟨g, 0, none⟩)) ∧ w'.cell? ⟨g, 0, none⟩ = some rv) (ds := [9]) #[false, false, false, false, false, false, false, false, false, false] (by kernel_rfl) rfl rfl (hS16) (fun hHeld => ?_)
            refine take_ (i := 0) (N := some 59) (v := ?_) (a' := ?_) #[true, false, false, false, false, false, false, false, false, false] rfl rfl (by kernel_rfl) (fun _ _ _ h => h) (Or.inl ⟨by rfl, ?_⟩) hHeld ?_ ?_
            rotate_left
            · rintro w' ⟨s0, s1⟩
              go_simp
              with_reducible rfl
            rotate_left
            · simp only [Act.put, List.setIfInBounds_toArray, List.set_cons_zero, List.set_cons_succ, i64_w, i32_w]
              rfl
            refine take_ (i := 1) (N := some 60) (v := ?_) (a' := ?_) #[true, true, false, false, false, false, false, false, false, false] rfl rfl (by kernel_rfl) (fun _ _ _ h => h) (Or.inl ⟨by rfl, ?_⟩) hHeld ?_ ?_
            rotate_left
            · rintro w' ⟨s0, s1⟩
              go_simp
              with_reducible rfl
            rotate_left
            · simp only [Act.put, List.setIfInBounds_toArray, List.set_cons_zero, List.set_cons_succ, i64_w, i32_w]
              rfl
            refine pure_ (i := 2) (N := some 61) (v := ?_) (a' := ?_) #[true, true, true, false, false, false, false, false, false, false] rfl rfl (by kernel_rfl) (fun _ _ _ h => h) (Or.inl ⟨by rfl, ?_⟩) ?_ ?_
            rotate_left
            · intro w'
              go_simp
              with_reducible rfl
            rotate_left
            · simp only [Act.put, List.setIfInBounds_toArray, List.set_cons_zero, List.set_cons_succ, i64_w, i32_w]
              rfl
            refine pure_ (i := 3) (N := some 62) (v := ?_) (a' := ?_) #[true, true, true, true, false, false, false, false, false, false] rfl rfl (by kernel_rfl) (fun _ _ _ h => h) (Or.inl ⟨by rfl, ?_⟩) ?_ ?_
            rotate_left
            · intro w'
              go_simp
              with_reducible rfl
            rotate_left
            · simp only [Act.put, List.setIfInBounds_toArray, List.set_cons_zero, List.set_cons_succ, i64_w, i32_w]
              rfl
            refine take_ (i := 4) (N := some 63) (v := ?_) (a' := ?_) #[true, true, true, true, true, false, false, false, false, false] rfl rfl (by kernel_rfl) (fun _ _ _ h => h) (Or.inl ⟨by rfl, ?_⟩) hHeld ?_ ?_
            rotate_left
            · rintro w' ⟨s0, s1⟩
              go_simp
              with_reducible rfl
            rotate_left
            · simp only [Act.put, List.setIfInBounds_toArray, List.set_cons_zero, List.set_cons_succ, i64_w, i32_w]
              rfl
            refine pure_ (i := 5) (N := some 64) (v := ?_) (a' := ?_) #[true, true, true, true, true, true, false, false, false, false] rfl rfl (by kernel_rfl) (fun _ _ _ h => h) (Or.inl ⟨by rfl, ?_⟩) ?_ ?_
            rotate_left
            · intro w'
              go_simp
              with_reducible rfl
            rotate_left
            · simp only [Act.put, List.setIfInBounds_toArray, List.set_cons_zero, List.set_cons_succ, i64_w, i32_w]
              rfl
            refine one_ (i := 6) (N := some 65) #[true, true, true, true, true, true, true, false, false, false] rfl rfl (by kernel_rfl) (by decide) (fun K hK => ?_)
            refine Kd.R_append_rows_step kR (w0 := w8.drew) w1.heap.size (by rfl) (.tmp 63) (.tmp 64) 119 123 zRow 40 rfl Try.underlying119 info123 rfl (by decide) (by decide) rv acc rows A8 rows.length c8 (fun q => q ≠ g ∧ q ≠ g + 1) (fun _ => False) rfl rfl HRR8.out HC8.out (fun x cs hk => by obtain rfl := kR_open hk; exact kR_mkM _ _ _ x) (fun _ hk => hk.elim) (fun k hk => by have := HGL.out; omega) (Below.refl _ _) (by have := HBW8.out.size; exact this) (by have h1 := HAC.out; have h2 := HBL.out; have h3 := HQ.out; have h4 := HQF.out; omega) ?_
            intro v9 w9 hR hb hg9 hat9
            obtain ⟨A9, c9, rfl⟩ := Kd.R_slice hR
            have HR9 := Lib.hid hR
            have HG9 := Lib.hid hg9
            clear hR hb hg9 hat9
            have hz9 := (HG9.out.block g (by have := HGL.out; omega) (fun e => (HRR8.out.1 g e.symm).1 rfl)).trans HZ8.out
            have hx9 := (HG9.out.block (g + 1) HGL.out (fun e => (HRR8.out.1 (g + 1) e.symm).2 rfl)).trans HX8.out
            have HZ9 := Lib.hid hz9
            have HX9 := Lib.hid hx9
            clear hz9 hx9
            refine hK.out _ _ (⟨(blk_cell HX9.out 0).trans rfl, (blk_cell HZ9.out 0).trans rfl⟩) (fun hHeld => ?_)
            clear hK K
            refine norm_ (a' := ?_) ?_ ?_
            rotate_left
            · show Act.put _ (some 65) _ = _
              simp only [Act.put, List.setIfInBounds_toArray, List.set_cons_zero, List.set_cons_succ, i64_w, i32_w]
              rfl
            refine pure_ (i := 7) (N := some 66) (v := ?_) (a' := ?_) #[true, true, true, true, true, true, true, true, false, false] rfl rfl (by kernel_rfl) (fun _ _ _ h => h) (Or.inl ⟨by rfl, ?_⟩) ?_ ?_
            rotate_left
            · intro w'
              go_simp
              with_reducible rfl
            rotate_left
            · simp only [Act.put, List.setIfInBounds_toArray, List.set_cons_zero, List.set_cons_succ, i64_w, i32_w]
              rfl
            refine pure_ (i := 8) (N := some 67) (v := ?_) (a' := ?_) #[true, true, true, true, true, true, true, true, true, false] rfl rfl (by kernel_rfl) (fun _ _ _ h => h) (Or.inl ⟨by rfl, ?_⟩) ?_ ?_
            rotate_left
            · intro w'
              go_simp
              with_reducible rfl
            rotate_left
            · simp only [Act.put, List.setIfInBounds_toArray, List.set_cons_zero, List.set_cons_succ, i64_w, i32_w]
              rfl
            refine last_ (i := 9) (N := none) #[true, true, true, true, true, true, true, true, true, true] rfl rfl (by kernel_rfl) (by decide) (fun K hK => ?_)
            have c09 := (blk_cell HZ9.out 0).trans rfl
            have f9 := blk_frozen HZ9.out 0
            refine skip_ (w1 := w9.setCell ⟨g, 0, none⟩ (.slice A9 (acc ++ rows).length c9)) (by rfl) rfl (by go_simp) ?_
            clear c09 f9
            refine hK.out _ _ ?_
            clear hK K
            refine done_ (by kernel_rfl) ?_
            clear hHeld hS16
            have hqq : wrap64 ((at_ : Int) + (m : Int)) = (q : Int) := HW48.out
            go_wp2_with fail
            go_roundw
            case rel =>
              refine ⟨j + 1, q, acc ++ rows, _, rfl, (by have h := HQ.out; first | rfl | (congr 1)), by omega, by omega, HQF.out, ?_, ?_, blk_set HZ9.out 0 _, blk_far HX9.out (p := ⟨g, 0, none⟩) (by show g + 1 ≠ g; omega) _, (by have h := HR9.out; rw [List.length_append] at h; exact Kd.R_step h (fun k hk _ => Below.heap_setCell _ _ _ k hk.1)), ?_⟩
              · rw [List.length_append, HQ.out]; exact Nat.add_le_add HAC.out HBL.out
              · exact (Below.grown HBW8.out HG9.out (by have := HBW8.out.size; exact this) (fun k e => ((Kd.R_bound HRR8.out).1 k e).2.1)).setCell (p := ⟨g, 0, none⟩) (by show w1.heap.size ≤ g; rw [HG.out]; exact Nat.le_refl _) _
              · exact Lib.hid (by rw [show (j + 1).toNat = j.toNat + 1 by omega]; exact HN2.out)
            case measure => simp [intOf]; omega
      · obtain rfl : j = szs.length := by omega
        have HX3 := Lib.hid (show X = some (at_, acc) by rw [← HN.out, Int.toNat_natCast, List.drop_length]; cases List.drop szs.length fs <;> rfl)
        obtain ⟨Aa, ca, rfl⟩ := Kd.R_slice HRR.out
        have HAT := Lib.hid hat
        have c0 := (blk_cell HZX.out 0).trans rfl
        have c1 := (blk_cell HZG.out 0).trans rfl
        have hacb : acc.length ≤ 1048576 := by have := HAC.out; have := HIL.out; omega
        have hfb : fin ≤ 1048576 := by have := HIL.out; omega
        clear HN hj hat hlt hj0
        go_wp2_with fail
        clear c0 c1
        go_loopw [77] (fun iv W => ∃ j : Int, iv = .int .i64 j ∧ 0 ≤ j ∧ j ≤ acc.length ∧ Below w1.heap.size w1 W ∧ W.heap[g]? = some (.cells #[.slice Aa acc.length ca, .int .i64 szs.length, .nilFunc] 121 (0, 0)) ∧ W.heap[g + 1]? = some (.cells #[.pointer (some ⟨g, 0, none⟩)] 36 (0, 0)) ∧ Kd.R kR 123 W w1.heap.size (fun q => q ≠ g ∧ q ≠ g + 1) (.slice Aa acc.length ca) acc ∧ Hid (∀ i : Nat, (i : Int) + 1 < j → leB (acc.getD (i + 1) rz).k (acc.getD i rz).k = false)) (fun iv _ => acc.length - (intOf iv).toNat)
        case atStart => exact ⟨0, rfl, Int.le_refl _, by omega, HBW.out, HZG.out, HZX.out, HRR.out, Lib.hid (fun i hi => by omega)⟩
        case round =>
          obtain ⟨j, rfl, hj0, hj, hbw, hzg, hzx, hrr, HOD⟩ := hrel
          clear HBW HZG HZX HRR
          have HBW := Lib.hid hbw
          have HZG := Lib.hid hzg
          have HZX := Lib.hid hzx
          have HRR := Lib.hid hrr
          have hdr := fun (W : World) => below_drew1 (Below.refl W.heap.size W)
          clear hbw hzg hzx hrr
          by_cases hlt : j < (acc.length : Int)
          · obtain ⟨ad, cv, hA, _, hK, hc, _⟩ := Kd.F_get (Kd.R_F HRR.out) rz j hj0 hlt
            obtain rfl := kR_open (Kd.FK_now hK)
            subst hA
            have k1 : wr.drew.cell? (ad.add (j.toNat * 3)) = some (.string (acc.getD j.toNat rz).k) := hc 0 _ rfl
            have hjb : j ≤ 1048576 := by omega
            have c00 : wr.drew.cell? ⟨g + 1, 0, none⟩ = some (.pointer (some ⟨g, 0, none⟩)) := (blk_cell HZX.out 0).trans rfl
            have c01 : wr.drew.cell? ⟨g, 0, none⟩ = some (.slice (some ad) acc.length ca) := (blk_cell HZG.out 0).trans rfl
            clear hK hc
            by_cases hz : 0 < j
            · have hd0 : decide ((0 : Int) < j) = true := by simp; omega
              obtain ⟨p, hp⟩ : ∃ p, p = j - 1 := ⟨_, rfl⟩
              obtain ⟨ad', cv', hA', _, hK', hc', _⟩ := Kd.F_get (Kd.R_F HRR.out) rz p (by omega) (by omega)
              obtain rfl := kR_open (Kd.FK_now hK')
              injection hA' with hA'
              subst hA'
              have k0 : wr.drew.cell? (ad.add (p.toNat * 3)) = some (.string (acc.getD p.toNat rz).k) := hc' 0 _ rfl
              obtain ⟨x1, hx1⟩ : ∃ x, x = (acc.getD j.toNat rz).k := ⟨_, rfl⟩
              obtain ⟨x0, hx0⟩ : ∃ x, x = (acc.getD p.toNat rz).k := ⟨_, rfl⟩
              rw [← hx1] at k1
              rw [← hx0] at k0
              have HX1 := Lib.hid hx1
              have HX0 := Lib.hid hx0
              have hS22 : wr.drew.cell? ⟨g + 1, 0, none⟩ = some (.pointer (some ⟨g, 0, none⟩)) ∧ wr.drew.cell? ⟨g, 0, none⟩ = some (.slice (some ad) acc.length ca) ∧ wr.drew.cell? (ad.add (j.toNat * 3)) = some (.string x1) ∧ wr.drew.cell? (ad.add (p.toNat * 3)) = some (.string x0) := ⟨c00, c01, k1, k0⟩
              clear hK' hc' k1 k0 hx1 hx0
              have hj1 : 0 ≤ p := by omega
              have hj2 : p < (acc.length : Int) := by omega
              have HPJ := Lib.hid hp
              have HW96 := Lib.hid (show IntKind.i64.wrap (j - 1) = p by rw [IntWalk.i64_left, IntWalk.wrap64_in _ (by omega)]; exact hp.symm)
              clear hp
              by_cases hle : leB x1 x0 = true
              · have hlq : ∀ W, Sem.run Try.prog (binOp BinOp.leq 9 (.string x1) (.string x0)) W = .ok (.bool true) W := fun W => by rw [run_leq, hle]
                have HXN := Lib.hid (show openF b = none by
                  rw [HO2.out, HX3.out]
                  have hs := sortedB_not (l := acc) p.toNat (by have := HPJ.out; omega) (by rw [show p.toNat + 1 = j.toNat by have := HPJ.out; omega, ← HX1.out, ← HX0.out]; exact hle)
                  unfold openE
                  dsimp only
                  rw [hs, if_neg (fun h => by cases h.1)])
                clear hle HOD
                go_wp2_with fail
                refine start_ (n := 22) (S := fun w' => w'.cell? ⟨g + 1, 0, none⟩ = some (.pointer (some ⟨g, 0, none⟩)) ∧ w'.cell? ⟨g, 0, none⟩ = some (.slice (some ad) acc.length ca) ∧ w'.cell? (ad.add (j.toNat * 3)) = some (.string x1) ∧ w'.cell? (ad.add (p.toNat * 3)) = some (.string x0)) (ds := []) #[false, false, false, false, false, false, false, false, false, false, false, false, false, false, false, false, false, false, false, false, false, false] (by kernel_rfl) rfl rfl (hS22) (fun hHeld => ?_)
                refine pure_ (i := 0) (N := some 80) (v := ?_) (a' := ?_) #[true, false, false, false, false, false, false, false, false, false, false, false, false, false, false, false, false, false, false, false, false, false] rfl rfl (by kernel_rfl) (fun _ _ _ h => h) (Or.inl ⟨by rfl, ?_⟩) ?_ ?_
                rotate_left
                · intro w'
                  go_simp
                  with_reducible rfl
                rotate_left
                · simp only [Act.put, List.setIfInBounds_toArray, List.set_cons_zero, List.set_cons_succ, i64_w, i32_w]
                  rfl
                refine pure_ (i := 1) (N := some 81) (v := ?_) (a' := ?_) #[true, true, false, false, false, false, false, false, false, false, false, false, false, false, false, false, false, false, false, false, false, false] rfl rfl (by kernel_rfl) (fun _ _ _ h => h) (Or.inl ⟨by rfl, ?_⟩) ?_ ?_
                rotate_left
                · intro w'
                  go_simp
                  with_reducible rfl
                rotate_left
                · simp only [Act.put, List.setIfInBounds_toArray, List.set_cons_zero, List.set_cons_succ, i64_w, i32_w]
                  rfl
                refine pure_ (i := 2) (N := some 82) (v := ?_) (a' := ?_) #[true, true, true, false, false, false, false, false, false, false, false, false, false, false, false, false, false, false, false, false, false, false] rfl rfl (by kernel_rfl) (fun _ _ _ h => h) (Or.inl ⟨by rfl, ?_⟩) ?_ ?_
                rotate_left
                · intro w'
                  go_simp
                  with_reducible rfl
                rotate_left
                · simp only [Act.put, List.setIfInBounds_toArray, List.set_cons_zero, List.set_cons_succ, i64_w, i32_w]
                  rfl
                refine take_ (i := 3) (N := some 83) (v := ?_) (a' := ?_) #[true, true, true, true, false, false, false, false, false, false, false, false, false, false, false, false, false, false, false, false, false, false] rfl rfl (by kernel_rfl) (fun _ _ _ h => h) (Or.inl ⟨by rfl, ?_⟩) hHeld ?_ ?_
                rotate_left
                · rintro w' ⟨s0, s1, s2, s3⟩
                  go_simp
                  with_reducible rfl
                rotate_left
                · simp only [Act.put, List.setIfInBounds_toArray, List.set_cons_zero, List.set_cons_succ, i64_w, i32_w]
                  rfl
                refine pure_ (i := 4) (N := some 84) (v := ?_) (a' := ?_) #[true, true, true, true, true, false, false, false, false, false, false, false, false, false, false, false, false, false, false, false, false, false] rfl rfl (by kernel_rfl) (fun _ _ _ h => h) (Or.inl ⟨by rfl, ?_⟩) ?_ ?_
                rotate_left
                · intro w'
                  go_simp
                  with_reducible rfl
                rotate_left
                · simp only [Act.put, List.setIfInBounds_toArray, List.set_cons_zero, List.set_cons_succ, i64_w, i32_w]
                  rfl
                refine pure_ (i := 5) (N := some 85) (v := ?_) (a' := ?_) #[true, true, true, true, true, true, false, false, false, false, false, false, false, false, false, false, false, false, false, false, false, false] rfl rfl (by kernel_rfl) (fun _ _ _ h => h) (Or.inl ⟨by rfl, ?_⟩) ?_ ?_
                rotate_left
                · intro w'
                  go_simp
                  with_reducible rfl
                rotate_left
                · simp only [Act.put, List.setIfInBounds_toArray, List.set_cons_zero, List.set_cons_succ, i64_w, i32_w]
                  rfl
                refine take_ (i := 6) (N := some 86) (v := ?_) (a' := ?_) #[true, true, true, true, true, true, true, false, false, false, false, false, false, false, false, false, false, false, false, false, false, false] rfl rfl (by kernel_rfl) (fun _ _ _ h => h) (Or.inl ⟨by rfl, ?_⟩) hHeld ?_ ?_
                rotate_left
                · rintro w' ⟨s0, s1, s2, s3⟩
                  go_simp
                  with_reducible rfl
                rotate_left
                · simp only [Act.put, List.setIfInBounds_toArray, List.set_cons_zero, List.set_cons_succ, i64_w, i32_w]
                  rfl
                refine pure_ (i := 7) (N := some 87) (v := ?_) (a' := ?_) #[true, true, true, true, true, true, true, true, false, false, false, false, false, false, false, false, false, false, false, false, false, false] rfl rfl (by kernel_rfl) (fun _ _ _ h => h) (Or.inl ⟨by rfl, ?_⟩) ?_ ?_
                rotate_left
                · intro w'
                  go_simp
                  with_reducible rfl
                rotate_left
                · simp only [Act.put, List.setIfInBounds_toArray, List.set_cons_zero, List.set_cons_succ, i64_w, i32_w]
                  rfl
                refine pure_ (i := 8) (N := some 88) (v := ?_) (a' := ?_) #[true, true, true, true, true, true, true, true, true, false, false, false, false, false, false, false, false, false, false, false, false, false] rfl rfl (by kernel_rfl) (fun _ _ _ h => h) (Or.inl ⟨by rfl, ?_⟩) ?_ ?_
                rotate_left
                · intro w'
                  go_simp
                  with_reducible rfl
                rotate_left
                · simp only [Act.put, List.setIfInBounds_toArray, List.set_cons_zero, List.set_cons_succ, i64_w, i32_w]
                  rfl
                refine pure_ (i := 9) (N := some 89) (v := ?_) (a' := ?_) #[true, true, true, true, true, true, true, true, true, true, false, false, false, false, false, false, false, false, false, false, false, false] rfl rfl (by kernel_rfl) (fun _ _ _ h => h) (Or.inl ⟨by rfl, ?_⟩) ?_ ?_
                rotate_left
                · intro w'
                  go_simp
                  with_reducible rfl
                rotate_left
                · simp only [Act.put, List.setIfInBounds_toArray, List.set_cons_zero, List.set_cons_succ, i64_w, i32_w]
                  rfl
                refine take_ (i := 10) (N := some 90) (v := ?_) (a' := ?_) #[true, true, true, true, true, true, true, true, true, true, true, false, false, false, false, false, false, false, false, false, false, false] rfl rfl (by kernel_rfl) (fun _ _ _ h => h) (Or.inl ⟨by rfl, ?_⟩) hHeld ?_ ?_
                rotate_left
                · rintro w' ⟨s0, s1, s2, s3⟩
                  go_simp
                  with_reducible rfl
                rotate_left
                · simp only [Act.put, List.setIfInBounds_toArray, List.set_cons_zero, List.set_cons_succ, i64_w, i32_w]
                  rfl
                refine take_ (i := 11) (N := some 91) (v := ?_) (a' := ?_) #[true, true, true, true, true, true, true, true, true, true, true, true, false, false, false, false, false, false, false, false, false, false] rfl rfl (by kernel_rfl) (fun _ _ _ h => h) (Or.inl ⟨by rfl, ?_⟩) hHeld ?_ ?_
                rotate_left
                · rintro w' ⟨s0, s1, s2, s3⟩
                  go_simp
                  with_reducible rfl
                rotate_left
                · simp only [Act.put, List.setIfInBounds_toArray, List.set_cons_zero, List.set_cons_succ, i64_w, i32_w]
                  rfl
                refine pure_ (i := 12) (N := some 92) (v := ?_) (a' := ?_) #[true, true, true, true, true, true, true, true, true, true, true, true, true, false, false, false, false, false, false, false, false, false] rfl rfl (by kernel_rfl) (fun _ _ _ h => h) (Or.inl ⟨by rfl, ?_⟩) ?_ ?_
                rotate_left
                · intro w'
                  go_simp
                  with_reducible rfl
                rotate_left
                · simp only [Act.put, List.setIfInBounds_toArray, List.set_cons_zero, List.set_cons_succ, i64_w, i32_w]
                  rfl
                refine pure_ (i := 13) (N := some 93) (v := ?_) (a' := ?_) #[true, true, true, true, true, true, true, true, true, true, true, true, true, true, false, false, false, false, false, false, false, false] rfl rfl (by kernel_rfl) (fun _ _ _ h => h) (Or.inl ⟨by rfl, ?_⟩) ?_ ?_
                rotate_left
                · intro w'
                  go_simp
                  with_reducible rfl
                rotate_left
                · simp only [Act.put, List.setIfInBounds_toArray, List.set_cons_zero, List.set_cons_succ, i64_w, i32_w]
                  rfl
                refine take_ (i := 14) (N := some 94) (v := ?_) (a' := ?_) #[true, true, true, true, true, true, true, true, true, true, true, true, true, true, true, false, false, false, false, false, false, false] rfl rfl (by kernel_rfl) (fun _ _ _ h => h) (Or.inl ⟨by rfl, ?_⟩) hHeld ?_ ?_
                rotate_left
                · rintro w' ⟨s0, s1, s2, s3⟩
                  go_simp
                  with_reducible rfl
                rotate_left
                · simp only [Act.put, List.setIfInBounds_toArray, List.set_cons_zero, List.set_cons_succ, i64_w, i32_w]
                  rfl
                refine pure_ (i := 15) (N := some 95) (v := ?_) (a' := ?_) #[true, true, true, true, true, true, true, true, true, true, true, true, true, true, true, true, false, false, false, false, false, false] rfl rfl (by kernel_rfl) (fun _ _ _ h => h) (Or.inl ⟨by rfl, ?_⟩) ?_ ?_
                rotate_left
                · intro w'
                  go_simp
                  with_reducible rfl
                rotate_left
                · simp only [Act.put, List.setIfInBounds_toArray, List.set_cons_zero, List.set_cons_succ, i64_w, i32_w]
                  rfl
                refine pure_ (i := 16) (N := some 96) (v := .int .i64 p) (a' := ?_) #[true, true, true, true, true, true, true, true, true, true, true, true, true, true, true, true, true, false, false, false, false, false] rfl rfl (by kernel_rfl) (fun _ _ _ h => h) (Or.inl ⟨by rfl, ?_⟩) ?_ ?_
                · intro w'
                  go_simp
                  exact HW96.out
                rotate_left
                · simp only [Act.put, List.setIfInBounds_toArray, List.set_cons_zero, List.set_cons_succ, i64_w, i32_w]
                  rfl
                refine pure_ (i := 17) (N := some 97) (v := ?_) (a' := ?_) #[true, true, true, true, true, true, true, true, true, true, true, true, true, true, true, true, true, true, false, false, false, false] rfl rfl (by kernel_rfl) (fun _ _ _ h => h) (Or.inl ⟨by rfl, ?_⟩) ?_ ?_
                rotate_left
                · intro w'
                  go_simp
                  with_reducible rfl
                rotate_left
                · simp only [Act.put, List.setIfInBounds_toArray, List.set_cons_zero, List.set_cons_succ, i64_w, i32_w]
                  rfl
                refine pure_ (i := 18) (N := some 98) (v := ?_) (a' := ?_) #[true, true, true, true, true, true, true, true, true, true, true, true, true, true, true, true, true, true, true, false, false, false] rfl rfl (by kernel_rfl) (fun _ _ _ h => h) (Or.inl ⟨by rfl, ?_⟩) ?_ ?_
                rotate_left
                · intro w'
                  go_simp
                  with_reducible rfl
                rotate_left
                · simp only [Act.put, List.setIfInBounds_toArray, List.set_cons_zero, List.set_cons_succ, i64_w, i32_w]
                  rfl
                refine take_ (i := 19) (N := some 99) (v := ?_) (a' := ?_) #[true, true, true, true, true, true, true, true, true, true, true, true, true, true, true, true, true, true, true, true, false, false] rfl rfl (by kernel_rfl) (fun _ _ _ h => h) (Or.inl ⟨by rfl, ?_⟩) hHeld ?_ ?_
                rotate_left
                · rintro w' ⟨s0, s1, s2, s3⟩
                  go_simp
                  with_reducible rfl
                rotate_left
                · simp only [Act.put, List.setIfInBounds_toArray, List.set_cons_zero, List.set_cons_succ, i64_w, i32_w]
                  rfl
                refine pure_ (i := 20) (N := some 100) (v := ?_) (a' := ?_) #[true, true, true, true, true, true, true, true, true, true, true, true, true, true, true, true, true, true, true, true, true, false] rfl rfl (by kernel_rfl) (fun _ _ _ h => h) (Or.inl ⟨by rfl, ?_⟩) ?_ ?_
                rotate_left
                · intro w'
                  go_simp
                  with_reducible rfl
                rotate_left
                · simp only [Act.put, List.setIfInBounds_toArray, List.set_cons_zero, List.set_cons_succ, i64_w, i32_w]
                  rfl
                refine pure_ (i := 21) (N := some 101) (v := ?_) (a' := ?_) #[true, true, true, true, true, true, true, true, true, true, true, true, true, true, true, true, true, true, true, true, true, true] rfl rfl (by kernel_rfl) (fun _ _ _ h => h) (Or.inl ⟨by rfl, ?_⟩) ?_ ?_
                rotate_left
                · intro w'
                  go_simp
                  with_reducible rfl
                rotate_left
                · simp only [Act.put, List.setIfInBounds_toArray, List.set_cons_zero, List.set_cons_succ, i64_w, i32_w]
                  rfl
                refine done_ (by kernel_rfl) ?_
                clear hHeld hS22
                go_wp2_with fail
                go_ret2
                exact OpnPost_none HXN.out ((HB1.out.trans (HBW.out.mono HB1.out.size)).trans ((hdr wr).mono (by have := HB1.out.size; have := HBW.out.size; omega)))
              · have hle' : leB x1 x0 = false := by simpa using hle
                have hlq : ∀ W, Sem.run Try.prog (binOp BinOp.leq 9 (.string x1) (.string x0)) W = .ok (.bool false) W := fun W => by rw [run_leq, hle']
                have HOD2 := Lib.hid (show ∀ i : Nat, (i : Int) + 1 < j + 1 → leB (acc.getD (i + 1) rz).k (acc.getD i rz).k = false from fun i hi => by
                  by_cases h : (i : Int) + 1 < j
                  · exact HOD.out i h
                  · have e1 : i = p.toNat := by have := HPJ.out; omega
                    rw [e1, show p.toNat + 1 = j.toNat by have := HPJ.out; omega, ← HX1.out, ← HX0.out]; exact hle')
                clear hle hle' HOD
                go_wp2_with fail
                refine start_ (n := 22) (S := fun w' => w'.cell? ⟨g + 1, 0, none⟩ = some (.pointer (some ⟨g, 0, none⟩)) ∧ w'.cell? ⟨g, 0, none⟩ = some (.slice (some ad) acc.length ca) ∧ w'.cell? (ad.add (j.toNat * 3)) = some (.string x1) ∧ w'.cell? (ad.add (p.toNat * 3)) = some (.string x0)) (ds := []) #[false, false, false, false, false, false, false, false, false, false, false, false, false, false, false, false, false, false, false, false, false, false] (by kernel_rfl) rfl rfl (hS22) (fun hHeld => ?_)
                refine pure_ (i := 0) (N := some 80) (v := ?_) (a' := ?_) #[true, false, false, false, false, false, false, false, false, false, false, false, false, false, false, false, false, false, false, false, false, false] rfl rfl (by kernel_rfl) (fun _ _ _ h => h) (Or.inl ⟨by rfl, ?_⟩) ?_ ?_
                rotate_left
                · intro w'
                  go_simp
                  with_reducible rfl
                rotate_left
                · simp only [Act.put, List.setIfInBounds_toArray, List.set_cons_zero, List.set_cons_succ, i64_w, i32_w]
                  rfl
                refine pure_ (i := 1) (N := some 81) (v := ?_) (a' := ?_) #[true, true, false, false, false, false, false, false, false, false, false, false, false, false, false, false, false, false, false, false, false, false] rfl rfl (by kernel_rfl) (fun _ _ _ h => h) (Or.inl ⟨by rfl, ?_⟩) ?_ ?_
                rotate_left
                · intro w'
                  go_simp
                  with_reducible rfl
                rotate_left
                · simp only [Act.put, List.setIfInBounds_toArray, List.set_cons_zero, List.set_cons_succ, i64_w, i32_w]
                  rfl
                refine pure_ (i := 2) (N := some 82) (v := ?_) (a' := ?_) #[true, true, true, false, false, false, false, false, false, false, false, false, false, false, false, false, false, false, false, false, false, false] rfl rfl (by kernel_rfl) (fun _ _ _ h => h) (Or.inl ⟨by rfl, ?_⟩) ?_ ?_
                rotate_left
                · intro w'
                  go_simp
                  with_reducible rfl
                rotate_left
                · simp only [Act.put, List.setIfInBounds_toArray, List.set_cons_zero, List.set_cons_succ, i64_w, i32_w]
                  rfl
                refine take_ (i := 3) (N := some 83) (v := ?_) (a' := ?_) #[true, true, true, true, false, false, false, false, false, false, false, false, false, false, false, false, false, false, false, false, false, false] rfl rfl (by kernel_rfl) (fun _ _ _ h => h) (Or.inl ⟨by rfl, ?_⟩) hHeld ?_ ?_
                rotate_left
                · rintro w' ⟨s0, s1, s2, s3⟩
                  go_simp
                  with_reducible rfl
                rotate_left
                · simp only [Act.put, List.setIfInBounds_toArray, List.set_cons_zero, List.set_cons_succ, i64_w, i32_w]
                  rfl
                refine pure_ (i := 4) (N := some 84) (v := ?_) (a' := ?_) #[true, true, true, true, true, false, false, false, false, false, false, false, false, false, false, false, false, false, false, false, false, false] rfl rfl (by kernel_rfl) (fun _ _ _ h => h) (Or.inl ⟨by rfl, ?_⟩) ?_ ?_
                rotate_left
                · intro w'
                  go_simp
                  with_reducible rfl
                rotate_left
                · simp only [Act.put, List.setIfInBounds_toArray, List.set_cons_zero, List.set_cons_succ, i64_w, i32_w]
                  rfl
                refine pure_ (i := 5) (N := some 85) (v := ?_) (a' := ?_) #[true, true, true, true, true, true, false, false, false, false, false, false, false, false, false, false, false, false, false, false, false, false] rfl rfl (by kernel_rfl) (fun _ _ _ h => h) (Or.inl ⟨by rfl, ?_⟩) ?_ ?_
                rotate_left
                · intro w'
                  go_simp
                  with_reducible rfl
                rotate_left
                · simp only [Act.put, List.setIfInBounds_toArray, List.set_cons_zero, List.set_cons_succ, i64_w, i32_w]
                  rfl
                refine take_ (i := 6) (N := some 86) (v := ?_) (a' := ?_) #[true, true, true, true, true, true, true, false, false, false, false, false, false, false, false, false, false, false, false, false, false, false] rfl rfl (by kernel_rfl) (fun _ _ _ h => h) (Or.inl ⟨by rfl, ?_⟩) hHeld ?_ ?_
                rotate_left
                · rintro w' ⟨s0, s1, s2, s3⟩
                  go_simp
                  with_reducible rfl
                rotate_left
                · simp only [Act.put, List.setIfInBounds_toArray, List.set_cons_zero, List.set_cons_succ, i64_w, i32_w]
                  rfl
                refine pure_ (i := 7) (N := some 87) (v := ?_) (a' := ?_) #[true, true, true, true, true, true, true, true, false, false, false, false, false, false, false, false, false, false, false, false, false, false] rfl rfl (by kernel_rfl) (fun _ _ _ h => h) (Or.inl ⟨by rfl, ?_⟩) ?_ ?_
                rotate_left
                · intro w'
                  go_simp
                  with_reducible rfl
                rotate_left
                · simp only [Act.put, List.setIfInBounds_toArray, List.set_cons_zero, List.set_cons_succ, i64_w, i32_w]
                  rfl
                refine pure_ (i := 8) (N := some 88) (v := ?_) (a' := ?_) #[true, true, true, true, true, true, true, true, true, false, false, false, false, false, false, false, false, false, false, false, false, false] rfl rfl (by kernel_rfl) (fun _ _ _ h => h) (Or.inl ⟨by rfl, ?_⟩) ?_ ?_
                rotate_left
                · intro w'
                  go_simp
                  with_reducible rfl
                rotate_left
                · simp only [Act.put, List.setIfInBounds_toArray, List.set_cons_zero, List.set_cons_succ, i64_w, i32_w]
                  rfl
                refine pure_ (i := 9) (N := some 89) (v := ?_) (a' := ?_) #[true, true, true, true, true, true, true, true, true, true, false, false, false, false, false, false, false, false, false, false, false, false] rfl rfl (by kernel_rfl) (fun _ _ _ h => h) (Or.inl ⟨by rfl, ?_⟩) ?_ ?_
                rotate_left
                · intro w'
                  go_simp
                  with_reducible rfl
                rotate_left
                · simp only [Act.put, List.setIfInBounds_toArray, List.set_cons_zero, List.set_cons_succ, i64_w, i32_w]
                  rfl
                refine take_ (i := 10) (N := some 90) (v := ?_) (a' := ?_) #[true, true, true, true, true, true, true, true, true, true, true, false, false, false, false, false, false, false, false, false, false, false] rfl rfl (by kernel_rfl) (fun _ _ _ h => h) (Or.inl ⟨by rfl, ?_⟩) hHeld ?_ ?_
                rotate_left
                · rintro w' ⟨s0, s1, s2, s3⟩
                  go_simp
                  with_reducible rfl
                rotate_left
                · simp only [Act.put, List.setIfInBounds_toArray, List.set_cons_zero, List.set_cons_succ, i64_w, i32_w]
                  rfl
                refine take_ (i := 11) (N := some 91) (v := ?_) (a' := ?_) #[true, true, true, true, true, true, true, true, true, true, true, true, false, false, false, false, false, false, false, false, false, false] rfl rfl (by kernel_rfl) (fun _ _ _ h => h) (Or.inl ⟨by rfl, ?_⟩) hHeld ?_ ?_
                rotate_left
                · rintro w' ⟨s0, s1, s2, s3⟩
                  go_simp
                  with_reducible rfl
                rotate_left
                · simp only [Act.put, List.setIfInBounds_toArray, List.set_cons_zero, List.set_cons_succ, i64_w, i32_w]
                  rfl
                refine pure_ (i := 12) (N := some 92) (v := ?_) (a' := ?_) #[true, true, true, true, true, true, true, true, true, true, true, true, true, false, false, false, false, false, false, false, false, false] rfl rfl (by kernel_rfl) (fun _ _ _ h => h) (Or.inl ⟨by rfl, ?_⟩) ?_ ?_
                rotate_left
                · intro w'
                  go_simp
                  with_reducible rfl
                rotate_left
                · simp only [Act.put, List.setIfInBounds_toArray, List.set_cons_zero, List.set_cons_succ, i64_w, i32_w]
                  rfl
                refine pure_ (i := 13) (N := some 93) (v := ?_) (a' := ?_) #[true, true, true, true, true, true, true, true, true, true, true, true, true, true, false, false, false, false, false, false, false, false] rfl rfl (by kernel_rfl) (fun _ _ _ h => h) (Or.inl ⟨by rfl, ?_⟩) ?_ ?_
                rotate_left
                · intro w'
                  go_simp
                  with_reducible rfl
                rotate_left
                · simp only [Act.put, List.setIfInBounds_toArray, List.set_cons_zero, List.set_cons_succ, i64_w, i32_w]
                  rfl
                refine take_ (i := 14) (N := some 94) (v := ?_) (a' := ?_) #[true, true, true, true, true, true, true, true, true, true, true, true, true, true, true, false, false, false, false, false, false, false] rfl rfl (by kernel_rfl) (fun _ _ _ h => h) (Or.inl ⟨by rfl, ?_⟩) hHeld ?_ ?_
                rotate_left
                · rintro w' ⟨s0, s1, s2, s3⟩
                  go_simp
                  with_reducible rfl
                rotate_left
                · simp only [Act.put, List.setIfInBounds_toArray, List.set_cons_zero, List.set_cons_succ, i64_w, i32_w]
                  rfl
                refine pure_ (i := 15) (N := some 95) (v := ?_) (a' := ?_) #[true, true, true, true, true, true, true, true, true, true, true, true, true, true, true, true, false, false, false, false, false, false] rfl rfl (by kernel_rfl) (fun _ _ _ h => h) (Or.inl ⟨by rfl, ?_⟩) ?_ ?_
                rotate_left
                · intro w'
                  go_simp
                  with_reducible rfl
                rotate_left
                · simp only [Act.put, List.setIfInBounds_toArray, List.set_cons_zero, List.set_cons_succ, i64_w, i32_w]
                  rfl
                refine pure_ (i := 16) (N := some 96) (v := .int .i64 p) (a' := ?_) #[true, true, true, true, true, true, true, true, true, true, true, true, true, true, true, true, true, false, false, false, false, false] rfl rfl (by kernel_rfl) (fun _ _ _ h => h) (Or.inl ⟨by rfl, ?_⟩) ?_ ?_
                · intro w'
                  go_simp
                  exact HW96.out
                rotate_left
                · simp only [Act.put, List.setIfInBounds_toArray, List.set_cons_zero, List.set_cons_succ, i64_w, i32_w]
                  rfl
                refine pure_ (i := 17) (N := some 97) (v := ?_) (a' := ?_) #[true, true, true, true, true, true, true, true, true, true, true, true, true, true, true, true, true, true, false, false, false, false] rfl rfl (by kernel_rfl) (fun _ _ _ h => h) (Or.inl ⟨by rfl, ?_⟩) ?_ ?_
                rotate_left
                · intro w'
                  go_simp
                  with_reducible rfl
                rotate_left
                · simp only [Act.put, List.setIfInBounds_toArray, List.set_cons_zero, List.set_cons_succ, i64_w, i32_w]
                  rfl
                refine pure_ (i := 18) (N := some 98) (v := ?_) (a' := ?_) #[true, true, true, true, true, true, true, true, true, true, true, true, true, true, true, true, true, true, true, false, false, false] rfl rfl (by kernel_rfl) (fun _ _ _ h => h) (Or.inl ⟨by rfl, ?_⟩) ?_ ?_
                rotate_left
                · intro w'
                  go_simp
                  with_reducible rfl
                rotate_left
                · simp only [Act.put, List.setIfInBounds_toArray, List.set_cons_zero, List.set_cons_succ, i64_w, i32_w]
                  rfl
                refine take_ (i := 19) (N := some 99) (v := ?_) (a' := ?_) #[true, true, true, true, true, true, true, true, true, true, true, true, true, true, true, true, true, true, true, true, false, false] rfl rfl (by kernel_rfl) (fun _ _ _ h => h) (Or.inl ⟨by rfl, ?_⟩) hHeld ?_ ?_
                rotate_left
                · rintro w' ⟨s0, s1, s2, s3⟩
                  go_simp
                  with_reducible rfl
                rotate_left
                · simp only [Act.put, List.setIfInBounds_toArray, List.set_cons_zero, List.set_cons_succ, i64_w, i32_w]
                  rfl
                refine pure_ (i := 20) (N := some 100) (v := ?_) (a' := ?_) #[true, true, true, true, true, true, true, true, true, true, true, true, true, true, true, true, true, true, true, true, true, false] rfl rfl (by kernel_rfl) (fun _ _ _ h => h) (Or.inl ⟨by rfl, ?_⟩) ?_ ?_
                rotate_left
                · intro w'
                  go_simp
                  with_reducible rfl
                rotate_left
                · simp only [Act.put, List.setIfInBounds_toArray, List.set_cons_zero, List.set_cons_succ, i64_w, i32_w]
                  rfl
                refine pure_ (i := 21) (N := some 101) (v := ?_) (a' := ?_) #[true, true, true, true, true, true, true, true, true, true, true, true, true, true, true, true, true, true, true, true, true, true] rfl rfl (by kernel_rfl) (fun _ _ _ h => h) (Or.inl ⟨by rfl, ?_⟩) ?_ ?_
                rotate_left
                · intro w'
                  go_simp
                  with_reducible rfl
                rotate_left
                · simp only [Act.put, List.setIfInBounds_toArray, List.set_cons_zero, List.set_cons_succ, i64_w, i32_w]
                  rfl
                refine done_ (by kernel_rfl) ?_
                clear hHeld hS22
                go_wp2_with fail
                go_roundw
                case rel => exact ⟨j + 1, rfl, by omega, by omega, HBW.out.trans ((hdr wr).mono HBW.out.size), HZG.out, HZX.out, Kd.R_below HRR.out (hdr wr), HOD2⟩
                case measure => simp [intOf]; omega
            · obtain rfl : j = 0 := by omega
              have HOD2 := Lib.hid (show ∀ i : Nat, (i : Int) + 1 < (0 : Int) + 1 → leB (acc.getD (i + 1) rz).k (acc.getD i rz).k = false from fun i hi => by omega)
              clear HOD k1 hz
              go_wp2_with fail
              refine start_ (n := 22) (S := fun _ => True) (ds := []) #[false, false, false, false, false, false, false, false, false, false, false, false, false, false, false, false, false, false, false, false, false, false] (by kernel_rfl) rfl rfl (trivial) (fun hHeld => ?_)
              refine pure_ (i := 0) (N := some 80) (v := ?_) (a' := ?_) #[true, false, false, false, false, false, false, false, false, false, false, false, false, false, false, false, false, false, false, false, false, false] rfl rfl (by kernel_rfl) (fun _ _ _ h => h) (Or.inl ⟨by rfl, ?_⟩) ?_ ?_
              rotate_left
              · intro w'
                go_simp
                with_reducible rfl
              rotate_left
              · simp only [Act.put, List.setIfInBounds_toArray, List.set_cons_zero, List.set_cons_succ, i64_w, i32_w]
                rfl
              refine pure_ (i := 1) (N := some 81) (v := ?_) (a' := ?_) #[true, true, false, false, false, false, false, false, false, false, false, false, false, false, false, false, false, false, false, false, false, false] rfl rfl (by kernel_rfl) (fun _ _ _ h => h) (Or.inl ⟨by rfl, ?_⟩) ?_ ?_
              rotate_left
              · intro w'
                go_simp
                with_reducible rfl
              rotate_left
              · simp only [Act.put, List.setIfInBounds_toArray, List.set_cons_zero, List.set_cons_succ, i64_w, i32_w]
                rfl
              refine pure_ (i := 2) (N := some 82) (v := ?_) (a' := ?_) #[true, true, true, false, false, false, false, false, false, false, false, false, false, false, false, false, false, false, false, false, false, false] rfl rfl (by kernel_rfl) (fun _ _ _ h => h) (Or.inl ⟨by rfl, ?_⟩) ?_ ?_
              rotate_left
              · intro w'
                go_simp
                with_reducible rfl
              rotate_left
              · simp only [Act.put, List.setIfInBounds_toArray, List.set_cons_zero, List.set_cons_succ, i64_w, i32_w]
                rfl
              refine pure_ (i := 3) (N := some 83) (v := undef) (a' := ?_) #[true, true, true, true, false, false, false, false, false, false, false, false, false, false, false, false, false, false, false, false, false, false] rfl rfl (by kernel_rfl) (fun _ _ _ h => h) (Or.inr ⟨by rfl, rfl⟩) ?_ ?_
              rotate_left
              · simp only [Act.put, List.setIfInBounds_toArray, List.set_cons_zero, List.set_cons_succ, i64_w, i32_w]
                rfl
              refine pure_ (i := 4) (N := some 84) (v := undef) (a' := ?_) #[true, true, true, true, true, false, false, false, false, false, false, false, false, false, false, false, false, false, false, false, false, false] rfl rfl (by kernel_rfl) (fun _ _ _ h => h) (Or.inr ⟨by rfl, rfl⟩) ?_ ?_
              rotate_left
              · simp only [Act.put, List.setIfInBounds_toArray, List.set_cons_zero, List.set_cons_succ, i64_w, i32_w]
                rfl
              refine pure_ (i := 5) (N := some 85) (v := undef) (a' := ?_) #[true, true, true, true, true, true, false, false, false, false, false, false, false, false, false, false, false, false, false, false, false, false] rfl rfl (by kernel_rfl) (fun _ _ _ h => h) (Or.inr ⟨by rfl, rfl⟩) ?_ ?_
              rotate_left
              · simp only [Act.put, List.setIfInBounds_toArray, List.set_cons_zero, List.set_cons_succ, i64_w, i32_w]
                rfl
              refine pure_ (i := 6) (N := some 86) (v := undef) (a' := ?_) #[true, true, true, true, true, true, true, false, false, false, false, false, false, false, false, false, false, false, false, false, false, false] rfl rfl (by kernel_rfl) (fun _ _ _ h => h) (Or.inr ⟨by rfl, rfl⟩) ?_ ?_
              rotate_left
              · simp only [Act.put, List.setIfInBounds_toArray, List.set_cons_zero, List.set_cons_succ, i64_w, i32_w]
                rfl
              refine pure_ (i := 7) (N := some 87) (v := undef) (a' := ?_) #[true, true, true, true, true, true, true, true, false, false, false, false, false, false, false, false, false, false, false, false, false, false] rfl rfl (by kernel_rfl) (fun _ _ _ h => h) (Or.inr ⟨by rfl, rfl⟩) ?_ ?_
              rotate_left
              · simp only [Act.put, List.setIfInBounds_toArray, List.set_cons_zero, List.set_cons_succ, i64_w, i32_w]
                rfl
              refine pure_ (i := 8) (N := some 88) (v := undef) (a' := ?_) #[true, true, true, true, true, true, true, true, true, false, false, false, false, false, false, false, false, false, false, false, false, false] rfl rfl (by kernel_rfl) (fun _ _ _ h => h) (Or.inr ⟨by rfl, rfl⟩) ?_ ?_
              rotate_left
              · simp only [Act.put, List.setIfInBounds_toArray, List.set_cons_zero, List.set_cons_succ, i64_w, i32_w]
                rfl
              refine pure_ (i := 9) (N := some 89) (v := undef) (a' := ?_) #[true, true, true, true, true, true, true, true, true, true, false, false, false, false, false, false, false, false, false, false, false, false] rfl rfl (by kernel_rfl) (fun _ _ _ h => h) (Or.inr ⟨by rfl, rfl⟩) ?_ ?_
              rotate_left
              · simp only [Act.put, List.setIfInBounds_toArray, List.set_cons_zero, List.set_cons_succ, i64_w, i32_w]
                rfl
              refine pure_ (i := 10) (N := some 90) (v := undef) (a' := ?_) #[true, true, true, true, true, true, true, true, true, true, true, false, false, false, false, false, false, false, false, false, false, false] rfl rfl (by kernel_rfl) (fun _ _ _ h => h) (Or.inr ⟨by rfl, rfl⟩) ?_ ?_
              rotate_left
              · simp only [Act.put, List.setIfInBounds_toArray, List.set_cons_zero, List.set_cons_succ, i64_w, i32_w]
                rfl
              refine pure_ (i := 11) (N := some 91) (v := undef) (a' := ?_) #[true, true, true, true, true, true, true, true, true, true, true, true, false, false, false, false, false, false, false, false, false, false] rfl rfl (by kernel_rfl) (fun _ _ _ h => h) (Or.inr ⟨by rfl, rfl⟩) ?_ ?_
              rotate_left
              · simp only [Act.put, List.setIfInBounds_toArray, List.set_cons_zero, List.set_cons_succ, i64_w, i32_w]
                rfl
              refine pure_ (i := 12) (N := some 92) (v := undef) (a' := ?_) #[true, true, true, true, true, true, true, true, true, true, true, true, true, false, false, false, false, false, false, false, false, false] rfl rfl (by kernel_rfl) (fun _ _ _ h => h) (Or.inr ⟨by rfl, rfl⟩) ?_ ?_
              rotate_left
              · simp only [Act.put, List.setIfInBounds_toArray, List.set_cons_zero, List.set_cons_succ, i64_w, i32_w]
                rfl
              refine pure_ (i := 13) (N := some 93) (v := undef) (a' := ?_) #[true, true, true, true, true, true, true, true, true, true, true, true, true, true, false, false, false, false, false, false, false, false] rfl rfl (by kernel_rfl) (fun _ _ _ h => h) (Or.inr ⟨by rfl, rfl⟩) ?_ ?_
              rotate_left
              · simp only [Act.put, List.setIfInBounds_toArray, List.set_cons_zero, List.set_cons_succ, i64_w, i32_w]
                rfl
              refine pure_ (i := 14) (N := some 94) (v := undef) (a' := ?_) #[true, true, true, true, true, true, true, true, true, true, true, true, true, true, true, false, false, false, false, false, false, false] rfl rfl (by kernel_rfl) (fun _ _ _ h => h) (Or.inr ⟨by rfl, rfl⟩) ?_ ?_
              rotate_left
              · simp only [Act.put, List.setIfInBounds_toArray, List.set_cons_zero, List.set_cons_succ, i64_w, i32_w]
                rfl
              refine pure_ (i := 15) (N := some 95) (v := undef) (a' := ?_) #[true, true, true, true, true, true, true, true, true, true, true, true, true, true, true, true, false, false, false, false, false, false] rfl rfl (by kernel_rfl) (fun _ _ _ h => h) (Or.inr ⟨by rfl, rfl⟩) ?_ ?_
              rotate_left
              · simp only [Act.put, List.setIfInBounds_toArray, List.set_cons_zero, List.set_cons_succ, i64_w, i32_w]
                rfl
              refine pure_ (i := 16) (N := some 96) (v := undef) (a' := ?_) #[true, true, true, true, true, true, true, true, true, true, true, true, true, true, true, true, true, false, false, false, false, false] rfl rfl (by kernel_rfl) (fun _ _ _ h => h) (Or.inr ⟨by rfl, rfl⟩) ?_ ?_
              rotate_left
              · simp only [Act.put, List.setIfInBounds_toArray, List.set_cons_zero, List.set_cons_succ, i64_w, i32_w]
                rfl
              refine pure_ (i := 17) (N := some 97) (v := undef) (a' := ?_) #[true, true, true, true, true, true, true, true, true, true, true, true, true, true, true, true, true, true, false, false, false, false] rfl rfl (by kernel_rfl) (fun _ _ _ h => h) (Or.inr ⟨by rfl, rfl⟩) ?_ ?_
              rotate_left
              · simp only [Act.put, List.setIfInBounds_toArray, List.set_cons_zero, List.set_cons_succ, i64_w, i32_w]
                rfl
              refine pure_ (i := 18) (N := some 98) (v := undef) (a' := ?_) #[true, true, true, true, true, true, true, true, true, true, true, true, true, true, true, true, true, true, true, false, false, false] rfl rfl (by kernel_rfl) (fun _ _ _ h => h) (Or.inr ⟨by rfl, rfl⟩) ?_ ?_
              rotate_left
              · simp only [Act.put, List.setIfInBounds_toArray, List.set_cons_zero, List.set_cons_succ, i64_w, i32_w]
                rfl
              refine pure_ (i := 19) (N := some 99) (v := undef) (a' := ?_) #[true, true, true, true, true, true, true, true, true, true, true, true, true, true, true, true, true, true, true, true, false, false] rfl rfl (by kernel_rfl) (fun _ _ _ h => h) (Or.inr ⟨by rfl, rfl⟩) ?_ ?_
              rotate_left
              · simp only [Act.put, List.setIfInBounds_toArray, List.set_cons_zero, List.set_cons_succ, i64_w, i32_w]
                rfl
              refine pure_ (i := 20) (N := some 100) (v := undef) (a' := ?_) #[true, true, true, true, true, true, true, true, true, true, true, true, true, true, true, true, true, true, true, true, true, false] rfl rfl (by kernel_rfl) (fun _ _ _ h => h) (Or.inr ⟨by rfl, rfl⟩) ?_ ?_
              rotate_left
              · simp only [Act.put, List.setIfInBounds_toArray, List.set_cons_zero, List.set_cons_succ, i64_w, i32_w]
                rfl
              refine pure_ (i := 21) (N := some 101) (v := ?_) (a' := ?_) #[true, true, true, true, true, true, true, true, true, true, true, true, true, true, true, true, true, true, true, true, true, true] rfl rfl (by kernel_rfl) (fun _ _ _ h => h) (Or.inl ⟨by rfl, ?_⟩) ?_ ?_
              rotate_left
              · intro w'
                go_simp
                with_reducible rfl
              rotate_left
              · simp only [Act.put, List.setIfInBounds_toArray, List.set_cons_zero, List.set_cons_succ, i64_w, i32_w]
                rfl
              refine done_ (by kernel_rfl) ?_
              clear hHeld
              go_wp2_with fail
              go_roundw
              case rel => exact ⟨1, rfl, by omega, by omega, HBW.out.trans ((hdr wr).mono HBW.out.size), HZG.out, HZX.out, Kd.R_below HRR.out (hdr wr), HOD2⟩
              case measure => simp [intOf]; omega
          · obtain rfl : j = acc.length := by omega
            have HSO := Lib.hid (show sortedB acc = true from (sortedB_iff acc).2 (fun i hi => HOD.out i (by omega)))
            have c0 := (blk_cell HZX.out 0).trans rfl
            have c1 := (blk_cell HZG.out 2).trans rfl
            have f1 := blk_frozen HZG.out 2
            clear HOD hj hlt hj0
            by_cases hne : at_ = fin
            · subst hne
              have hq : ((at_ : Int) != (at_ : Int)) = false := by simp
              go_wp2_with fail
              go_ret2
              refine OpnPost_some (acc, szs.length) (by rw [HO2.out, HX3.out]; unfold openE; dsimp only; rw [if_pos ⟨HSO.out, rfl⟩]) ?_ ?_
              · have h := HG.out
                exact (HB1.out.trans (HBW.out.mono HB1.out.size)).setCell (p := ⟨g, 2, none⟩) (by show w.heap.size ≤ g; rw [HG.out]; exact HB1.out.size) _
              · refine ⟨Aa, ca, g + 1, blk_set HZG.out 2 _, blk_far HZX.out (p := ⟨g, 2, none⟩) (by show g + 1 ≠ g; omega) _, ?_, by rw [HG.out]; exact HB1.out.size, by have h1 := HG.out; have h2 := HB1.out.size; omega, ?_⟩
                · refine Kd.F_mono (Kd.F_bound (Kd.F_far (Kd.R_F (Kd.R_bound HRR.out)) (p := ⟨g, 2, none⟩) (fun k hk => hk.1.1) _)) (fun k hk => ⟨by have h1 := hk.1.2.1; have h2 := HB1.out.size; omega, hk.2⟩)
                · exact R_cap HRR.out
            · have hq : ((at_ : Int) != (fin : Int)) = true := by simp; omega
              have HXN := Lib.hid (show openF b = none by rw [HO2.out, HX3.out]; unfold openE; dsimp only; rw [if_neg (fun h => hne h.2)])
              clear hne
              go_wp2_with fail
              go_ret2
              exact OpnPost_none HXN.out (HB1.out.trans (HBW.out.mono HB1.out.size))
end Go.Proofs.Ytfemjlhfgmbcmaa
