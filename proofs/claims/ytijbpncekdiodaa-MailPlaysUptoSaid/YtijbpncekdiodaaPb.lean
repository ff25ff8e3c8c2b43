/- What ranges over a box. Laid by gen_pb.py. -/
import Derived.Test.YtijbpncekdiodaaNb
import Derived.Test.YtijbpncekdiodaaPa
namespace Go.Proofs.Ytijbpncekdiodaa
open Go.RowKit Go.Shelf Go.Proofs.YtijbpncekdiodaaW.PrintWords Go.Proofs.YtijbpncekdiodaaW.PrintLast Go.Proofs.YtijbpncekdiodaaW.PrintMore
open Go.Proofs.Ytijbpncekdiodaa.PMailMoves
set_option linter.unusedVariables false
set_option linter.unusedSimpArgs false
attribute [local go_sem] Oper.semAt_some

section
variable {F : Fence} {n : Nat} {P : Program} {ops : Array Oper} {rest : List Oper} {o : Oper} {a : Act} {Q : Exit → Act → World → Prop} {w w1 : World}
theorem wpListIn_load_at (hgd : o.guard = none) (ty : TypeId) (x : Operand) (ho : o.op = .load ty x) (ad : Addr) (hx : a.eval x = .pointer (some ad)) (cs : List Value) (d : TypeDesc) (hc : ∀ j u, cs[j]? = some u → w.cell? (ad.add j) = some u)
    (hu : P.underlying ty = some d) (hd : d.isRow = true) (hi : (P.info? ty).map (·.size) = some cs.length)
    (h : wpListIn F n P ops Q rest (a.put o.dst (.agg cs.toArray)) w) : wpListIn F n P ops Q (o :: rest) a w := by
  refine wpListIn_event hgd (by simp [Oper.about, ho]) (by rw [ho]; intro c hc; cases hc) ?_ h
  unfold execOp
  simp only [ho, hx, Sem.run_bind, Sem.run_pure, Result.andThen_ok, run_loadAt_at w ad ty cs d hc hu hd hi]
theorem wpListIn_load_row (hgd : o.guard = none) (ty : TypeId) (x : Operand) (ho : o.op = .load ty x) (g : Nat) (hx : a.eval x = .pointer (some ⟨g, 0, none⟩)) (cs : List Value) (t : TypeId) (d : TypeDesc) (hc : w.heap[g]? = some (.cells cs.toArray t (0, 0)))
    (hu : P.underlying ty = some d) (hd : d.isRow = true) (hi : (P.info? ty).map (·.size) = some cs.length)
    (h : wpListIn F n P ops Q rest (a.put o.dst (.agg cs.toArray)) w) : wpListIn F n P ops Q (o :: rest) a w :=
  wpListIn_load_at hgd ty x ho ⟨g, 0, none⟩ hx cs d (fun j u hu => by rw [show (⟨g, 0, none⟩ : Addr).add j = ⟨g, j, none⟩ by rw [add_at, Nat.zero_add]]; rw [blk_cell hc]; simpa using hu) hu hd hi h

/-- What an operation that is no defer does in a round. -/
theorem wpIn_round_oper {K : Act → World → Prop} {l m : Nat} (hd : ∀ c, o.op ≠ .defer c) (h : o.wp P a w K Q) : o.wpIn (Fence.wide.inRound l) m P a w K Q := by
  refine ⟨fun _ _ => trivial, ?_⟩
  have hs : o.semAt (Fence.wide.inRound l).round a.eval = execOp a.eval o := Oper.semAt_some l _ _ hd
  rw [hs]
  unfold Oper.wp at h
  generalize (execOp a.eval o).run P w = r at h ⊢
  have hz : ¬ (Fence.wide.inRound l).depth.isSome = true := by intro h; cases h
  cases r with
  | ok x w' =>
    cases x <;> simp only [Oper.upon, Oper.uponIn] at h ⊢
    all_goals first | exact h | exact ⟨fun h => absurd h hz, CallsIn.inRound l (callsIn_wide.2 h)⟩ | exact ⟨fun h => absurd h hz, fun c cs _ => let ⟨v, w', r, s⟩ := h c cs; ⟨v, w', r, stepsIn_wide.2 s⟩⟩
  | halt x w' => cases x <;> simp only [Oper.upon, Oper.uponIn] at h ⊢ <;> exact h
theorem wpAnyIn_round {md : Region.Mode} {l m : Nat} (hdf : ∀ (i : Nat) (o : Oper), ops[i]? = some o → ∀ c, o.op ≠ .defer c) (hQ : ¬ LetsOut Q) : ∀ (fuel : Nat) (listed : Array Bool) (a : Act) (w : World), wpAny P md ops Q fuel listed a w → wpAnyIn (Fence.wide.inRound l) m P md ops Q fuel listed a w
  | 0, _, _, _, h => h
  | fuel + 1, listed, a, w, h => ⟨h.1, fun i hi => by
    have h2 := h.2 i hi
    unfold wpOp at h2
    unfold wpOpIn
    cases ho : ops[i]? with
    | none =>
      simp only [ho] at h2
      exact wpAnyIn_round hdf hQ fuel _ _ _ h2
    | some o =>
      simp only [ho] at h2
      simp only
      split
      · rename_i hw
        simp only [hw, if_true] at h2
        rcases h2 with h2 | ⟨_, h2⟩
        · exact wpIn_round_oper (hdf i o ho) (Oper.wp_mono (fun a w h => wpAnyIn_round hdf hQ fuel _ a w h) h2)
        · exact absurd h2 hQ
      · rename_i hw
        simp only [hw] at h2
        exact ⟨fun _ _ => trivial, wpAnyIn_round hdf hQ fuel _ _ _ h2⟩⟩
theorem startR_ {S : World → Prop} {ds : List Nat} {id k l m : Nat} (lst : Array Bool) (hm : P.follows .mixedOrders = true) (hn : ops.size = k) (hl : Array.replicate k false = lst) (hdf : ∀ (i : Nat) (o : Oper), ops[i]? = some o → ∀ c, o.op ≠ .defer c) (hQ : ¬ LetsOut Q) (hS : S w.drew)
    (h : S w.drew → wpAnyLast P .any ops Q S ds k lst a w.drew) : (Code.region id ops true).wpIn (Fence.wide.inRound l) m P Q a w := by
  subst hn
  subst hl
  exact wpIn_region_any hm (wpAnyIn_round hdf hQ _ _ _ _ (wpAny_of_last _ _ _ _ (h hS)))
end

set_option maxRecDepth 100000 in
set_option maxHeartbeats 4000000 in
theorem All1_in (n l Bs g base : Nat) (hn : 1 ≤ n) (xs : List S32) (v : Value) (ok S : Nat → Prop) (W : World) (hBs : W.cell? ⟨Bs, 0, none⟩ = some (.pointer (some ⟨g, 0, none⟩))) (hbox : BoxV W g base ok v xs) (hS1 : ∀ k, ok k → ¬ S k) (hS2 : ∀ k, W.heap.size ≤ k → ¬ S k) (hfit : ∀ x ∈ xs, Fits x) (hl : xs.length * 152 ≤ 140737488355328)
    (J : Nat → World → Prop) (Jx : World → Prop) (hJ : ∀ j A B, J j A → Below A.heap.size A B → J j B)
    (hY : ∀ (j : Nat) (W1 : World) (x : S32) (A : Option Addr) (c : Nat), J j W1 → j < xs.length → x = xs.getD j z32 → Kd.FK k32 W1 (fun k => W.heap.size ≤ k) x [.int .i64 x.f0, .int .i64 x.f1.f0, .int .i64 x.f1.f1, .int .u64 x.f1.f2, .int .i64 x.f1.f3, .int .u64 x.f1.f4, .int .u64 x.f1.f5, .int .u64 x.f1.f6, .int .i64 x.f1.f7, .int .i64 x.f1.f8, .string x.f1.f9, .string x.f1.f10, .string x.f1.f11, .slice A x.f1.f12.length c] → YieldAt Fence.wide (n - 1) Try.prog l #[.int .i64 (j : Int), .agg #[.int .i64 x.f0, .int .i64 x.f1.f0, .int .i64 x.f1.f1, .int .u64 x.f1.f2, .int .i64 x.f1.f3, .int .u64 x.f1.f4, .int .u64 x.f1.f5, .int .u64 x.f1.f6, .int .i64 x.f1.f7, .int .i64 x.f1.f8, .string x.f1.f9, .string x.f1.f10, .string x.f1.f11, .slice A x.f1.f12.length c]] W1 fun e W' =>
      (e = .returned (.bool true) ∧ J (j + 1) W' ∧ Kept W1 W' S) ∨ (e = .returned (.bool false) ∧ Jx W'))
    (h0 : J 0 W) : CallsIn Fence.wide n Try.prog 30 #[.func (.yield l) #[] #[], .pointer (some ⟨Bs, 0, none⟩)] W fun e W' => (∃ v, e = .returned v) ∧ (J xs.length W' ∨ Jx W') := by
  obtain ⟨A0, c0, rfl⟩ := hbox.slice
  have i1 : W.cell? ⟨g, 0, none⟩ = some (.slice A0 xs.length c0) := (blk_cell hbox.1 0).trans rfl
  have HCL := Lib.hid (CloneSend_calls A0 c0 xs W (fun b => ok b ∧ b < W.heap.size) (fun b => ¬ S b) (Kd.F_bound (Kd.N_F hbox.2.1)) (fun k hk => hS1 k hk.1) hS2 hl)
  have HS2 := Lib.hid hS2
  have HFA := Lib.hid hfit
  have HL := Lib.hid hl
  have HY := Lib.hid hY
  have H0 := Lib.hid h0
  clear hbox hS1 hfit hl hY h0 hS2
  refine callsIn_of_wp Try.func30 rfl trivial ?_ rfl
  simp only [Try.ntmps30, List.size_toArray, List.length_cons, List.length_nil, Nat.reduceAdd, Nat.reduceSub, Array.replicate_succ, Array.replicate_zero, List.push_toArray, List.append_toArray, List.nil_append, List.cons_append]
  gi_wp2_with (refine ⟨trivial, ?_⟩; gi_at_call 25; refine (callsIn_wide.2 HCL.out).mono ?_; rintro e w2 ⟨v2, rfl, hn2, hb2⟩; obtain ⟨A2, c2, rfl⟩ := Kd.N_slice hn2; have HN2 := Lib.hid (Kd.N_bound hn2); have HB2 := Lib.hid hb2; clear hn2 hb2)
  gi_loopw [13] (fun iv W1 => ∃ j : Int, iv = .int .i64 j ∧ 0 ≤ j ∧ j ≤ xs.length ∧ J j.toNat W1 ∧ W.heap.size ≤ W1.heap.size ∧ Kd.N k32 32 W1 W.heap.size (fun b => ¬ S b ∧ b < w2.heap.size) (.slice A2 xs.length c2) xs) (fun iv _ => xs.length - (intOf iv).toNat)
  case atStart => exact ⟨0, rfl, Int.le_refl _, by omega, hJ _ _ _ H0.out HB2.out, HB2.out.size, HN2.out⟩
  case round =>
    obtain ⟨j, rfl, hj0, hj, hjj, hws, hnn⟩ := hrel
    have HJ := Lib.hid hjj
    have HWS := Lib.hid hws
    have HNN := Lib.hid hnn
    by_cases hlt : j < (xs.length : Int)
    · have hjl : j.toNat < xs.length := by omega
      obtain ⟨ad, cx, hA2, hcl, hFK0, hcc, _⟩ := Kd.F_get (Kd.N_F hnn) z32 j hj0 hlt
      have HFIT := Lib.hid (HFA.out _ (getD_mem32 hjl))
      obtain ⟨x, hx⟩ : ∃ x, x = xs.getD j.toNat z32 := ⟨_, rfl⟩
      rw [← hx] at hFK0 HFIT
      have HX := Lib.hid hx
      obtain ⟨Ax, kx, rfl, _, _⟩ := k32_open (Kd.FK_now hFK0)
      have HFX := Lib.hid hFK0
      have HCC := Lib.hid (fun t u h => (by rw [add_add]; exact hcc t u h) : ∀ t u, [.int .i64 x.f0, .int .i64 x.f1.f0, .int .i64 x.f1.f1, .int .u64 x.f1.f2, .int .i64 x.f1.f3, .int .u64 x.f1.f4, .int .u64 x.f1.f5, .int .u64 x.f1.f6, .int .i64 x.f1.f7, .int .i64 x.f1.f8, .string x.f1.f9, .string x.f1.f10, .string x.f1.f11, .slice Ax x.f1.f12.length kx][t]? = some u → wr.cell? ((ad.add (j.toNat * 14)).add t) = some u)
      have HJN := Lib.hid hjl
      have HJC := Lib.hid (show ((j.toNat : Nat) : Int) = j by omega)
      have hjb : j ≤ 925904528653 := by have := HL.out; omega
      subst hA2
      clear hjj hws hnn hFK0 hcc hcl hx hj hjl
      gi_wp2_with (first | ((with_reducible refine gate_dstIn (N := 17) rfl ?_); refine wpListIn_load_at rfl 32 (.tmp 16) rfl (ad.add (j.toNat * 14)) rfl _ _ HCC.out Try.underlying32 rfl (by kernel_rfl) ?_) | ((with_reducible refine gate_dstIn (N := 4) rfl ?_); refine box_eventIn ?hg (N := 4) ?hd (cs := zS.cells) (t := 32) ?ha ?hf ?hr ?_; (case hd => rfl); (case hg => rfl); (case ha => rfl); (case hf => intro c hc; cases hc); (case hr => first | (go_simp; done) | (go_simp; rfl)); intro g4 hg w4 hz hb _; have HG4 := Lib.hid hg; have HZ4 := Lib.hid hz; have HB4 := Lib.hid hb; clear hg hz hb) | (refine wpListIn_store_row rfl rfl 32 (.tmp 4) (.tmp 17) rfl (g := g4) rfl rfl HZ4.out (by kernel_rfl) rfl (k32.K_one (Kd.FK_now HFX.out)) ?_; intro w5 hz hg; have HZ5 := Lib.hid hz; have HB5 := Lib.hid (Below.grown HB4.out hg HB4.out.size (fun b e => by injection e with e; have := HG4.out; omega)); have HFX5 := Lib.hid (Kd.FK_grown (Kd.FK_below (Kd.FK_bound HFX.out) HB4.out) hg (fun b hb e => by injection e with e; have := hb.2; have := HG4.out; omega)); clear hz hg) | ((with_reducible refine gate_dstIn (N := 20) rfl ?_); refine wpListIn_load_row rfl 32 (.tmp 4) rfl g4 rfl _ 32 _ HZ5.out Try.underlying32 rfl (by kernel_rfl) ?_))
      refine ⟨trivial, ?_⟩
      refine (callsIn_wide.2 (own_calls x _ w5 _ HFX5.out HFIT.out)).mono ?_
      rintro e w6 ⟨c', rfl, hfk, hb6⟩
      obtain ⟨A6, c6, rfl, _, _⟩ := k32_open (Kd.FK_now hfk)
      have HFK6 := Lib.hid hfk
      have HB6 := Lib.hid hb6
      have hJ6 := Lib.hid (hJ _ _ _ HJ.out (HB5.out.trans (hb6.mono HB5.out.size)))
      obtain ⟨fn, tmps, assign, body, hy, hR⟩ := HY.out j.toNat w6 x A6 c6 hJ6.out HJN.out HX.out (Kd.FK_mono hfk (fun k hk => by have := HB5.out.size; have := HWS.out; omega))
      rw [HJC.out] at hy

      clear hfk hb6
      gi_wp2
      refine hR.mono ?_
      rintro e W3 (⟨rfl, hJ3, hk3⟩ | ⟨rfl, hJx3⟩)
      · have hb56 := HB5.out.trans (HB6.out.mono HB5.out.size)
        have hn3 := Kd.N_kept (Kd.N_below HNN.out hb56) hk3 (fun k hk => hk.1)
        have HN3 := Lib.hid hn3
        have HS3 := Lib.hid (show W.heap.size ≤ W3.heap.size by have := HWS.out; have := hb56.size; have := hk3.1; omega)
        have HJ3 := Lib.hid hJ3
        clear hb56 hn3 hk3 hJ3
        gi_wp2
        go_roundw
        case rel => exact ⟨j + 1, rfl, by omega, by omega, by rw [show (j + 1).toNat = j.toNat + 1 by omega]; exact HJ3.out, HS3.out, HN3.out⟩
        case measure => simp [intOf]; omega
      · have HJX := Lib.hid hJx3
        clear hJx3
        gi_wp2
        refine bodyPost_ret (results_none rfl _ _ _) rfl ?_
        exact ⟨⟨_, rfl⟩, .inr HJX.out⟩
    · obtain rfl : j = xs.length := by omega
      rw [Int.toNat_natCast] at hjj
      have HJJ := Lib.hid hjj
      clear hjj hws hnn hj HJ HWS HNN
      gi_wp2
      go_end0
      exact ⟨⟨_, rfl⟩, .inl HJJ.out⟩
end Go.Proofs.Ytijbpncekdiodaa
