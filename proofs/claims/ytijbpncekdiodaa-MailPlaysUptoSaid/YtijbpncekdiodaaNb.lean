/- MailNil: a box that is nil. -/
import Derived.Test.YtijbpncekdiodaaNa
import Derived.RangeFuncNested
import Derived.RangeFuncBound
import Derived.RangeFuncCalls
import Derived.RangeFuncLeaves
import Derived.RangeFuncBox
import Derived.Shelf.Abstract
import Derived.Shelf.RegionOpen
import Derived.WalkKit
import Derived.OwnWalkIn
import Derived.TacticsInMore
import Derived.LoopNIn
import Derived.LoopIn
import Derived.Stop.RegionWithIn
namespace Go.Proofs.Ytijbpncekdiodaa
open Go.RowKit Go.Shelf Go.Proofs.YtijbpncekdiodaaW.PrintWords Go.Proofs.YtijbpncekdiodaaW.PrintLast Go.Proofs.YtijbpncekdiodaaW.PrintMore
open Go.Proofs.Ytijbpncekdiodaa.PMailMoves
set_option linter.unusedVariables false
set_option linter.unusedSimpArgs false
attribute [local go_sem] Oper.semAt_some

section
variable {F : Fence} {n : Nat} {P : Program} {ops : Array Oper} {rest : List Oper} {o : Oper} {a : Act} {Q : Exit → Act → World → Prop} {w w1 : World}
/-- An operation that is no call and no defer statement, inside a fence. -/
theorem wpListIn_event {v : Value} (hgd : o.guard = none) (hab : o.about P w a.eval = none) (hdf : ∀ c, o.op ≠ .defer c) (hrun : (execOp a.eval o).run P w = .ok (.value v) w1)
    (h : wpListIn F n P ops Q rest (a.put o.dst v) w1) : wpListIn F n P ops Q (o :: rest) a w := by
  refine wpListIn_plain hgd fun K hK => ?_
  refine ⟨fun f hf => (by rw [hab] at hf; exact absurd hf (by simp)), ?_⟩
  rw [Oper.semAt_plain F _ _ hdf, hrun]
  exact hK _ _ h
theorem wpListIn_skips (hgd : o.guard = none) (hab : o.about P w a.eval = none) (hdf : ∀ c, o.op ≠ .defer c) (hrun : (execOp a.eval o).run P w = .ok .skip w1)
    (h : wpListIn F n P ops Q rest (a.put o.dst undef) w1) : wpListIn F n P ops Q (o :: rest) a w := by
  refine wpListIn_plain hgd fun K hK => ?_
  refine ⟨fun f hf => (by rw [hab] at hf; exact absurd hf (by simp)), ?_⟩
  rw [Oper.semAt_plain F _ _ hdf, hrun]
  exact hK _ _ h
theorem gate_dstIn {N : Tmp} (_hN : o.dst = some N) (h : wpListIn F n P ops Q (o :: rest) a w) : wpListIn F n P ops Q (o :: rest) a w := h
theorem box_eventIn (hgd : o.guard = none) {N : Tmp} (_hd : o.dst = some N) {cs : Array Value} {t : TypeId} (hab : o.about P w a.eval = none) (hdf : ∀ c, o.op ≠ .defer c)
    (hrun : (execOp a.eval o).run P w = .ok (.value (.pointer (some ⟨w.heap.size, 0, none⟩))) (w.alloc (.cells cs t (0, 0))))
    (h : ∀ g, g = w.heap.size → ∀ w1, w1.heap[g]? = some (.cells cs t (0, 0)) → Below w.heap.size w w1 → KeepsOthers w w1 → wpListIn F n P ops Q rest (a.put o.dst (.pointer (some ⟨g, 0, none⟩))) w1) : wpListIn F n P ops Q (o :: rest) a w :=
  wpListIn_event hgd hab hdf hrun (h _ rfl _ (blk_new w _) (below_alloc (Below.refl _ _) _) (KeepsOthers.alloc _ _))
theorem wpListIn_store_row (hgd : o.guard = none) (hN : o.dst = none) (ty : TypeId) (x y : Operand) (ho : o.op = .store ty x y) {g t : Nat} {cs cs' : Array Value} (hx : a.eval x = .pointer (some ⟨g, 0, none⟩)) (hy : a.eval y = .agg cs')
    (hg : w.heap[g]? = some (.cells cs t (0, 0))) (hi : (P.info? ty).map (·.size) = some cs'.size) (hsz : cs.size = cs'.size) (h1 : ∀ q ∈ cs'.toList, q.oneCell' = true)
    (h : ∀ w1, w1.heap[g]? = some (.cells cs' t (0, 0)) → w.grownBy w1 (some g) → wpListIn F n P ops Q rest a w1) : wpListIn F n P ops Q (o :: rest) a w := by
  obtain ⟨w1, hr, h2, h3⟩ := run_store_row (P := P) hg hi hsz h1
  have h4 := h w1 h2 h3
  refine wpListIn_skips (w1 := w1) hgd (by simp [Oper.about, ho]) (by rw [ho]; intro c hc; cases hc) (by simp only [execOp, ho, hx, hy, Sem.run_bind, Sem.run_pure, Result.andThen_ok, hr]) ?_
  show wpListIn F n P ops Q rest (a.put o.dst undef) w1
  rw [hN]
  exact h4
end

theorem cell_new_l (W : World) (v : Value) (t : TypeId) : (W.alloc (.cells #[v] t)).cell? ⟨W.heap.size, 0, none⟩ = some v ∧ (W.alloc (.cells #[v] t)).frozen? ⟨W.heap.size, 0, none⟩ = false := by
  constructor <;> simp
theorem cell_alloc_l {W : World} {a : Addr} {v : Value} (o : Obj) (h : W.cell? a = some v) : (W.alloc o).cell? a = some v := cell_kept h (World.grownBy_alloc W o none) (fun r e => by cases e)
theorem frozen_alloc_l {W : World} {a : Addr} {v : Value} (o : Obj) (h : W.cell? a = some v) (hf : W.frozen? a = false) : (W.alloc o).frozen? a = false := (frozen_kept h (World.grownBy_alloc W o none) (fun r e => by cases e)).trans hf
theorem Put_nil (A : Option Addr) (m c : Nat) (w : World) : Calls Try.prog 10 #[.pointer none, .slice A m c] w fun e w' => e = .returned (.int .i64 0) ∧ w = w' := by
  go_enter Try.func10, Try.ntmps10
  go_wp2_with fail
  go_ret
  exact ⟨rfl, rfl⟩
theorem All_calls (p : Option Addr) (w : World) : Calls Try.prog 20 #[.pointer p] w fun e w' => e = .returned (.func (.func 30) #[] #[.pointer (some ⟨w.heap.size, 0, none⟩)]) ∧ w' = w.alloc (.cells #[.pointer p] 24) := by
  go_enter Try.func20, Try.ntmps20
  go_wp2_with fail
  go_ret
  exact ⟨rfl, rfl⟩
theorem All1_nil (n l Bs : Nat) (W : World) (hB : W.cell? ⟨Bs, 0, none⟩ = some (.pointer none)) : CallsIn Fence.wide n Try.prog 30 #[.func (.yield l) #[] #[], .pointer (some ⟨Bs, 0, none⟩)] W fun e W' => (∃ v, e = .returned v) ∧ W' = W := by
  refine callsIn_of_wp Try.func30 rfl trivial ?_ rfl
  simp only [Try.ntmps30, List.size_toArray, List.length_cons, List.length_nil, Nat.reduceAdd, Nat.reduceSub, Array.replicate_succ, Array.replicate_zero, List.push_toArray, List.append_toArray, List.nil_append, List.cons_append]
  gi_wp2
  refine bodyPost_ret (results_none rfl _ _ _) rfl ?_
  exact ⟨⟨_, rfl⟩, rfl⟩
theorem All_nil_stops (n Bs n₀ : Nat) (w : World) (hB : w.cell? ⟨Bs, 0, none⟩ = some (.pointer none)) (hlt : Bs < w.heap.size) :
    SeqStopsK Fence.wide n Try.prog 30 #[.pointer (some ⟨Bs, 0, none⟩)] (fun _ : Unit => #[undef, undef]) (Below n₀) (fun ys => ys = []) (fun _ => False) 0 w := fun l J Jx W hW hJ _ hY h0 =>
  (All1_nil n l Bs W ((hW.cell (p := ⟨Bs, 0, none⟩) hlt).trans hB)).mono (by rintro e W' ⟨hv, rfl⟩; exact ⟨hv, .inl ⟨[], rfl, h0⟩⟩)

set_option maxRecDepth 100000 in
set_option maxHeartbeats 4000000 in
theorem mailNil_fin (i : Int) (w : World) : Calls Try.prog 7 #[.int .i64 i] w fun e w' => e = .returned (.bool true) ∧ Below w.heap.size w w' := by
  refine (callsIn_wide (n := 6)).1 ?_
  refine callsIn_of_wp_marks Try.func7 rfl trivial ?_ rfl
  simp only [Try.ntmps7, List.size_toArray, List.length_cons, List.length_nil, Nat.reduceAdd, Nat.reduceSub, Array.replicate_succ, Array.replicate_zero, List.push_toArray, List.append_toArray, List.nil_append, List.cons_append]
  gi_wp2_with (first | (refine ⟨trivial, ?_⟩; gi_at_call 8; refine (callsIn_wide.2 (shown_calls _)).mono ?_; rintro e w1 ⟨rfl, hb1⟩; have HB1 := Lib.hid hb1; clear hb1) | (refine ⟨trivial, ?_⟩; gi_at_call 10; refine (callsIn_wide.2 (Put_nil _ _ _ _)).mono ?_; rintro e w2 ⟨rfl, hw2⟩; have HB2 := Lib.hid (show Below w.heap.size w w2 from hw2 ▸ below_alloc HB1.out _); clear hw2) | (refine ⟨trivial, ?_⟩; gi_at_call 11; refine (callsIn_wide.2 (Take_nil _ _)).mono ?_; rintro e w3 ⟨rfl, hb3⟩; have HB3 := Lib.hid (HB2.out.trans (hb3.mono HB2.out.size)); clear hb3) | ((with_reducible refine gate_dstIn (N := 6) rfl ?_); refine box_eventIn ?hg (N := 6) ?hd (cs := zS.cells) (t := 32) ?ha ?hf ?hr ?_; (case hd => rfl); (case hg => rfl); (case ha => rfl); (case hf => intro c hc; cases hc); (case hr => first | (go_simp; done) | (go_simp; rfl)); intro g6 hg w4 hz hb _; have HZ4 := Lib.hid hz; have Hg6 := Lib.hid hg; have HB4 := Lib.hid (HB3.out.trans (hb.mono HB3.out.size)); clear hb hg hz) | (refine wpListIn_store_row rfl rfl 32 (.tmp 6) (.tmp 24) rfl (g := g6) rfl rfl HZ4.out (by kernel_rfl) rfl (one14 (x := z32) rfl) ?_; intro w5 hz hg; have HB5 := Lib.hid (Below.grown HB4.out hg (by have := HB4.out.size; omega) (fun k e => by injection e with e; have := Hg6.out; have := HB3.out.size; omega)); clear hz hg) | (refine ⟨trivial, ?_⟩; gi_at_call 15; refine (callsIn_wide.2 (Copy_nil _ _)).mono ?_; rintro e w6 ⟨rfl, hb6⟩; have HB6 := Lib.hid (HB5.out.trans (hb6.mono HB5.out.size)); clear hb6) | (refine ⟨trivial, ?_⟩; gi_at_call 14; refine (callsIn_wide.2 (Peek_nil _ _)).mono ?_; rintro e w7 ⟨rfl, hb7⟩; have HB7 := Lib.hid (HB6.out.trans (hb7.mono HB6.out.size)); clear hb7) | ((with_reducible refine gate_dstIn (N := 9) rfl ?_); refine box_eventIn ?hg (N := 9) ?hd (cs := zS.cells) (t := 32) ?ha ?hf ?hr ?_; (case hd => rfl); (case hg => rfl); (case ha => rfl); (case hf => intro c hc; cases hc); (case hr => first | (go_simp; done) | (go_simp; rfl)); intro g9 hg w8 hz hb _; have HZ8 := Lib.hid hz; have Hg9 := Lib.hid hg; have HB8 := Lib.hid (HB7.out.trans (hb.mono HB7.out.size)); clear hb hg hz) | (refine wpListIn_store_row rfl rfl 32 (.tmp 9) (.tmp 33) rfl (g := g9) rfl rfl HZ8.out (by kernel_rfl) rfl (one14 (x := z32) rfl) ?_; intro w9 hz hg; have HB9 := Lib.hid (Below.grown HB8.out hg (by have := HB8.out.size; omega) (fun k e => by injection e with e; have := Hg9.out; have := HB7.out.size; omega)); clear hz hg) | (refine ⟨trivial, ?_⟩; gi_at_call 20; refine (callsIn_wide.2 (All_calls _ _)).mono ?_; rintro e w10 ⟨rfl, rfl⟩; skip))
  have hc0 := cell_new_l w9 (.int .i64 0) 3
  have hb0 := cell_new_l (w9.alloc (.cells #[.int .i64 0] 3)) (.pointer none) 24
  rw [World.size_alloc] at hb0
  have hB0 : Below w.heap.size w ((w9.alloc (.cells #[.int .i64 0] 3)).alloc (.cells #[.pointer none] 24)) := below_alloc (below_alloc HB9.out _) _
  have hs9 : w.heap.size ≤ w9.heap.size := HB9.out.size
  refine wpIn_rangeFunc_ownF (n := 6) rfl (by decide) (gf := 30) (lb := #[.pointer (some ⟨w9.heap.size + 1, 0, none⟩)]) rfl trivial (enters_of Try.func30 (by kernel_rfl) rfl)
    (All_nil_stops 5 (w9.heap.size + 1) w.heap.size _ hb0.1 (by simp)) belowK_t (belowK_b (by simp; omega)) (Below.refl _ _) (fun _ => rfl)
    (fun _ W => (W.cell? ⟨w9.heap.size, 0, none⟩ = some (.int .i64 0) ∧ W.frozen? ⟨w9.heap.size, 0, none⟩ = false) ∧ Below w.heap.size w W)
    (fun _ _ _ => False)
    (OwnFrom.and (Own.from (fun s A B row hs hg hr => ⟨cell_kept hs.1 hg hr, (frozen_kept hs.1 hg hr).trans hs.2⟩) _) (ownFrom_below (Nat.le_refl _) (by simp; omega)))
    (fun _ _ _ _ _ hs _ _ => hs)
    ⟨⟨cell_alloc_l _ hc0.1, frozen_alloc_l _ hc0.1 hc0.2⟩, hB0⟩
    (fun x => ?a1) ?assign ?body ?done ?stop
  case assign =>
    intro l x W K hK
    gi_wp2
    exact hK
  case body => exact fun l pre x W _ h => absurd h (Nat.not_lt_zero _)
  case done =>
    rintro D ys W hD rfl ⟨⟨hc, _⟩, hB⟩ hK
    gi_wp2_with (refine ⟨trivial, ?_⟩; gi_at_call 12; refine (callsIn_wide.2 (Len_nil _)).mono ?_; rintro e w11 ⟨rfl, rfl⟩)
    refine ⟨by simp, .inl ⟨_, _, rfl, run_takeDeferred hK, ?_⟩⟩
    exact ⟨_, results_tmp rfl _ _ _, rfl, hB.trans (belowK_b (w := w) (Nat.le_refl _) W D _ _ (by simp at hD; omega) hK rfl rfl)⟩
  case stop =>
    rintro D c pre W _ h _ _
    exact h.elim
end Go.Proofs.Ytijbpncekdiodaa
