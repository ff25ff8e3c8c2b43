/- slices.Delete at sends: one element. -/
import Derived.Test.YtijbpncekdiodaaMb
import Derived.Deep.RegionLaw
namespace Go.Proofs.Ytijbpncekdiodaa
open Go.RowKit Go.Proofs.YtijbpncekdiodaaW.PrintWords Go.Proofs.YtijbpncekdiodaaW.PrintLast Go.Proofs.YtijbpncekdiodaaW.PrintMore
open Go.Proofs.Ytijbpncekdiodaa.PMailMoves

/-- 'clear' of one element of several cells. -/
theorem run_clear_one {P : Program} {w : World} {g o c : Nat} {t e t' : TypeId} {z : Value} {cur : Array Value} (ht : P.underlying t = some (.slice e)) (hz : (P.info? e).map (fun i => (i.zero, i.size)) = some (some z, z.cells.size))
    (hg : w.heap[g]? = some (.cells cur t' (0, 0))) (hfit : o + z.cells.size ≤ cur.size) (h1 : ∀ q ∈ z.cells.toList, q.oneCell' = true) (hzc : (Builtin.zeroCells z.cells 1).toList = z.cells.toList) (ty : TypeId) :
    (Builtin.clear_ #[t] ty #[.slice (some ⟨g, o, none⟩) 1 c]).run P w = .ok (.tuple #[]) (w.setCells g o z.cells.toList) := by
  have hst := run_storeCells_cells (P := P) g o z.cells.toList 0 w (fun j hj => by rw [Array.length_toList] at hj; rw [cell_of_row w g _ cur t' (0, 0) hg]; simp; omega) (fun j _ => blk_frozen hg _) h1
  simp only [Nat.add_zero] at hst
  have hv : ∀ w, (zeroValue e).run P w = .ok z w := by
    cases hq : P.info? e with
    | none => simp [hq] at hz
    | some i =>
      simp [hq] at hz
      exact fun w => by simp [zeroValue, typeInfo, hq, hz.1]
  simp [Builtin.clear_, run_underlying ht, hv, hzc, hst]

/-- What is written behind a row leaves it. -/
theorem N_tail {α : Type} {d : Kd α} {e base n cap g o : Nat} {ok : Nat → Prop} {w : World} {xs : List α} (h : Kd.N d e w base ok (.slice (some ⟨g, 0, none⟩) n cap) xs) (vs : List Value) (ho : n * d.sz ≤ o) (hfit : o + vs.length ≤ cap * d.sz) :
    Kd.N d e (w.setCells g o vs) base ok (.slice (some ⟨g, 0, none⟩) n cap) xs ∧ w.grownBy (w.setCells g o vs) (some g) := by
  obtain ⟨s1, s2, s3, s4⟩ := setCells_same g vs o w
  have hgr : w.grownBy (w.setCells g o vs) (some g) := ⟨s1, s2, s3, by rw [s4]; exact Nat.le_refl _, fun k _ hk => setCells_far vs o k (fun e => hk (by rw [e]))⟩
  refine ⟨?_, hgr⟩
  obtain ⟨h0, rows, hl, ⟨hR0, inner, hown, hreps⟩, hf⟩ := h
  refine ⟨h0, rows, hl, ⟨hR0, inner, ?_, hreps⟩, fun j x c hx hc => Kd.FK_step (hf j x c hx hc) (fun k hk hlt => hgr.block k hlt (fun e => hk.2 (by rw [e]; simp [Value.ownBlock])))⟩
  obtain ⟨h1, h2⟩ := hown
  refine ⟨h1, ?_⟩
  rcases h2 with ⟨hv, _⟩ | ⟨g', cap', cur, hv, hb, hh, hnc, hcm, hcs, ht⟩
  · cases hv
  · injection hv with ha hn hc
    injection ha with ha
    injection ha with hg'
    subst hg' hc
    have hnl : rows.length = n := hn.symm
    obtain ⟨cur', h3, h4, h5⟩ := setCells_row vs o w cur hh (by rw [hcs]; exact hfit)
    refine .inr ⟨g, cap, cur', by rw [hnl], hb, h3, hnc, hcm, by rw [h4]; exact hcs, ?_⟩
    have ho2 : rows.length * d.sz ≤ o := by rw [hnl]; exact ho
    have hlo : o ≤ cur.toList.length := by rw [Array.length_toList, hcs]; show o ≤ cap * d.sz; omega
    rw [h5, List.append_assoc, List.take_append_of_le_length (by rw [List.length_take, Nat.min_eq_left hlo]; exact ho2), List.take_take, Nat.min_eq_left (show rows.length * (Kd.raw d.sz).sz ≤ o from ho2)]
    exact ht

/-- The block of a row of one's own. -/
theorem N_block {α : Type} {d : Kd α} {e base n cap g : Nat} {ok : Nat → Prop} {w : World} {xs : List α} (h : Kd.N d e w base ok (.slice (some ⟨g, 0, none⟩) n cap) xs) : ∃ cur : Array Value, w.heap[g]? = some (.cells cur e (0, 0)) ∧ cur.size = cap * d.sz := by
  obtain ⟨_, rows, _, ⟨_, inner, hown, _⟩, _⟩ := h
  rcases hown.2 with ⟨hv, _⟩ | ⟨g', cap', cur, hv, hb, hh, hnc, hcm, hcs, ht⟩
  · cases hv
  · injection hv with ha hn hc
    injection ha with ha
    injection ha with hg'
    subst hg' hc
    exact ⟨cur, hh, hcs⟩

set_option maxRecDepth 100000 in
set_option maxHeartbeats 1000000 in
theorem Delete_calls (g cap : Nat) (l : List S32) (i : Int) (w : World) (base : Nat) (ok : Nat → Prop) (h : Kd.N k32 32 w base ok (.slice (some ⟨g, 0, none⟩) l.length cap) l) (h0 : 0 ≤ i) (hi : i < l.length) (hb : base ≤ w.heap.size) :
    Calls Try.prog 24 #[.slice (some ⟨g, 0, none⟩) l.length cap, .int .i64 i, .int .i64 (i + 1)] w fun e w' => ∃ n', e = .returned (.slice (some ⟨g, 0, none⟩) n' cap) ∧ Kd.N k32 32 w' base ok (.slice (some ⟨g, 0, none⟩) n' cap) (l.eraseIdx i.toNat) ∧ w.grownBy w' (some g) := by
  obtain ⟨hn, hc, hC⟩ := Kd.N_reads' h
  have hmax := hC.2.1
  obtain ⟨i0, hi0, hz0, hz1, hz2⟩ := info_parts info32
  have cT := cut_to (P := Try.prog) 22 32 .i64 Try.underlying22 hi0 (some ⟨g, 0, none⟩) l.length cap i h0 (by omega) hc
  have cF := cut_from (P := Try.prog) 22 32 .i64 Try.underlying22 hi0 14 hz1 (some ⟨g, 0, none⟩) l.length cap (i + 1) (by omega) (by omega)
  obtain ⟨k, hk⟩ : ∃ k, k = i.toNat := ⟨_, rfl⟩
  obtain ⟨AA, hAA⟩ : ∃ AA, AA = (if cap = k + 1 then some (⟨g, 0, none⟩ : Addr) else (some (⟨g, 0, none⟩ : Addr)).map (·.add ((k + 1) * k32.sz))) := ⟨_, rfl⟩
  rw [show (i + 1).toNat = k + 1 by omega] at cF
  rw [show (14 : Nat) = k32.sz from rfl, ← hAA] at cF
  rw [← hk] at cT ⊢
  have HAA := Lib.hid hAA
  have HK := Lib.hid hk
  have hkn : k < l.length := by omega
  clear hAA hk
  have hne : (i == i + 1) = false := by simp; omega
  have HN := Lib.hid h
  have HB := Lib.hid hb
  have HH := Lib.hid hi
  have c1 : i + 1 ≤ (l.length : Int) := by omega
  have c2 : (l.length : Int) ≤ (cap : Int) := by omega
  have c3 : i ≤ i + 1 := by omega
  clear h hb hC hn
  go_enter Try.func24, Try.ntmps24
  go_wp2_with fail
  go_region_law (refine Kd.N_delete_step k32 (w0 := w.drew) base (by rfl) (.tmp 22) (.tmp 25) 22 32 (by rfl) Try.underlying22 (by kernel_rfl) (g := g) (n := l.length) (c := cap) (k := k) (m := l.length - (k + 1)) (c2 := cap - (k + 1)) (A := AA) (xs := l) (ok := ok) (by rfl) (by rfl) HAA.out rfl (Kd.N_drew HN.out) hkn (Below.refl _ _) HB.out ?_; intro w1 hr hb hg; have HR := Lib.hid hr; have HG := Lib.hid hg; clear hr hb hg)
  all_goals (
    have hr := HR.out
    obtain ⟨m, hm⟩ : ∃ m, m = l.length - 1 := ⟨_, rfl⟩
    have hml : l.length = m + 1 := by omega
    rw [← hm] at hr ⊢
    obtain ⟨cur, hblk, hcur⟩ := N_block hr
    have hcap : l.length * 14 ≤ cap * 14 := Nat.mul_le_mul_right _ hc
    have hclr := run_clear_one (P := Try.prog) (c := cap - m) (o := m * 14) (z := zS) Try.underlying22 (by kernel_rfl) hblk (by rw [hcur]; show m * 14 + 14 ≤ cap * 14; omega) (one14 (x := z32) rfl) (by kernel_rfl)
    have cS : ∀ W : World, (Instr.slice 22 (.slice (some ⟨g, 0, none⟩) m cap) (some (.int .i64 (m : Int))) (some (.int .i64 (l.length : Int))) none).run Try.prog W = .ok (.slice (some ⟨g, m * 14, none⟩) 1 (cap - m)) W := by
      intro W
      have hel : Try.prog.elem 22 = 32 := by kernel_rfl
      have hu : Try.prog.underlying 22 = some (.slice (Try.prog.elem 22)) := by rw [hel]; exact Try.underlying22
      rw [run_slice_lh W 22 (some ⟨g, 0, none⟩) m cap hu .i64 .i64 (m : Int) (l.length : Int) (by omega) (by omega) (by omega), hel]
      have h1 : ¬ cap = m := by omega
      have h2 : l.length - m = 1 := by omega
      simp [sizeOf, typeInfo, hi0, hz1, sliced, Result.andThen, h1, h2, Addr.add]
      omega
    have HT := Lib.hid (N_tail hr zS.cells.toList (o := m * 14) (Nat.le_refl _) (by show m * 14 + 14 ≤ cap * 14; omega))
    generalize w1.setCells g (m * 14) zS.cells.toList = w2 at hclr HT
    have HGG := Lib.hid (show w.grownBy w1 (some g) from ⟨HG.out.os, HG.out.tape, HG.out.output, HG.out.size, HG.out.block⟩)
    clear hm hml hr hblk hcur hcap HR HG cT cF hkn HAA HK HN HB HH hne c1 c2 c3 hi h0 hc hi0 hz0 hz1 hz2
    go_wp2_with fail
    go_ret
    exact ⟨_, rfl, HT.out.1, HGG.out.trans HT.out.2⟩)
end Go.Proofs.Ytijbpncekdiodaa
