/- An act, opened; what it weighs. Laid by gen_pf.py. -/
import Derived.Test.YtijbpncekdiodaaRa
import Derived.Test.YtijbpncekdiodaaPe
namespace Go.Proofs.Ytijbpncekdiodaa
open Go.ChangeShapes Go.WideShapes Go.Deep Go.RowKit Go.Proofs.YtijbpncekdiodaaW.PrintWords Go.Proofs.YtijbpncekdiodaaW.PrintLast Go.Proofs.YtijbpncekdiodaaW.PrintMore
open Go.Proofs.Ytijbpncekdiodaa.PMailMoves

set_option maxRecDepth 100000 in
theorem open50 {H : Type} {enc : TypeId × Value → H} {w : World} (fuel : Nat) (cs : List Value) (y : DataW H × List MemPlace) (h : DataW.trod enc Try.prog w 0 (fun _ => true) true fuel 50 cs = some y) :
    ∃ a : S50, k50.K w a cs ∧ True ∧ wt50 a ≤ Rows.uptoBulk y.1 := by
  obtain ⟨ys, k, _, hy, hlen, hyl, hf⟩ := DataW.trod_struct Try.underlying50 h
  subst hy
  have hlen : cs.length = 3 := hlen.trans (by kernel_rfl)
  have hyn : ys.length = 3 := hyl
  match cs, hlen with
  | [c0, c1, c2], _ =>
  match ys, hyn with
  | [y0, y1, y2], _ =>
    have g0 : DataW.trod enc Try.prog w 0 (fun _ => true) true k 3 [c0] = some y0 := by
      have g : DataW.trod enc Try.prog w 0 (fun _ => true) true k 3 ((([c0, c1, c2] : List Value).drop 0).take (Try.prog.cellsOf 3)) = some y0 := hf 0 _ rfl
      rw [show Try.prog.cellsOf _ = 1 from (by kernel_rfl : Try.prog.cellsOf 3 = 1)] at g
      exact g
    obtain ⟨n0, e0, _, _⟩ := DataW.trod_int (k := .i64) Try.underlying3 g0
    injection e0 with e0
    have g1 : DataW.trod enc Try.prog w 0 (fun _ => true) true k 3 [c1] = some y1 := by
      have g : DataW.trod enc Try.prog w 0 (fun _ => true) true k 3 ((([c0, c1, c2] : List Value).drop 1).take (Try.prog.cellsOf 3)) = some y1 := hf 1 _ rfl
      rw [show Try.prog.cellsOf _ = 1 from (by kernel_rfl : Try.prog.cellsOf 3 = 1)] at g
      exact g
    obtain ⟨n1, e1, _, _⟩ := DataW.trod_int (k := .i64) Try.underlying3 g1
    injection e1 with e1
    have g2 : DataW.trod enc Try.prog w 0 (fun _ => true) true k 22 [c2] = some y2 := by
      have g : DataW.trod enc Try.prog w 0 (fun _ => true) true k 22 ((([c0, c1, c2] : List Value).drop 2).take (Try.prog.cellsOf 22)) = some y2 := hf 2 _ rfl
      rw [show Try.prog.cellsOf _ = 1 from (by kernel_rfl : Try.prog.cellsOf 22 = 1)] at g
      exact g
    obtain ⟨A2, len2, cap2, xs2, e2, hl2, hC2, hc2, _, _, W2⟩ := open_sliceK k32 z32 (fun _ => True) wtS Try.underlying22 (by kernel_rfl) open32 g2
    injection e2 with e2
    subst hl2
    subst e0 e1 e2
    refine ⟨⟨n0, n1, xs2⟩, k50_mk w ⟨n0, n1, xs2⟩ hc2 hC2, trivial, ?_⟩
    simp only [List.map_cons, List.map_nil, Rows.uptoBulk, Rows.uptoBulkAll]
    show (xs2.map fun x => x.f1.f12.length + 1).sum + 1 ≤ _
    have hw : (xs2.map wtS).sum = (xs2.map fun x => x.f1.f12.length + 1).sum := rfl
    omega
end Go.Proofs.Ytijbpncekdiodaa
