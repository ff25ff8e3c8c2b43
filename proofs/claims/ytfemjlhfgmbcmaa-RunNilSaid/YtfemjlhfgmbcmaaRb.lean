/- Arguments that are slices of a run's rows, opened. -/
import Derived.Test.YtfemjlhfgmbcmaaRa
import Derived.Test.YtfemjlhfgmbcmaaVc
namespace Go.Proofs.Ytfemjlhfgmbcmaa
open Go.ChangeShapes Go.WideShapes Go.Deep Go.RowKit Go.Proofs.YtfemjlhfgmbcmaaW.PrintWords Go.Proofs.YtfemjlhfgmbcmaaW.PrintLast Go.Proofs.YtfemjlhfgmbcmaaW.PrintMore
open Go.Proofs.Ytfemjlhfgmbcmaa.PRunBuilds
set_option linter.unusedVariables false

theorem trod_bool1 {H : Type} {enc : TypeId × Value → H} {P : Program} {w : World} {t : TypeId} (hu : P.underlying t = some .bool) {n : Nat} {c : Value} {y : DataW H × List MemPlace} (h : DataW.trod enc P w 0 (fun _ => true) true n t [c] = some y) : ∃ b, c = .bool b := by
  obtain ⟨b, e, _⟩ := DataW.trod_bool hu h
  simp only [List.cons.injEq, and_true] at e
  exact ⟨b, e⟩
set_option maxRecDepth 100000 in
theorem open38 {H : Type} {enc : TypeId × Value → H} (w : World) : ∀ n cs (y : DataW H × List MemPlace), DataW.trod enc Try.prog w 0 (fun _ => true) true n 38 cs = some y → ∃ a, k38.K w a cs := by
  intro n cs y h
  obtain ⟨ys, m, _, _, hlen, hyl, hf⟩ := DataW.trod_struct Try.underlying38 h
  have hlen2 : cs.length = 2 := hlen.trans (by kernel_rfl)
  have hy2 : ys.length = 2 := hyl
  match cs, hlen2 with
  | [c0, c1], _ =>
  match ys, hy2 with
  | [y0, y1], _ =>
    have g0 : DataW.trod enc Try.prog w 0 (fun _ => true) true m 9 ((([c0, c1] : List Value).drop 0).take (Try.prog.cellsOf 9)) = some y0 := hf 0 _ rfl
    have g1 : DataW.trod enc Try.prog w 0 (fun _ => true) true m 4 ((([c0, c1] : List Value).drop 1).take (Try.prog.cellsOf 4)) = some y1 := hf 1 _ rfl
    rw [show Try.prog.cellsOf 9 = 1 by kernel_rfl] at g0
    rw [show Try.prog.cellsOf 4 = 1 by kernel_rfl] at g1
    obtain ⟨s, e0, _⟩ := open_str1 Try.underlying9 _ _ _ g0
    replace e0 : [c0] = [Value.string s] := e0
    obtain ⟨b, e1⟩ := trod_bool1 Try.underlying4 g1
    simp only [List.cons.injEq, and_true] at e0
    subst e0 e1
    exact ⟨⟨s, b⟩, k38_mk w ⟨s, b⟩⟩
set_option maxRecDepth 100000 in
theorem open54 {H : Type} {enc : TypeId × Value → H} (w : World) : ∀ n cs (y : DataW H × List MemPlace), DataW.trod enc Try.prog w 0 (fun _ => true) true n 54 cs = some y → ∃ a, k54.K w a cs ∧ True ∧ 1 ≤ Rows.uptoBulk y.1 := by
  intro n cs y h
  obtain ⟨ys, m, _, _, hlen, hyl, hf⟩ := DataW.trod_struct Try.underlying54 h
  have hlen3 : cs.length = 3 := hlen.trans (by kernel_rfl)
  have hy2 : ys.length = 2 := hyl
  match cs, hlen3 with
  | [c0, c1, c2], _ =>
  match ys, hy2 with
  | [y0, y1], _ =>
    have g0 : DataW.trod enc Try.prog w 0 (fun _ => true) true m 9 ((([c0, c1, c2] : List Value).drop 0).take (Try.prog.cellsOf 9)) = some y0 := hf 0 _ rfl
    have g1 : DataW.trod enc Try.prog w 0 (fun _ => true) true m 38 ((([c0, c1, c2] : List Value).drop 1).take (Try.prog.cellsOf 38)) = some y1 := hf 1 _ rfl
    rw [show Try.prog.cellsOf 9 = 1 by kernel_rfl] at g0
    rw [show Try.prog.cellsOf 38 = 2 by kernel_rfl] at g1
    obtain ⟨s, e0, _⟩ := open_str1 Try.underlying9 _ _ _ g0
    replace e0 : [c0] = [Value.string s] := e0
    obtain ⟨x, hx⟩ := open38 w _ _ _ g1
    have hx2 : [c1, c2] = [Value.string x.f0, .bool x.f1] := k38_open hx
    simp only [List.cons.injEq, and_true] at e0 hx2
    obtain ⟨rfl, rfl⟩ := hx2
    subst e0
    exact ⟨⟨s, x⟩, k54_mk w ⟨s, x⟩, trivial, bulk_pos _⟩
theorem sum_ones {α : Type} (l : List α) : (l.map fun _ => 1).sum = l.length := by
  induction l with
  | nil => rfl
  | cons x l ih => simp only [List.map_cons, List.sum_cons, List.length_cons, ih]; omega
theorem and_mk {a b : Bool} (h1 : a = true) (h2 : b = true) : (a && b) = true := by rw [h1, h2]; rfl
set_option maxRecDepth 100000 in
theorem p_mayEnter : Try.pinned.checked.prog.mayEnter = true := by kernel_rfl
set_option maxRecDepth 100000 in
theorem p_lifted : (Rows.runBlocksUptoRow.lifted == Try.pinned.checked.prog.liftsFinal) = true := by kernel_rfl
set_option maxRecDepth 100000 in
theorem p_make : (Try.pinned.checked.prog.make == some Rows.runBlocksUptoRow.make) = true := by kernel_rfl
end Go.Proofs.Ytfemjlhfgmbcmaa
