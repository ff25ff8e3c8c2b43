/- Arguments that are slices of sends, opened; what they weigh. The first half as in the other seat's Ra. Laid by gen_mr.py. -/
import Derived.Test.YtijbpncekdiodaaRows
import Derived.Test.YtijbpncekdiodaaMh
import Derived.Deep.Slices
import Derived.Deep.Fields
import Derived.ChangeSame
import Derived.WalkKit
import Derived.ProofKit
import Derived.OpenShut
import Derived.ShutString
import Derived.ChangeOld
import Derived.SizedLaws
import Derived.JoinedCond
namespace Go.Proofs.Ytijbpncekdiodaa
open Go.ChangeShapes Go.WideShapes Go.Deep Go.RowKit Go.Proofs.YtijbpncekdiodaaW.PrintWords Go.Proofs.YtijbpncekdiodaaW.PrintLast Go.Proofs.YtijbpncekdiodaaW.PrintMore
open Go.Proofs.Ytijbpncekdiodaa.PMailMoves

theorem bulk_pos {H : Type} (d : DataW H) : 1 ≤ Rows.uptoBulk d := by
  cases d with
  | lit l => cases l <;> simp [Rows.uptoBulk]
  | nil => simp [Rows.uptoBulk]
  | ptr d => simp [Rows.uptoBulk]
  | slice elems spare => simp [Rows.uptoBulk]
  | agg parts => simp [Rows.uptoBulk]
  | iface t d => simp [Rows.uptoBulk]
  | map entries => simp [Rows.uptoBulk]
  | held h => simp [Rows.uptoBulk]
theorem bulk_map {H : Type} {α : Type} (D : Nat → DataW H) (wt : α → Nat) (f : Nat → α) : ∀ (l : List Nat), (∀ i ∈ l, wt (f i) ≤ Rows.uptoBulk (D i)) → (l.map fun i => wt (f i)).sum ≤ Rows.uptoBulkAll (l.map D)
  | [], _ => by simp
  | i :: l, h => by
    have h1 := h i (by simp)
    have h2 := bulk_map D wt f l (fun j hj => h j (by simp [hj]))
    simp only [List.map_cons, List.sum_cons, Rows.uptoBulkAll]
    omega

theorem open_sliceK {H : Type} {enc : TypeId × Value → H} {P : Program} {w : World} {α : Type} (d : Kd α) (z : α) (Inv : α → Prop) (wt : α → Nat) {t e : TypeId} {fuel : Nat} {cs : List Value} {x : DataW H × List MemPlace}
    (ht : P.underlying t = some (.slice e)) (hC : P.cellsOf e = d.sz)
    (hopen : ∀ n cs (y : DataW H × List MemPlace), DataW.trod enc P w 0 (fun _ => true) true n e cs = some y → ∃ a, d.K w a cs ∧ Inv a ∧ wt a ≤ Rows.uptoBulk y.1)
    (h : DataW.trod enc P w 0 (fun _ => true) true fuel t cs = some x) :
    ∃ A len cap xs, cs = [.slice A len cap] ∧ xs.length = len ∧ Kd.C d w A len xs ∧ len ≤ cap ∧ len ≤ 9223372036854775807 ∧ (∀ a ∈ xs, Inv a) ∧ (xs.map wt).sum + 1 ≤ Rows.uptoBulk x.1 := by
  rcases open_slice ht h with ⟨h1, h2⟩ | ⟨a, len, cap, m, n, D, Pl, rfl, hb, hl, hm, hmm, rfl, hx⟩
  · subst h2
    exact ⟨none, 0, 0, [], h1, rfl, ⟨rfl, by omega, fun h => by omega⟩, by omega, by omega, by simp, by simp [Rows.uptoBulk]⟩
  · have hmc : m = cap := by rw [hmm]; simp
    subst hmc
    have each : ∀ i, i < m → ∃ q : α, (∃ c, c.length = d.sz ∧ d.K w q c ∧ ∀ j u, c[j]? = some u → w.cell? (a.add (i * d.sz + j)) = some u) ∧ Inv q ∧ wt q ≤ Rows.uptoBulk (D i) := by
      intro i hi
      obtain ⟨cs', hc, ht'⟩ := hx i hi
      obtain ⟨q, hK, hI, hw⟩ := hopen n cs' _ ht'
      obtain ⟨_, hlen, hcell⟩ := World.cells?_some hc
      rw [hC] at hlen hcell
      refine ⟨q, ⟨cs', hlen, hK, fun j u hu => ?_⟩, hI, hw⟩
      have hj : j < d.sz := by rw [← hlen]; exact (List.getElem?_eq_some_iff.1 hu).1
      have := hcell j hj
      rw [Go.Deep.add_add] at this
      rw [this, hu]
    haveI : Inhabited α := ⟨z⟩
    obtain ⟨F, hF⟩ := choose_lt each
    have hml : m ≤ 9223372036854775807 := by unfold maxLen at hm; omega
    refine ⟨some a, len, m, (List.range len).map F, rfl, by simp, ⟨by simp, by omega, fun _ => ⟨a, rfl, fun j p hj => ?_⟩⟩, hl, by omega, ?_, ?_⟩
    · have hjl : j < len := by
        have := (List.getElem?_eq_some_iff.1 hj).1
        simpa using this
      have hp : F j = p := by simpa [hjl] using hj
      obtain ⟨⟨c, h1, h2, h3⟩, _⟩ := hF j (by omega)
      rw [hp] at h2
      exact ⟨c, h1, h2, h3⟩
    · intro q hq
      obtain ⟨i, hi, rfl⟩ := List.mem_map.1 hq
      exact (hF i (by have := List.mem_range.1 hi; omega)).2.1
    · have := bulk_map D wt F (List.range len) (fun i hi => (hF i (by have := List.mem_range.1 hi; omega)).2.2)
      simp only [Rows.uptoBulk, List.map_map]
      have e : (List.map (wt ∘ F) (List.range len)).sum = (List.map (fun i => wt (F i)) (List.range len)).sum := rfl
      rw [e]
      omega

theorem open_str1 {H : Type} {enc : TypeId × Value → H} {P : Program} {w : World} {t : TypeId} (ht : P.underlying t = some .string) :
    ∀ n cs (y : DataW H × List MemPlace), DataW.trod enc P w 0 (fun _ => true) true n t cs = some y → ∃ s : ByteArray, Kd.string.K w s cs ∧ s.size ≤ 9223372036854775807 ∧ s.size + 1 ≤ Rows.uptoBulk y.1 := by
  intro n cs y h
  obtain ⟨s, rfl, rfl, hs⟩ := DataW.trod_string ht h
  refine ⟨s, rfl, by unfold maxLen at hs; omega, ?_⟩
  simp [Rows.uptoBulk]

theorem upto_bound {H : Type} {l : List (DataW H)} (hk : Rows.uptoSmall H l = true) : Rows.uptoBulkAll l ≤ 1048576 := of_decide_eq_true hk
set_option maxRecDepth 100000 in
theorem open39 {H : Type} {enc : TypeId × Value → H} {w : World} (fuel : Nat) (cs : List Value) (y : DataW H × List MemPlace) (h : DataW.trod enc Try.prog w 0 (fun _ => true) true fuel 39 cs = some y) :
    ∃ a : S39, k39.K w a cs ∧ True ∧ 1 ≤ Rows.uptoBulk y.1 := by
  obtain ⟨ys, k, _, hy, hlen, hyl, hf⟩ := DataW.trod_struct Try.underlying39 h
  subst hy
  have hlen : cs.length = 3 := hlen.trans (by kernel_rfl)
  have hyn : ys.length = 3 := hyl
  match cs, hlen with
  | [c0, c1, c2], _ =>
  match ys, hyn with
  | [y0, y1, y2], _ =>
    have g0 : DataW.trod enc Try.prog w 0 (fun _ => true) true k 3 [c0] = some y0 := by
      have g : DataW.trod enc Try.prog w 0 (fun _ => true) true k 3 ((([c0, c1, c2] : List Value).drop 0).take (Try.prog.cellsOf 3)) = some y0 := hf 0 _ rfl
      rw [show Try.prog.cellsOf _ = 1 from (by kernel_rfl : Try.prog.cellsOf 3 = 1)] at g
      exact g
    obtain ⟨n0, e0, _, _⟩ := DataW.trod_int (k := .i64) Try.underlying3 g0
    injection e0 with e0
    have g1 : DataW.trod enc Try.prog w 0 (fun _ => true) true k 2 [c1] = some y1 := by
      have g : DataW.trod enc Try.prog w 0 (fun _ => true) true k 2 ((([c0, c1, c2] : List Value).drop 1).take (Try.prog.cellsOf 2)) = some y1 := hf 1 _ rfl
      rw [show Try.prog.cellsOf _ = 1 from (by kernel_rfl : Try.prog.cellsOf 2 = 1)] at g
      exact g
    obtain ⟨n1, e1, _, _⟩ := DataW.trod_int (k := .i64) Try.underlying2 g1
    injection e1 with e1
    have g2 : DataW.trod enc Try.prog w 0 (fun _ => true) true k 9 [c2] = some y2 := by
      have g : DataW.trod enc Try.prog w 0 (fun _ => true) true k 9 ((([c0, c1, c2] : List Value).drop 2).take (Try.prog.cellsOf 9)) = some y2 := hf 2 _ rfl
      rw [show Try.prog.cellsOf _ = 1 from (by kernel_rfl : Try.prog.cellsOf 9 = 1)] at g
      exact g
    obtain ⟨m2, e2, _, _⟩ := open_str1 Try.underlying9 _ _ _ g2
    replace e2 : [c2] = [Value.string m2] := e2
    injection e2 with e2
    subst e0 e1 e2
    refine ⟨⟨n0, n1, m2⟩, k39_mk w ⟨n0, n1, m2⟩, trivial, ?_⟩
    exact bulk_pos _

set_option maxRecDepth 100000 in
theorem open41 {H : Type} {enc : TypeId × Value → H} {w : World} (fuel : Nat) (cs : List Value) (y : DataW H × List MemPlace) (h : DataW.trod enc Try.prog w 0 (fun _ => true) true fuel 41 cs = some y) :
    ∃ a : S41, k41.K w a cs ∧ True ∧ 1 ≤ Rows.uptoBulk y.1 := by
  obtain ⟨ys, k, _, hy, hlen, hyl, hf⟩ := DataW.trod_struct Try.underlying41 h
  subst hy
  have hlen : cs.length = 4 := hlen.trans (by kernel_rfl)
  have hyn : ys.length = 2 := hyl
  match cs, hlen with
  | [c0, c1, c2, c3], _ =>
  match ys, hyn with
  | [y0, y1], _ =>
    have g0 : DataW.trod enc Try.prog w 0 (fun _ => true) true k 9 [c0] = some y0 := by
      have g : DataW.trod enc Try.prog w 0 (fun _ => true) true k 9 ((([c0, c1, c2, c3] : List Value).drop 0).take (Try.prog.cellsOf 9)) = some y0 := hf 0 _ rfl
      rw [show Try.prog.cellsOf _ = 1 from (by kernel_rfl : Try.prog.cellsOf 9 = 1)] at g
      exact g
    obtain ⟨m0, e0, _, _⟩ := open_str1 Try.underlying9 _ _ _ g0
    replace e0 : [c0] = [Value.string m0] := e0
    injection e0 with e0
    have g1 : DataW.trod enc Try.prog w 0 (fun _ => true) true k 39 [c1, c2, c3] = some y1 := by
      have g : DataW.trod enc Try.prog w 0 (fun _ => true) true k 39 ((([c0, c1, c2, c3] : List Value).drop 1).take (Try.prog.cellsOf 39)) = some y1 := hf 1 _ rfl
      rw [show Try.prog.cellsOf _ = 3 from (by kernel_rfl : Try.prog.cellsOf 39 = 3)] at g
      exact g
    obtain ⟨a1, K1, I1, W1⟩ := open39 _ _ _ g1
    subst e0
    have hk := k39_open K1
    rw [hk]
    refine ⟨⟨m0, a1⟩, k41_mk w ⟨m0, a1⟩, trivial, ?_⟩
    exact bulk_pos _

set_option maxRecDepth 100000 in
theorem open30 {H : Type} {enc : TypeId × Value → H} {w : World} (fuel : Nat) (cs : List Value) (y : DataW H × List MemPlace) (h : DataW.trod enc Try.prog w 0 (fun _ => true) true fuel 30 cs = some y) :
    ∃ a : S30, k30.K w a cs ∧ True ∧ a.f12.length ≤ Rows.uptoBulk y.1 := by
  obtain ⟨ys, k, _, hy, hlen, hyl, hf⟩ := DataW.trod_struct Try.underlying30 h
  subst hy
  have hlen : cs.length = 13 := hlen.trans (by kernel_rfl)
  have hyn : ys.length = 13 := hyl
  match cs, hlen with
  | [c0, c1, c2, c3, c4, c5, c6, c7, c8, c9, c10, c11, c12], _ =>
  match ys, hyn with
  | [y0, y1, y2, y3, y4, y5, y6, y7, y8, y9, y10, y11, y12], _ =>
    have g0 : DataW.trod enc Try.prog w 0 (fun _ => true) true k 3 [c0] = some y0 := by
      have g : DataW.trod enc Try.prog w 0 (fun _ => true) true k 3 ((([c0, c1, c2, c3, c4, c5, c6, c7, c8, c9, c10, c11, c12] : List Value).drop 0).take (Try.prog.cellsOf 3)) = some y0 := hf 0 _ rfl
      rw [show Try.prog.cellsOf _ = 1 from (by kernel_rfl : Try.prog.cellsOf 3 = 1)] at g
      exact g
    obtain ⟨n0, e0, _, _⟩ := DataW.trod_int (k := .i64) Try.underlying3 g0
    injection e0 with e0
    have g1 : DataW.trod enc Try.prog w 0 (fun _ => true) true k 3 [c1] = some y1 := by
      have g : DataW.trod enc Try.prog w 0 (fun _ => true) true k 3 ((([c0, c1, c2, c3, c4, c5, c6, c7, c8, c9, c10, c11, c12] : List Value).drop 1).take (Try.prog.cellsOf 3)) = some y1 := hf 1 _ rfl
      rw [show Try.prog.cellsOf _ = 1 from (by kernel_rfl : Try.prog.cellsOf 3 = 1)] at g
      exact g
    obtain ⟨n1, e1, _, _⟩ := DataW.trod_int (k := .i64) Try.underlying3 g1
    injection e1 with e1
    have g2 : DataW.trod enc Try.prog w 0 (fun _ => true) true k 27 [c2] = some y2 := by
      have g : DataW.trod enc Try.prog w 0 (fun _ => true) true k 27 ((([c0, c1, c2, c3, c4, c5, c6, c7, c8, c9, c10, c11, c12] : List Value).drop 2).take (Try.prog.cellsOf 27)) = some y2 := hf 2 _ rfl
      rw [show Try.prog.cellsOf _ = 1 from (by kernel_rfl : Try.prog.cellsOf 27 = 1)] at g
      exact g
    obtain ⟨n2, e2, _, _⟩ := DataW.trod_int (k := .u64) Try.underlying27 g2
    injection e2 with e2
    have g3 : DataW.trod enc Try.prog w 0 (fun _ => true) true k 2 [c3] = some y3 := by
      have g : DataW.trod enc Try.prog w 0 (fun _ => true) true k 2 ((([c0, c1, c2, c3, c4, c5, c6, c7, c8, c9, c10, c11, c12] : List Value).drop 3).take (Try.prog.cellsOf 2)) = some y3 := hf 3 _ rfl
      rw [show Try.prog.cellsOf _ = 1 from (by kernel_rfl : Try.prog.cellsOf 2 = 1)] at g
      exact g
    obtain ⟨n3, e3, _, _⟩ := DataW.trod_int (k := .i64) Try.underlying2 g3
    injection e3 with e3
    have g4 : DataW.trod enc Try.prog w 0 (fun _ => true) true k 27 [c4] = some y4 := by
      have g : DataW.trod enc Try.prog w 0 (fun _ => true) true k 27 ((([c0, c1, c2, c3, c4, c5, c6, c7, c8, c9, c10, c11, c12] : List Value).drop 4).take (Try.prog.cellsOf 27)) = some y4 := hf 4 _ rfl
      rw [show Try.prog.cellsOf _ = 1 from (by kernel_rfl : Try.prog.cellsOf 27 = 1)] at g
      exact g
    obtain ⟨n4, e4, _, _⟩ := DataW.trod_int (k := .u64) Try.underlying27 g4
    injection e4 with e4
    have g5 : DataW.trod enc Try.prog w 0 (fun _ => true) true k 27 [c5] = some y5 := by
      have g : DataW.trod enc Try.prog w 0 (fun _ => true) true k 27 ((([c0, c1, c2, c3, c4, c5, c6, c7, c8, c9, c10, c11, c12] : List Value).drop 5).take (Try.prog.cellsOf 27)) = some y5 := hf 5 _ rfl
      rw [show Try.prog.cellsOf _ = 1 from (by kernel_rfl : Try.prog.cellsOf 27 = 1)] at g
      exact g
    obtain ⟨n5, e5, _, _⟩ := DataW.trod_int (k := .u64) Try.underlying27 g5
    injection e5 with e5
    have g6 : DataW.trod enc Try.prog w 0 (fun _ => true) true k 27 [c6] = some y6 := by
      have g : DataW.trod enc Try.prog w 0 (fun _ => true) true k 27 ((([c0, c1, c2, c3, c4, c5, c6, c7, c8, c9, c10, c11, c12] : List Value).drop 6).take (Try.prog.cellsOf 27)) = some y6 := hf 6 _ rfl
      rw [show Try.prog.cellsOf _ = 1 from (by kernel_rfl : Try.prog.cellsOf 27 = 1)] at g
      exact g
    obtain ⟨n6, e6, _, _⟩ := DataW.trod_int (k := .u64) Try.underlying27 g6
    injection e6 with e6
    have g7 : DataW.trod enc Try.prog w 0 (fun _ => true) true k 2 [c7] = some y7 := by
      have g : DataW.trod enc Try.prog w 0 (fun _ => true) true k 2 ((([c0, c1, c2, c3, c4, c5, c6, c7, c8, c9, c10, c11, c12] : List Value).drop 7).take (Try.prog.cellsOf 2)) = some y7 := hf 7 _ rfl
      rw [show Try.prog.cellsOf _ = 1 from (by kernel_rfl : Try.prog.cellsOf 2 = 1)] at g
      exact g
    obtain ⟨n7, e7, _, _⟩ := DataW.trod_int (k := .i64) Try.underlying2 g7
    injection e7 with e7
    have g8 : DataW.trod enc Try.prog w 0 (fun _ => true) true k 2 [c8] = some y8 := by
      have g : DataW.trod enc Try.prog w 0 (fun _ => true) true k 2 ((([c0, c1, c2, c3, c4, c5, c6, c7, c8, c9, c10, c11, c12] : List Value).drop 8).take (Try.prog.cellsOf 2)) = some y8 := hf 8 _ rfl
      rw [show Try.prog.cellsOf _ = 1 from (by kernel_rfl : Try.prog.cellsOf 2 = 1)] at g
      exact g
    obtain ⟨n8, e8, _, _⟩ := DataW.trod_int (k := .i64) Try.underlying2 g8
    injection e8 with e8
    have g9 : DataW.trod enc Try.prog w 0 (fun _ => true) true k 9 [c9] = some y9 := by
      have g : DataW.trod enc Try.prog w 0 (fun _ => true) true k 9 ((([c0, c1, c2, c3, c4, c5, c6, c7, c8, c9, c10, c11, c12] : List Value).drop 9).take (Try.prog.cellsOf 9)) = some y9 := hf 9 _ rfl
      rw [show Try.prog.cellsOf _ = 1 from (by kernel_rfl : Try.prog.cellsOf 9 = 1)] at g
      exact g
    obtain ⟨m9, e9, _, _⟩ := open_str1 Try.underlying9 _ _ _ g9
    replace e9 : [c9] = [Value.string m9] := e9
    injection e9 with e9
    have g10 : DataW.trod enc Try.prog w 0 (fun _ => true) true k 9 [c10] = some y10 := by
      have g : DataW.trod enc Try.prog w 0 (fun _ => true) true k 9 ((([c0, c1, c2, c3, c4, c5, c6, c7, c8, c9, c10, c11, c12] : List Value).drop 10).take (Try.prog.cellsOf 9)) = some y10 := hf 10 _ rfl
      rw [show Try.prog.cellsOf _ = 1 from (by kernel_rfl : Try.prog.cellsOf 9 = 1)] at g
      exact g
    obtain ⟨m10, e10, _, _⟩ := open_str1 Try.underlying9 _ _ _ g10
    replace e10 : [c10] = [Value.string m10] := e10
    injection e10 with e10
    have g11 : DataW.trod enc Try.prog w 0 (fun _ => true) true k 9 [c11] = some y11 := by
      have g : DataW.trod enc Try.prog w 0 (fun _ => true) true k 9 ((([c0, c1, c2, c3, c4, c5, c6, c7, c8, c9, c10, c11, c12] : List Value).drop 11).take (Try.prog.cellsOf 9)) = some y11 := hf 11 _ rfl
      rw [show Try.prog.cellsOf _ = 1 from (by kernel_rfl : Try.prog.cellsOf 9 = 1)] at g
      exact g
    obtain ⟨m11, e11, _, _⟩ := open_str1 Try.underlying9 _ _ _ g11
    replace e11 : [c11] = [Value.string m11] := e11
    injection e11 with e11
    have g12 : DataW.trod enc Try.prog w 0 (fun _ => true) true k 28 [c12] = some y12 := by
      have g : DataW.trod enc Try.prog w 0 (fun _ => true) true k 28 ((([c0, c1, c2, c3, c4, c5, c6, c7, c8, c9, c10, c11, c12] : List Value).drop 12).take (Try.prog.cellsOf 28)) = some y12 := hf 12 _ rfl
      rw [show Try.prog.cellsOf _ = 1 from (by kernel_rfl : Try.prog.cellsOf 28 = 1)] at g
      exact g
    obtain ⟨A12, len12, cap12, xs12, e12, hl12, hC12, hc12, _, _, W12⟩ := open_sliceK k41 z41 (fun _ => True) (fun _ => 1) Try.underlying28 (by kernel_rfl) open41 g12
    injection e12 with e12
    subst hl12
    subst e0 e1 e2 e3 e4 e5 e6 e7 e8 e9 e10 e11 e12
    refine ⟨⟨n0, n1, n2, n3, n4, n5, n6, n7, n8, m9, m10, m11, xs12⟩, k30_mk w ⟨n0, n1, n2, n3, n4, n5, n6, n7, n8, m9, m10, m11, xs12⟩ hc12 hC12, trivial, ?_⟩
    have hs : (xs12.map fun _ => 1).sum = xs12.length := by rw [List.map_const', List.sum_replicate_nat, Nat.mul_one]
    simp only [List.map_cons, List.map_nil, Rows.uptoBulk, Rows.uptoBulkAll]
    show xs12.length ≤ _
    omega

set_option maxRecDepth 100000 in
theorem open32 {H : Type} {enc : TypeId × Value → H} {w : World} (fuel : Nat) (cs : List Value) (y : DataW H × List MemPlace) (h : DataW.trod enc Try.prog w 0 (fun _ => true) true fuel 32 cs = some y) :
    ∃ a : S32, k32.K w a cs ∧ True ∧ a.f1.f12.length + 1 ≤ Rows.uptoBulk y.1 := by
  obtain ⟨ys, k, _, hy, hlen, hyl, hf⟩ := DataW.trod_struct Try.underlying32 h
  subst hy
  have hlen : cs.length = 14 := hlen.trans (by kernel_rfl)
  have hyn : ys.length = 2 := hyl
  match cs, hlen with
  | [c0, c1, c2, c3, c4, c5, c6, c7, c8, c9, c10, c11, c12, c13], _ =>
  match ys, hyn with
  | [y0, y1], _ =>
    have g0 : DataW.trod enc Try.prog w 0 (fun _ => true) true k 3 [c0] = some y0 := by
      have g : DataW.trod enc Try.prog w 0 (fun _ => true) true k 3 ((([c0, c1, c2, c3, c4, c5, c6, c7, c8, c9, c10, c11, c12, c13] : List Value).drop 0).take (Try.prog.cellsOf 3)) = some y0 := hf 0 _ rfl
      rw [show Try.prog.cellsOf _ = 1 from (by kernel_rfl : Try.prog.cellsOf 3 = 1)] at g
      exact g
    obtain ⟨n0, e0, _, _⟩ := DataW.trod_int (k := .i64) Try.underlying3 g0
    injection e0 with e0
    have g1 : DataW.trod enc Try.prog w 0 (fun _ => true) true k 30 [c1, c2, c3, c4, c5, c6, c7, c8, c9, c10, c11, c12, c13] = some y1 := by
      have g : DataW.trod enc Try.prog w 0 (fun _ => true) true k 30 ((([c0, c1, c2, c3, c4, c5, c6, c7, c8, c9, c10, c11, c12, c13] : List Value).drop 1).take (Try.prog.cellsOf 30)) = some y1 := hf 1 _ rfl
      rw [show Try.prog.cellsOf _ = 13 from (by kernel_rfl : Try.prog.cellsOf 30 = 13)] at g
      exact g
    obtain ⟨a1, K1, I1, W1⟩ := open30 _ _ _ g1
    subst e0
    obtain ⟨A12, c12, hk, hl, hC⟩ := k30_open K1
    rw [hk]
    refine ⟨⟨n0, a1⟩, k32_mk w ⟨n0, a1⟩ hl hC, trivial, ?_⟩
    simp only [List.map_cons, List.map_nil, Rows.uptoBulk, Rows.uptoBulkAll]
    show a1.f12.length + 1 ≤ _
    omega

/-- What a list of sends weighs, and each of them. -/
def wtS (x : S32) : Nat := x.f1.f12.length + 1
theorem wtS_le (l : List S32) (B : Nat) (h : (l.map wtS).sum ≤ B) : l.length ≤ B ∧ ∀ x ∈ l, x.f1.f12.length ≤ B := by
  induction l generalizing B with
  | nil => exact ⟨Nat.zero_le _, fun x hx => by cases hx⟩
  | cons y r ih =>
    simp only [List.map_cons, List.sum_cons, wtS] at h
    obtain ⟨h1, h2⟩ := ih (B - (y.f1.f12.length + 1)) (by have : (r.map wtS).sum ≤ B - (y.f1.f12.length + 1) := by omega
                                                          exact this)
    refine ⟨by simp only [List.length_cons]; omega, fun x hx => ?_⟩
    rcases List.mem_cons.1 hx with rfl | hx
    · omega
    · have := h2 x hx; omega
theorem fits_of {x : S32} (h : x.f1.f12.length ≤ 1048576) : Fits x := by unfold Fits; omega
end Go.Proofs.Ytijbpncekdiodaa
