/- Openers of a list of sends that keep what each part of it weighs. Laid by gen_mail_said.py. -/
import Derived.Test.YtijbpncekdiodaaRa
namespace Go.Proofs.Ytijbpncekdiodaa
open Go.ChangeShapes Go.WideShapes Go.Deep Go.RowKit Go.Proofs.YtijbpncekdiodaaW.PrintWords Go.Proofs.YtijbpncekdiodaaW.PrintLast Go.Proofs.YtijbpncekdiodaaW.PrintMore
open Go.Proofs.Ytijbpncekdiodaa.PMailMoves

theorem weights_all {H : Type} {P : Program} {e : TypeId} : ∀ {l : List (DataW H)} {d : DataW H}, d ∈ l → ∀ n ∈ d.weights P e, n ∈ DataW.weightsAll P e l
  | x :: r, d, h, n, hn => by
    simp only [DataW.weightsAll, List.mem_append]
    rcases List.mem_cons.1 h with rfl | h
    · exact .inl hn
    · exact .inr (weights_all h n hn)
  | [], _, h, _, _ => by cases h
theorem open_sliceW {H : Type} {enc : TypeId × Value → H} {P : Program} {w : World} {α : Type} (d : Kd α) (z : α) (Sm : α → Prop) (bytes : Nat) {t e : TypeId} {fuel : Nat} {cs : List Value} {x : DataW H × List MemPlace}
    (ht : P.underlying t = some (.slice e)) (hC : P.cellsOf e = d.sz) (hB : P.bytesOf e = bytes)
    (hopen : ∀ n cs (y : DataW H × List MemPlace), DataW.trod enc P w 0 (fun _ => true) true n e cs = some y → ∃ a, d.K w a cs ∧ ((∀ m ∈ y.1.weights P e, m ≤ reachBytes) → Sm a))
    (h : DataW.trod enc P w 0 (fun _ => true) true fuel t cs = some x) :
    ∃ A len cap xs, cs = [.slice A len cap] ∧ xs.length = len ∧ Kd.C d w A len xs ∧ len ≤ cap ∧ len ≤ 9223372036854775807 ∧ ((∀ m ∈ x.1.weights P t, m ≤ reachBytes) → len * bytes ≤ reachBytes ∧ ∀ a ∈ xs, Sm a) := by
  rcases open_slice ht h with ⟨h1, h2⟩ | ⟨a, len, cap, m, n, D, Pl, rfl, hb, hl, hm, hmm, rfl, hx⟩
  · subst h2
    exact ⟨none, 0, 0, [], h1, rfl, ⟨rfl, by omega, fun h => by omega⟩, by omega, by omega, fun _ => ⟨by rw [Nat.zero_mul]; exact Nat.zero_le _, fun a ha => by cases ha⟩⟩
  · have hmc : m = cap := by rw [hmm]; simp
    subst hmc
    have each : ∀ i, i < m → ∃ q : α, (∃ c, c.length = d.sz ∧ d.K w q c ∧ ∀ j u, c[j]? = some u → w.cell? (a.add (i * d.sz + j)) = some u) ∧ ((∀ m ∈ (D i).weights P e, m ≤ reachBytes) → Sm q) := by
      intro i hi
      obtain ⟨cs', hc, ht'⟩ := hx i hi
      obtain ⟨q, hK, hI⟩ := hopen n cs' _ ht'
      obtain ⟨_, hlen, hcell⟩ := World.cells?_some hc
      rw [hC] at hlen hcell
      refine ⟨q, ⟨cs', hlen, hK, fun j u hu => ?_⟩, hI⟩
      have hj : j < d.sz := by rw [← hlen]; exact (List.getElem?_eq_some_iff.1 hu).1
      have := hcell j hj
      rw [Go.Deep.add_add] at this
      rw [this, hu]
    haveI : Inhabited α := ⟨z⟩
    obtain ⟨F, hF⟩ := choose_lt each
    have hml : m ≤ 9223372036854775807 := by unfold maxLen at hm; omega
    refine ⟨some a, len, m, (List.range len).map F, rfl, by simp, ⟨by simp, by omega, fun _ => ⟨a, rfl, fun j p hj => ?_⟩⟩, hl, by omega, fun hw => ?_⟩
    · have hjl : j < len := by
        have := (List.getElem?_eq_some_iff.1 hj).1
        simpa using this
      have hp : F j = p := by simpa [hjl] using hj
      obtain ⟨⟨c, h1, h2, h3⟩, _⟩ := hF j (by omega)
      rw [hp] at h2
      exact ⟨c, h1, h2, h3⟩
    · simp only [DataW.weights, ht] at hw
      refine ⟨?_, fun q hq => ?_⟩
      · have h1 := hw _ (List.mem_cons_self ..)
        rw [hB, List.length_map, List.length_map, List.length_range, List.length_range, Nat.add_mul] at h1
        exact Nat.le_trans (Nat.le_add_right _ _) h1
      · obtain ⟨i, hi, rfl⟩ := List.mem_map.1 hq
        refine (hF i (by have := List.mem_range.1 hi; omega)).2 fun k hk => hw k (List.mem_cons_of_mem _ (List.mem_append_left _ ?_))
        exact weights_all (List.mem_map.2 ⟨i, hi, rfl⟩) k hk

set_option maxRecDepth 100000 in
theorem open30W {H : Type} {enc : TypeId × Value → H} {w : World} (fuel : Nat) (cs : List Value) (y : DataW H × List MemPlace) (h : DataW.trod enc Try.prog w 0 (fun _ => true) true fuel 30 cs = some y) :
    ∃ a : S30, k30.K w a cs ∧ ((∀ m ∈ y.1.weights Try.prog 30, m ≤ reachBytes) → a.f12.length * 48 ≤ reachBytes) := by
  obtain ⟨ys, k, _, hy, hlen, hyl, hf⟩ := DataW.trod_struct Try.underlying30 h
  subst hy
  have hlen : cs.length = 13 := hlen.trans (by kernel_rfl)
  have hyn : ys.length = 13 := hyl
  match cs, hlen with
  | [c0, c1, c2, c3, c4, c5, c6, c7, c8, c9, c10, c11, c12], _ =>
  match ys, hyn with
  | [y0, y1, y2, y3, y4, y5, y6, y7, y8, y9, y10, y11, y12], _ =>
    have g0 : DataW.trod enc Try.prog w 0 (fun _ => true) true k 3 [c0] = some y0 := by
      have g : DataW.trod enc Try.prog w 0 (fun _ => true) true k 3 ((([c0, c1, c2, c3, c4, c5, c6, c7, c8, c9, c10, c11, c12] : List Value).drop 0).take (Try.prog.cellsOf 3)) = some y0 := hf 0 _ rfl
      rw [show Try.prog.cellsOf _ = 1 from (by kernel_rfl : Try.prog.cellsOf 3 = 1)] at g
      exact g
    obtain ⟨n0, e0, _, _⟩ := DataW.trod_int (k := .i64) Try.underlying3 g0
    injection e0 with e0
    have g1 : DataW.trod enc Try.prog w 0 (fun _ => true) true k 3 [c1] = some y1 := by
      have g : DataW.trod enc Try.prog w 0 (fun _ => true) true k 3 ((([c0, c1, c2, c3, c4, c5, c6, c7, c8, c9, c10, c11, c12] : List Value).drop 1).take (Try.prog.cellsOf 3)) = some y1 := hf 1 _ rfl
      rw [show Try.prog.cellsOf _ = 1 from (by kernel_rfl : Try.prog.cellsOf 3 = 1)] at g
      exact g
    obtain ⟨n1, e1, _, _⟩ := DataW.trod_int (k := .i64) Try.underlying3 g1
    injection e1 with e1
    have g2 : DataW.trod enc Try.prog w 0 (fun _ => true) true k 27 [c2] = some y2 := by
      have g : DataW.trod enc Try.prog w 0 (fun _ => true) true k 27 ((([c0, c1, c2, c3, c4, c5, c6, c7, c8, c9, c10, c11, c12] : List Value).drop 2).take (Try.prog.cellsOf 27)) = some y2 := hf 2 _ rfl
      rw [show Try.prog.cellsOf _ = 1 from (by kernel_rfl : Try.prog.cellsOf 27 = 1)] at g
      exact g
    obtain ⟨n2, e2, _, _⟩ := DataW.trod_int (k := .u64) Try.underlying27 g2
    injection e2 with e2
    have g3 : DataW.trod enc Try.prog w 0 (fun _ => true) true k 2 [c3] = some y3 := by
      have g : DataW.trod enc Try.prog w 0 (fun _ => true) true k 2 ((([c0, c1, c2, c3, c4, c5, c6, c7, c8, c9, c10, c11, c12] : List Value).drop 3).take (Try.prog.cellsOf 2)) = some y3 := hf 3 _ rfl
      rw [show Try.prog.cellsOf _ = 1 from (by kernel_rfl : Try.prog.cellsOf 2 = 1)] at g
      exact g
    obtain ⟨n3, e3, _, _⟩ := DataW.trod_int (k := .i64) Try.underlying2 g3
    injection e3 with e3
    have g4 : DataW.trod enc Try.prog w 0 (fun _ => true) true k 27 [c4] = some y4 := by
      have g : DataW.trod enc Try.prog w 0 (fun _ => true) true k 27 ((([c0, c1, c2, c3, c4, c5, c6, c7, c8, c9, c10, c11, c12] : List Value).drop 4).take (Try.prog.cellsOf 27)) = some y4 := hf 4 _ rfl
      rw [show Try.prog.cellsOf _ = 1 from (by kernel_rfl : Try.prog.cellsOf 27 = 1)] at g
      exact g
    obtain ⟨n4, e4, _, _⟩ := DataW.trod_int (k := .u64) Try.underlying27 g4
    injection e4 with e4
    have g5 : DataW.trod enc Try.prog w 0 (fun _ => true) true k 27 [c5] = some y5 := by
      have g : DataW.trod enc Try.prog w 0 (fun _ => true) true k 27 ((([c0, c1, c2, c3, c4, c5, c6, c7, c8, c9, c10, c11, c12] : List Value).drop 5).take (Try.prog.cellsOf 27)) = some y5 := hf 5 _ rfl
      rw [show Try.prog.cellsOf _ = 1 from (by kernel_rfl : Try.prog.cellsOf 27 = 1)] at g
      exact g
    obtain ⟨n5, e5, _, _⟩ := DataW.trod_int (k := .u64) Try.underlying27 g5
    injection e5 with e5
    have g6 : DataW.trod enc Try.prog w 0 (fun _ => true) true k 27 [c6] = some y6 := by
      have g : DataW.trod enc Try.prog w 0 (fun _ => true) true k 27 ((([c0, c1, c2, c3, c4, c5, c6, c7, c8, c9, c10, c11, c12] : List Value).drop 6).take (Try.prog.cellsOf 27)) = some y6 := hf 6 _ rfl
      rw [show Try.prog.cellsOf _ = 1 from (by kernel_rfl : Try.prog.cellsOf 27 = 1)] at g
      exact g
    obtain ⟨n6, e6, _, _⟩ := DataW.trod_int (k := .u64) Try.underlying27 g6
    injection e6 with e6
    have g7 : DataW.trod enc Try.prog w 0 (fun _ => true) true k 2 [c7] = some y7 := by
      have g : DataW.trod enc Try.prog w 0 (fun _ => true) true k 2 ((([c0, c1, c2, c3, c4, c5, c6, c7, c8, c9, c10, c11, c12] : List Value).drop 7).take (Try.prog.cellsOf 2)) = some y7 := hf 7 _ rfl
      rw [show Try.prog.cellsOf _ = 1 from (by kernel_rfl : Try.prog.cellsOf 2 = 1)] at g
      exact g
    obtain ⟨n7, e7, _, _⟩ := DataW.trod_int (k := .i64) Try.underlying2 g7
    injection e7 with e7
    have g8 : DataW.trod enc Try.prog w 0 (fun _ => true) true k 2 [c8] = some y8 := by
      have g : DataW.trod enc Try.prog w 0 (fun _ => true) true k 2 ((([c0, c1, c2, c3, c4, c5, c6, c7, c8, c9, c10, c11, c12] : List Value).drop 8).take (Try.prog.cellsOf 2)) = some y8 := hf 8 _ rfl
      rw [show Try.prog.cellsOf _ = 1 from (by kernel_rfl : Try.prog.cellsOf 2 = 1)] at g
      exact g
    obtain ⟨n8, e8, _, _⟩ := DataW.trod_int (k := .i64) Try.underlying2 g8
    injection e8 with e8
    have g9 : DataW.trod enc Try.prog w 0 (fun _ => true) true k 9 [c9] = some y9 := by
      have g : DataW.trod enc Try.prog w 0 (fun _ => true) true k 9 ((([c0, c1, c2, c3, c4, c5, c6, c7, c8, c9, c10, c11, c12] : List Value).drop 9).take (Try.prog.cellsOf 9)) = some y9 := hf 9 _ rfl
      rw [show Try.prog.cellsOf _ = 1 from (by kernel_rfl : Try.prog.cellsOf 9 = 1)] at g
      exact g
    obtain ⟨m9, e9, _, _⟩ := open_str1 Try.underlying9 _ _ _ g9
    replace e9 : [c9] = [Value.string m9] := e9
    injection e9 with e9
    have g10 : DataW.trod enc Try.prog w 0 (fun _ => true) true k 9 [c10] = some y10 := by
      have g : DataW.trod enc Try.prog w 0 (fun _ => true) true k 9 ((([c0, c1, c2, c3, c4, c5, c6, c7, c8, c9, c10, c11, c12] : List Value).drop 10).take (Try.prog.cellsOf 9)) = some y10 := hf 10 _ rfl
      rw [show Try.prog.cellsOf _ = 1 from (by kernel_rfl : Try.prog.cellsOf 9 = 1)] at g
      exact g
    obtain ⟨m10, e10, _, _⟩ := open_str1 Try.underlying9 _ _ _ g10
    replace e10 : [c10] = [Value.string m10] := e10
    injection e10 with e10
    have g11 : DataW.trod enc Try.prog w 0 (fun _ => true) true k 9 [c11] = some y11 := by
      have g : DataW.trod enc Try.prog w 0 (fun _ => true) true k 9 ((([c0, c1, c2, c3, c4, c5, c6, c7, c8, c9, c10, c11, c12] : List Value).drop 11).take (Try.prog.cellsOf 9)) = some y11 := hf 11 _ rfl
      rw [show Try.prog.cellsOf _ = 1 from (by kernel_rfl : Try.prog.cellsOf 9 = 1)] at g
      exact g
    obtain ⟨m11, e11, _, _⟩ := open_str1 Try.underlying9 _ _ _ g11
    replace e11 : [c11] = [Value.string m11] := e11
    injection e11 with e11
    have g12 : DataW.trod enc Try.prog w 0 (fun _ => true) true k 28 [c12] = some y12 := by
      have g : DataW.trod enc Try.prog w 0 (fun _ => true) true k 28 ((([c0, c1, c2, c3, c4, c5, c6, c7, c8, c9, c10, c11, c12] : List Value).drop 12).take (Try.prog.cellsOf 28)) = some y12 := hf 12 _ rfl
      rw [show Try.prog.cellsOf _ = 1 from (by kernel_rfl : Try.prog.cellsOf 28 = 1)] at g
      exact g
    obtain ⟨A12, len12, cap12, xs12, e12, hl12, hC12, hc12, _, W12⟩ := open_sliceW k41 z41 (fun _ => True) 48 Try.underlying28 (by kernel_rfl) (by kernel_rfl) (fun n cs y h => by obtain ⟨a, h1, _, _⟩ := open41 n cs y h; exact ⟨a, h1, fun _ => trivial⟩) g12
    injection e12 with e12
    subst hl12
    subst e0 e1 e2 e3 e4 e5 e6 e7 e8 e9 e10 e11 e12
    refine ⟨⟨n0, n1, n2, n3, n4, n5, n6, n7, n8, m9, m10, m11, xs12⟩, k30_mk w ⟨n0, n1, n2, n3, n4, n5, n6, n7, n8, m9, m10, m11, xs12⟩ hc12 hC12, fun hm => ?_⟩
    refine (W12 fun m hy => hm m ?_).1
    simp only [DataW.weights, Try.underlying30]
    exact DataW.weights_mem_each (j := 12) (t := 28) rfl rfl m hy

set_option maxRecDepth 100000 in
theorem open32W {H : Type} {enc : TypeId × Value → H} {w : World} (fuel : Nat) (cs : List Value) (y : DataW H × List MemPlace) (h : DataW.trod enc Try.prog w 0 (fun _ => true) true fuel 32 cs = some y) :
    ∃ a : S32, k32.K w a cs ∧ ((∀ m ∈ y.1.weights Try.prog 32, m ≤ reachBytes) → a.f1.f12.length * 48 ≤ reachBytes) := by
  obtain ⟨ys, k, _, hy, hlen, hyl, hf⟩ := DataW.trod_struct Try.underlying32 h
  subst hy
  have hlen : cs.length = 14 := hlen.trans (by kernel_rfl)
  have hyn : ys.length = 2 := hyl
  match cs, hlen with
  | [c0, c1, c2, c3, c4, c5, c6, c7, c8, c9, c10, c11, c12, c13], _ =>
  match ys, hyn with
  | [y0, y1], _ =>
    have g0 : DataW.trod enc Try.prog w 0 (fun _ => true) true k 3 [c0] = some y0 := by
      have g : DataW.trod enc Try.prog w 0 (fun _ => true) true k 3 ((([c0, c1, c2, c3, c4, c5, c6, c7, c8, c9, c10, c11, c12, c13] : List Value).drop 0).take (Try.prog.cellsOf 3)) = some y0 := hf 0 _ rfl
      rw [show Try.prog.cellsOf _ = 1 from (by kernel_rfl : Try.prog.cellsOf 3 = 1)] at g
      exact g
    obtain ⟨n0, e0, _, _⟩ := DataW.trod_int (k := .i64) Try.underlying3 g0
    injection e0 with e0
    have g1 : DataW.trod enc Try.prog w 0 (fun _ => true) true k 30 [c1, c2, c3, c4, c5, c6, c7, c8, c9, c10, c11, c12, c13] = some y1 := by
      have g : DataW.trod enc Try.prog w 0 (fun _ => true) true k 30 ((([c0, c1, c2, c3, c4, c5, c6, c7, c8, c9, c10, c11, c12, c13] : List Value).drop 1).take (Try.prog.cellsOf 30)) = some y1 := hf 1 _ rfl
      rw [show Try.prog.cellsOf _ = 13 from (by kernel_rfl : Try.prog.cellsOf 30 = 13)] at g
      exact g
    obtain ⟨a1, K1, W1⟩ := open30W _ _ _ g1
    subst e0
    obtain ⟨A12, c12, hk, hl, hC⟩ := k30_open K1
    rw [hk]
    refine ⟨⟨n0, a1⟩, k32_mk w ⟨n0, a1⟩ hl hC, fun hm => ?_⟩
    refine W1 fun m hy => hm m ?_
    simp only [DataW.weights, Try.underlying32]
    exact DataW.weights_mem_each (j := 1) (t := 30) rfl rfl m hy
end Go.Proofs.Ytijbpncekdiodaa
