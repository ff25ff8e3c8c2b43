/- Both boxes side by side. Laid by gen_pc.py. -/
import Derived.Test.YtijbpncekdiodaaPa
namespace Go.Proofs.Ytijbpncekdiodaa
open Go.RowKit Go.Proofs.YtijbpncekdiodaaW.PrintWords Go.Proofs.YtijbpncekdiodaaW.PrintLast Go.Proofs.YtijbpncekdiodaaW.PrintMore
open Go.Proofs.Ytijbpncekdiodaa.PMailMoves
set_option linter.unusedVariables false
set_option linter.unusedSimpArgs false

structure S50 where
  f0 : Int
  f1 : Int
  f2 : List S32
def z50 : S50 := ⟨0, 0, []⟩
def k50 : Kd S50 := Kd.iso (Kd.pair (Kd.int .i64) (Kd.pair (Kd.int .i64) (Kd.slice 32 k32))) (fun x : S50 => (x.f0, x.f1, x.f2))
theorem k50_open {w : World} {x : S50} {cs : List Value} (h : k50.K w x cs) : ∃ A c, cs = [.int .i64 x.f0, .int .i64 x.f1, .slice A x.f2.length c] ∧ x.f2.length ≤ c ∧ k32.C w A x.f2.length x.f2 := by
  obtain ⟨_, _, rfl, rfl, ⟨_, _, rfl, rfl, ⟨A, c, rfl, hl, hc⟩⟩⟩ := h
  exact ⟨A, c, rfl, hl, hc⟩
theorem k50_mk (w : World) (x : S50) {A : Option Addr} {c : Nat} (hl : x.f2.length ≤ c) (hc : k32.C w A x.f2.length x.f2) : k50.K w x [.int .i64 x.f0, .int .i64 x.f1, .slice A x.f2.length c] :=
  ⟨[.int .i64 x.f0], [.int .i64 x.f1, .slice A x.f2.length c], rfl, rfl, ⟨[.int .i64 x.f1], [.slice A x.f2.length c], rfl, rfl, ⟨A, c, rfl, hl, hc⟩⟩⟩

/-- What the walk holds: where the box, the reference's box and the variables lie. -/
structure Pl where
  g : Nat
  r : Nat
  gM : Nat
  gR : Nat
  g7 : Nat
  base : Nat
  B0 : Nat
  most : Int
def Pl.Ok (p : Pl) : Prop := p.base ≤ p.g ∧ p.g < p.B0 ∧ p.base ≤ p.r ∧ p.r < p.B0 ∧ p.base ≤ p.gM ∧ p.gM < p.B0 ∧ p.base ≤ p.gR ∧ p.gR < p.B0 ∧ p.base ≤ p.g7 ∧ p.g7 < p.B0 ∧ p.g ≠ p.r ∧ p.gM ≠ p.g ∧ p.gM ≠ p.r ∧ p.gR ≠ p.g ∧ p.gR ≠ p.r ∧ p.g7 ≠ p.g ∧ p.g7 ≠ p.r
def Pl.Sp (p : Pl) (W : World) : Prop := W.heap[p.gM]? = some (.cells #[.int .i64 p.most] 3 (0, 0)) ∧ W.heap[p.gR]? = some (.cells #[.bool false] 4 (0, 0)) ∧ W.heap[p.g7]? = some (.cells #[.pointer (some ⟨p.r, 0, none⟩)] 46 (0, 0))
def Pl.I (p : Pl) (w W : World) (v vr : Value) (xb xr : List S32) : Prop :=
  p.Sp W ∧ BoxV W p.g p.base (fun b => p.B0 ≤ b ∧ some b ≠ vr.ownBlock) v xb ∧ RefV W p.r p.base (fun b => (b < p.base ∨ p.B0 ≤ b) ∧ some b ≠ v.ownBlock) vr xr ∧ Below p.base w W ∧ p.B0 ≤ W.heap.size
section
variable {p : Pl} {w W W' : World} {v v' vr vr' : Value} {xb xb' xr xr' : List S32}
theorem Pl.Sp.step (h : p.Sp W) (h1 : W'.heap[p.gM]? = W.heap[p.gM]?) (h2 : W'.heap[p.gR]? = W.heap[p.gR]?) (h3 : W'.heap[p.g7]? = W.heap[p.g7]?) : p.Sp W' := ⟨h1.trans h.1, h2.trans h.2.1, h3.trans h.2.2⟩
theorem Pl.Sp.below (h : p.Sp W) (hb : Below W.heap.size W W') : p.Sp W' := h.step (hb.block _ (blk_lt h.1)) (hb.block _ (blk_lt h.2.1)) (hb.block _ (blk_lt h.2.2))
theorem Pl.I.below (h : p.I w W v vr xb xr) (hw : w.heap.size = p.base) (hb : Below W.heap.size W W') : p.I w W' v vr xb xr := by
  obtain ⟨h1, h2, h3, h4, h5⟩ := h
  exact ⟨h1.below hb, h2.below hb, h3.below hb, h4.trans (hb.mono (by have := h4.size; omega)), by have := hb.size; omega⟩
/-- A step that leaves all but the box, and its row, as it was. -/
theorem Pl.I.box (hp : p.Ok) (h : p.I w W v vr xb xr) (hk : Kept W W' (fun k => k = p.g ∨ some k = v.ownBlock)) (hb : Below p.base W W') (hx : BoxV W' p.g p.base (fun b => p.B0 ≤ b ∧ some b ≠ vr.ownBlock) v' xb') (hat : ∀ b, v'.ownBlock = some b → v.ownBlock = some b ∨ W.heap.size ≤ b) : p.I w W' v' vr xb' xr := by
  obtain ⟨h1, h2, h3, h4, h5⟩ := h
  obtain ⟨p1, p2, p3, p4, p5, p6, p7, p8, p9, p10, p11, p12, p13, p14, p15, p16, p17⟩ := hp
  have hv : ∀ k, some k = v.ownBlock → p.B0 ≤ k := fun k e => (h2.2.1.1 k e.symm).1
  refine ⟨h1.step (hk.2 _ (blk_lt h1.1) ?_) (hk.2 _ (blk_lt h1.2.1) ?_) (hk.2 _ (blk_lt h1.2.2) ?_), hx, ?_, h4.trans hb, by have := hb.size; omega⟩
  · rintro (e | e)
    · omega
    · have := hv _ e; omega
  · rintro (e | e)
    · omega
    · have := hv _ e; omega
  · rintro (e | e)
    · omega
    · have := hv _ e; omega
  · have h6 := h3.bound.kept hk (by rintro (e | e); omega; have := hv _ e; omega) (fun b hb => by
      rintro (e | e)
      · rcases hb.1.1 with h | h <;> omega
      · exact hb.1.2 e)
    refine h6.mono (fun b hb => ⟨hb.1.1, fun e => ?_⟩) (fun b hb => by rcases hb.1 with h | h <;> omega)
    rcases hat b e.symm with e2 | hc
    · exact hb.1.2 e2.symm
    · have := hb.2; omega
theorem Pl.I.ref (hp : p.Ok) (h : p.I w W v vr xb xr) (hk : Kept W W' (fun k => k = p.r ∨ some k = vr.ownBlock)) (hb : Below p.base W W') (hx : RefV W' p.r p.base (fun b => (b < p.base ∨ p.B0 ≤ b) ∧ some b ≠ v.ownBlock) vr' xr') (hat : ∀ b, vr'.ownBlock = some b → vr.ownBlock = some b ∨ W.heap.size ≤ b) : p.I w W' v vr' xb xr' := by
  obtain ⟨h1, h2, h3, h4, h5⟩ := h
  obtain ⟨p1, p2, p3, p4, p5, p6, p7, p8, p9, p10, p11, p12, p13, p14, p15, p16, p17⟩ := hp
  have hv : ∀ k, some k = vr.ownBlock → p.B0 ≤ k := fun k e => by
    have ha := (h3.2.1.1 k e.symm).1
    have hb := Kd.N_base h3.2.1 k e.symm
    omega
  refine ⟨h1.step (hk.2 _ (blk_lt h1.1) ?_) (hk.2 _ (blk_lt h1.2.1) ?_) (hk.2 _ (blk_lt h1.2.2) ?_), ?_, hx, h4.trans hb, by have := hb.size; omega⟩
  · rintro (e | e)
    · omega
    · have := hv _ e; omega
  · rintro (e | e)
    · omega
    · have := hv _ e; omega
  · rintro (e | e)
    · omega
    · have := hv _ e; omega
  · have hgk : ¬ (p.g = p.r ∨ some p.g = vr.ownBlock) := by
      rintro (e | e)
      · omega
      · have := hv _ e; omega
    have hN := Kd.N_kept (Kd.N_bound h2.2.1) hk (fun b hb => by
      rintro (e | e)
      · have := hb.1.1; omega
      · exact hb.1.2 e)
    refine ⟨(hk.2 _ h2.lt hgk).trans h2.1, Kd.N_mono hN (fun b hb => ⟨hb.1.1, fun e => ?_⟩), fun b hb => by have := hb.1; omega, h2.2.2.2⟩
    rcases hat b e.symm with e2 | hc
    · exact hb.1.2 e2.symm
    · have := hb.2; omega
theorem hat_of {n : Nat} (h : v'.ownBlock = v.ownBlock ∨ ∃ b, v'.ownBlock = some b ∧ n ≤ b) : ∀ b, v'.ownBlock = some b → v.ownBlock = some b ∨ n ≤ b := fun b e => by
  rcases h with h | ⟨c, h, hc⟩
  · exact .inl (h.symm.trans e)
  · rw [h] at e; injection e with e; exact .inr (by omega)
theorem kept_of_but {g : Nat} (h : KeepBut W W' g none) : Kept W W' (fun k => k = g ∨ some k = v.ownBlock) := ⟨h.1, fun i hi hn => h.2 i hi (fun e => hn (.inl e)) (by simp)⟩
theorem Pl.I.fresh (hp : p.Ok) (h : p.I w W v vr xb xr) : ∀ k, W.heap.size ≤ k → p.B0 ≤ k ∧ some k ≠ vr.ownBlock := fun k hk => ⟨by have := h.2.2.2.2; omega, fun e => by have := Kd.N_lt h.2.2.1.2.1 k e.symm; omega⟩
theorem Pl.I.freshR (hp : p.Ok) (h : p.I w W v vr xb xr) : ∀ k, W.heap.size ≤ k → (k < p.base ∨ p.B0 ≤ k) ∧ some k ≠ v.ownBlock := fun k hk => ⟨.inr (by have := h.2.2.2.2; omega), fun e => by have := Kd.N_lt h.2.1.2.1 k e.symm; omega⟩

theorem own_lt_box (h : p.I w W v vr xb xr) : ∀ k, v.ownBlock = some k → k < W.heap.size := Kd.N_lt h.2.1.2.1
theorem own_lt_ref (h : p.I w W v vr xb xr) : ∀ k, vr.ownBlock = some k → k < W.heap.size := Kd.N_lt h.2.2.1.2.1
/-- A block of the walk's own lies as it lay. -/
theorem blk_kept {b g : Nat} {o : Obj} (h : W.heap[b]? = some o) (hk : Kept W W' (fun k => k = g ∨ some k = v.ownBlock)) (hg : b ≠ g) (hv : ∀ k, v.ownBlock = some k → k ≠ b) : W'.heap[b]? = some o := (hk.2 b (blk_lt h) (by rintro (e | e); exact hg e; exact hv b e.symm rfl)).trans h
theorem P_put (hp : p.Ok) (h : p.I w W v vr xb xr) {A : Option Addr} {c : Nat} {l : List S32} (hF : Kd.F k32 W (fun k => k < p.base) A l.length l) (hv : ∀ x ∈ l, x.f1.f12.length ≤ 1048576) (hl : (xb.length + l.length) * 152 ≤ 140737488355328) :
    Calls Try.prog 10 #[.pointer (some ⟨p.g, 0, none⟩), .slice A l.length c] W fun e W' => e = .returned (.int .i64 (l.length : Int)) ∧ Kept W W' (fun k => k = p.g ∨ some k = v.ownBlock) ∧ ∃ v', p.I w W' v' vr (xb ++ l) xr :=
  (Put_calls p.g p.base A c xb l v W _ _ h.2.1 (h.fresh hp) hF (fun k hk hk2 => ⟨by have := hp.1; omega, fun e => by have h1 := (h.2.1.2.1.1 k e.symm).1; have := hp.1; have := hp.2.1; omega⟩) (by have := h.2.1.lt; have := hp.1; omega) (fits_all hv) hl).mono (by
    rintro e W' ⟨rfl, ⟨v', hx, hat⟩, hk, hb⟩
    exact ⟨rfl, hk, v', Pl.I.box hp h hk hb hx (hat_of hat)⟩)
theorem P_take (hp : p.Ok) (h : p.I w W v vr xb xr) (i : Int) (h0 : 0 ≤ i) (hi : i < xb.length) (hv : ∀ x ∈ xb, x.f1.f12.length ≤ 1048576) (hl : xb.length * 152 ≤ 140737488355328) :
    Calls Try.prog 11 #[.pointer (some ⟨p.g, 0, none⟩), .int .i64 i] W fun e W' => ∃ c', e = .returned (.tuple #[.agg c'.toArray, .int .i64 0]) ∧ Kd.FK k32 W' (fun k => W.heap.size ≤ k) (xb.getD i.toNat z32) c' ∧ Kept W W' (fun k => k = p.g ∨ some k = v.ownBlock) ∧ ∃ v', p.I w W' v' vr (xb.eraseIdx i.toNat) xr :=
  (Take_in p.g p.base i xb W _ v h.2.1 (h.fresh hp) h0 hi (fits_all hv) hl).mono (by
    rintro e W' ⟨c', rfl, hfk, ⟨v', hx, hf⟩, hk, hb⟩
    exact ⟨c', rfl, hfk, kept_of_but hk, v', Pl.I.box hp h (kept_of_but hk) hb hx (fun b e => .inr (hf b e))⟩)
theorem P_copy (hp : p.Ok) (h : p.I w W v vr xb xr) (i : Int) (h0 : 0 ≤ i) (hi : i < xb.length) (hv : ∀ x ∈ xb, x.f1.f12.length ≤ 1048576) (hl : (xb.length + 1) * 152 ≤ 140737488355328) :
    Calls Try.prog 15 #[.pointer (some ⟨p.g, 0, none⟩), .int .i64 i] W fun e W' => e = .returned (.int .i64 0) ∧ Kept W W' (fun k => k = p.g ∨ some k = v.ownBlock) ∧ ∃ v', p.I w W' v' vr (xb ++ [xb.getD i.toNat z32]) xr :=
  (Copy_in p.g p.base i xb W _ v h.2.1 (h.fresh hp) h0 hi (fits_all hv) hl).mono (by
    rintro e W' ⟨rfl, ⟨v', hx, hf⟩, hk, hb⟩
    exact ⟨rfl, kept_of_but hk, v', Pl.I.box hp h (kept_of_but hk) hb hx (fun b e => .inr (hf b e))⟩)
theorem R_put (hp : p.Ok) (h : p.I w W v vr xb xr) {A : Option Addr} {c : Nat} {l : List S32} (hF : Kd.F k32 W (fun k => k < p.base) A l.length l) (hl : (xr.length + l.length) * 152 ≤ 140737488355328) :
    Calls Try.prog 17 #[.pointer (some ⟨p.r, 0, none⟩), .slice A l.length c] W fun e W' => e = .returned (.int .i64 (l.length : Int)) ∧ Kept W W' (fun k => k = p.r ∨ some k = vr.ownBlock) ∧ ∃ vr', p.I w W' v vr' xb (xr ++ l) :=
  (RPut_calls p.r p.base A c xr l vr W _ _ h.2.2.1 (h.freshR hp) hF (fun k hk => ⟨.inl hk, fun e => by have := Kd.N_base h.2.1.2.1 k e.symm; omega⟩) (by have := h.2.2.1.lt; have := hp.2.2.1; omega) hl).mono (by
    rintro e W' ⟨rfl, ⟨v', hx, hf⟩, hk, hb⟩
    exact ⟨rfl, kept_of_but hk, v', Pl.I.ref hp h (kept_of_but hk) hb hx (fun b e => .inr (hf b e))⟩)
theorem R_take (hp : p.Ok) (h : p.I w W v vr xb xr) (i : Int) (h0 : 0 ≤ i) (hi : i < xr.length) (hl : xr.length * 152 ≤ 140737488355328) :
    Calls Try.prog 18 #[.pointer (some ⟨p.r, 0, none⟩), .int .i64 i] W fun e W' => ∃ c', e = .returned (.tuple #[.agg c'.toArray, .int .i64 0]) ∧ Kd.FK k32 W' (fun _ => True) (xr.getD i.toNat z32) c' ∧ Kept W W' (fun k => k = p.r ∨ some k = vr.ownBlock) ∧ ∃ vr', p.I w W' v vr' xb (xr.eraseIdx i.toNat) :=
  (RTake_in p.r p.base i xr vr W _ h.2.2.1 (h.freshR hp) h0 hi hl).mono (by
    rintro e W' ⟨c', rfl, hfk, ⟨v', hx, hf⟩, hk, hb⟩
    exact ⟨c', rfl, Kd.FK_mono hfk (fun _ _ => trivial), kept_of_but hk, v', Pl.I.ref hp h (kept_of_but hk) hb hx (fun b e => .inr (hf b e))⟩)
theorem R_copy (hp : p.Ok) (h : p.I w W v vr xb xr) (i : Int) (h0 : 0 ≤ i) (hi : i < xr.length) (hl : (xr.length + 1) * 152 ≤ 140737488355328) :
    Calls Try.prog 19 #[.pointer (some ⟨p.r, 0, none⟩), .int .i64 i] W fun e W' => e = .returned (.int .i64 0) ∧ Kept W W' (fun k => k = p.r ∨ some k = vr.ownBlock) ∧ ∃ vr', p.I w W' v vr' xb (xr ++ [xr.getD i.toNat z32]) :=
  (RCopy_in p.r p.base i xr vr W _ h.2.2.1 (h.freshR hp) h0 hi (by have := h.2.2.1.lt; have := hp.2.2.1; omega) hl).mono (by
    rintro e W' ⟨rfl, ⟨v', hx, hat⟩, hk, hb⟩
    exact ⟨rfl, hk, v', Pl.I.ref hp h hk hb hx (hat_of hat)⟩)
end
end Go.Proofs.Ytijbpncekdiodaa
