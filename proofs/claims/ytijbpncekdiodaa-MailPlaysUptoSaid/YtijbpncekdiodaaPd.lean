/- A range over a function, begun; its rounds. Laid by gen_pd.py. -/
import Derived.Test.YtijbpncekdiodaaPb
namespace Go.Proofs.Ytijbpncekdiodaa
open Go.RowKit Go.Shelf Go.Proofs.YtijbpncekdiodaaW.PrintWords Go.Proofs.YtijbpncekdiodaaW.PrintLast Go.Proofs.YtijbpncekdiodaaW.PrintMore
set_option linter.unusedVariables false

variable {P : Program} {n m l : Nat}
/-- The loop is entered: its record and the block of its rounds' deferred calls are new; how it may be left. -/
theorem range_enter {g : Operand} {ps : Array Tmp} {assign body : Code} {Q : Exit → Act → World → Prop} {a : Act} {w : World} (gf : Nat) (lb : Array Value) (hg : a.eval g = .func (.func gf) #[] lb)
    (eg : ∀ args w, (callFunc gf args).run P w = .ok (.enter gf args) w)
    (h : ∀ (r : Loop) (W1 : World), r.state = .ready → r.pending = none → r.params = ps → r.assign = assign → r.body = body → r.tmps = a.tmps → W1.heap[w.heap.size + 1]? = some (.loop r) → W1.heap[w.heap.size]? = some (.deferred (some [])) → Below w.heap.size w W1 → W1.heap.size = w.heap.size + 2 →
      CallsIn Fence.wide n P gf (#[.func (.yield (w.heap.size + 1)) #[] #[]] ++ lb) W1 fun e W2 => (∃ v, e = .returned v) ∧ ∃ r2 : Loop, W2.heap[w.heap.size + 1]? = some (.loop r2) ∧ r2.state ≠ .busy ∧
        ∀ W3, W3 = W2.putObj (w.heap.size + 1) (.loop { r2 with state := .exhausted }) →
          match r2.pending with
          | none => Q .normal { a with defers := { target := .collected w.heap.size, args := #[] } :: a.defers } W3
          | some c => c.wpIn Fence.wide (n + 1) P Q { a with defers := { target := .collected w.heap.size, args := #[] } :: a.defers } W3) :
    (Code.rangeFunc g ps assign body).wpIn Fence.wide (n + 1) P Q a w := by
  refine wpIn_rangeFunc fun fn _ => ?_
  obtain ⟨r, hr⟩ : ∃ r : Loop, r = { state := .ready, pending := none, fn, tmps := a.tmps, params := ps, assign, body, defers := w.heap.size } := ⟨_, rfl⟩
  obtain ⟨W1, hW1⟩ : ∃ W1, W1 = (w.alloc (.deferred (some []))).alloc (.loop r) := ⟨_, rfl⟩
  have hb : Below w.heap.size w W1 := hW1 ▸ below_alloc (below_alloc (Below.refl _ _) _) _
  have hL : W1.heap[w.heap.size + 1]? = some (.loop r) := hW1 ▸ heap_alloc2_new w _ _
  have hD : W1.heap[w.heap.size]? = some (.deferred (some [])) := hW1 ▸ blk_alloc (blk_new w _) _
  have hrun : (Instr.enterLoop fn a.tmps ps assign body Fence.wide.round).run P w = .ok (w.heap.size + 1, [{ target := .collected w.heap.size, args := #[] }]) W1 := by
    rw [hW1, hr]; exact run_enterLoop_outer _ _ _ _ _
  have hc := h r W1 (by rw [hr]) (by rw [hr]) (by rw [hr]) (by rw [hr]) (by rw [hr]) (by rw [hr]) hL hD hb (by rw [hW1]; simp)
  refine ⟨_, _, W1, { target := .fn (.func gf) lb, args := #[.func (.yield (w.heap.size + 1)) #[] #[]] }, W1, gf, _, W1, hrun, ?_, fun _ _ => trivial, ?_, fun _ => Nat.le_add_left 1 n, hc.mono ?_⟩
  · simp only [resolve, hg]
    simp [go_sem]
  · simp [invoke, go_sem, eg]
  · rintro e W2 ⟨⟨v, rfl⟩, r2, hl, hs, hk⟩
    exact ⟨r2.pending, _, run_endLoop hl hs, hk _ rfl⟩

/-- A round: the parameters are assigned, the body walked. -/
theorem round_enter {r : Loop} (rb : Loop) (hrb : rb = { r with state := .busy }) {W : World} {args : Array Value} {R : Ending → World → Prop} (hl : W.heap[l]? = some (.loop r)) (hr : r.state = .ready) (hs : args.size = r.params.size)
    (h : r.assign.wpIn (Fence.wide.inRound l) m P (Exit.then (fun a₁ w₁ => w₁.heap[l]? = some (.loop r) ∧ r.body.wpIn (Fence.wide.inRound l) m P (roundPost P l R) a₁ (w₁.putObj l (.loop rb))) (fun _ _ _ => False))
      { tmps := (r.params.zip args).foldl (fun tmps (t, a) => tmps.setIfInBounds t a) r.tmps, defers := [] } W) : YieldAt Fence.wide m P l args W R := by
  refine ⟨r.fn, _, r.assign, r.body, run_yield hl hs, roundIn_of_wpIn trivial (wpIn_mono h ?_)⟩
  intro e a₁ w₁ hq
  cases e with
  | normal => exact ⟨_, run_beginRound hq.1 hr, hrb ▸ hq.2⟩
  | _ => exact hq
theorem round_goes {r : Loop} {W : World} {a : Act} {R : Ending → World → Prop} (hl : W.heap[l]? = some (.loop r)) (h : R (.returned (.bool true)) (W.putObj l (.loop { r with state := .ready, pending := none }))) : roundPost P l R .normal a W :=
  ⟨_, _, run_endRound none hl, h⟩
theorem round_leaves {r : Loop} {W : World} {a : Act} {R : Ending → World → Prop} (id : Nat) (hl : W.heap[l]? = some (.loop r)) (h : R (.returned (.bool false)) (W.putObj l (.loop { r with state := .done, pending := some (.exit id) }))) : roundPost P l R (.exit id) a W :=
  ⟨_, _, run_endRound (some (.exit id)) hl, h⟩
theorem rec_back {r rb : Loop} (hrb : rb = { r with state := .busy }) (h1 : r.state = .ready) (h2 : r.pending = none) : ({ rb with state := .ready, pending := none } : Loop) = r := by subst hrb; cases r; simp_all
def noDefer (ops : Array Oper) : Bool := ops.all fun o => match o.op with | .defer _ => false | _ => true
theorem noDefer_spec {ops : Array Oper} (h : noDefer ops = true) : ∀ (i : Nat) (o : Oper), ops[i]? = some o → ∀ c, o.op ≠ .defer c := by
  intro i o hi c hc
  unfold noDefer at h
  obtain ⟨hlt, rfl⟩ := Array.getElem?_eq_some_iff.1 hi
  have := (Array.all_eq_true.1 h) i hlt
  rw [hc] at this
  cases this
end Go.Proofs.Ytijbpncekdiodaa
