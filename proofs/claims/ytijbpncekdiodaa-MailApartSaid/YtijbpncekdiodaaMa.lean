/- The words of this seat; slices.Clone at variables and at sends; a whole struct stored. -/
import Derived.Test.YtijbpncekdiodaaPMailMovesx4
import Derived.Lib.Hide
import Derived.Lib.SliceRun
import Derived.Outline
namespace Go.Proofs.Ytijbpncekdiodaa
open Go.RowKit Go.Proofs.YtijbpncekdiodaaW.PrintWords Go.Proofs.YtijbpncekdiodaaW.PrintLast Go.Proofs.YtijbpncekdiodaaW.PrintMore
open Go.Proofs.Ytijbpncekdiodaa.PMailMoves

def zV : Value := .agg #[.string ⟨#[]⟩, .int .i64 0, .int .i64 0, .string ⟨#[]⟩]
def zS : Value := .agg #[.int .i64 0, .int .i64 0, .int .i64 0, .int .u64 0, .int .i64 0, .int .u64 0, .int .u64 0, .int .u64 0, .int .i64 0, .int .i64 0, .string ⟨#[]⟩, .string ⟨#[]⟩, .string ⟨#[]⟩, .slice none 0 0]
theorem info41 : (Try.prog.info? 41).map (fun i => (i.zero, i.size, i.bytes)) = some (some zV, 4, 48) := by kernel_rfl
theorem info32 : (Try.prog.info? 32).map (fun i => (i.zero, i.size, i.bytes)) = some (some zS, 14, 152) := by kernel_rfl
theorem size32 : (Try.prog.info? 32).map (·.size) = some 14 := by kernel_rfl

/-- An empty row of one's own. -/
theorem R_empty {α : Type} (d : Kd α) (e : Nat) (W : World) (base : Nat) (ok : Nat → Prop) (hb : base ≤ W.heap.size) (hok : ok W.heap.size) :
    d.R e (W.alloc (.cells #[] e)) base ok (.slice (some ⟨W.heap.size, 0, none⟩) 0 0) [] :=
  ⟨fun k hk => by simp [Value.ownBlock] at hk; subst hk; exact hok, OwnRow.lit W base (Reps.none _ _) hb (by simp)⟩
theorem C_none {α : Type} {d : Kd α} {w : World} {l : List α} (h : d.C w none l.length l) : l = [] := by
  cases l with
  | nil => rfl
  | cons x r => obtain ⟨ad, e, _⟩ := h.2.2 (by simp); cases e

set_option maxRecDepth 100000 in
theorem CloneVar_calls (A : Option Addr) (c : Nat) (l : List S41) (w : World) (h : Kd.C k41 w A l.length l) (hl : l.length * 48 ≤ 140737488355328) :
    Calls Try.prog 31 #[.slice A l.length c] w fun e w' => ∃ v, e = .returned v ∧ k41.R 41 w' w.heap.size (fun _ => True) v l ∧ Below w.heap.size w w' := by
  cases A with
  | none =>
    obtain rfl := C_none h
    have hnil : Sem.run Try.prog (binOp BinOp.eql 28 (Value.slice none ([] : List S41).length c) (Value.slice none 0 0)) w = .ok (.bool true) w := Lib.run_eql_slice_nil (P := Try.prog) w 28 41 none _ c 0 0 Try.underlying28
    simp only [List.length_nil] at hnil ⊢
    clear h hl
    go_enter Try.func31, Try.ntmps31
    go_wp2_with fail
    go_ret
    exact ⟨_, rfl, Kd.R_nil _ _ _ _ _, Below.refl _ _⟩
  | some ad =>
    have hnil : Sem.run Try.prog (binOp BinOp.eql 28 (Value.slice (some ad) l.length c) (Value.slice none 0 0)) w = .ok (.bool false) w := Lib.run_eql_slice_nil (P := Try.prog) w 28 41 (some ad) l.length c 0 0 Try.underlying28
    have HC := Lib.hid h
    have HL := Lib.hid hl
    clear h hl
    have HE := Lib.hid (R_empty k41 41 w w.heap.size (fun _ => True) (Nat.le_refl _) trivial)
    go_enter Try.func31, Try.ntmps31
    go_wp2_with (at_builtin; refine Kd.R_append_rows k41 (w0 := w) w.heap.size rfl (.tmp 5) (.tmp 6) 28 41 zV 48 rfl Try.underlying28 info41 rfl (by decide) (by decide) _ [] l (some ad) l.length c (fun _ => True) (fun _ => False) rfl rfl HE.out (Kd.C_alloc HC.out _) ?cK (fun _ hk => hk.elim) (fun _ _ => trivial) ?cB ?cb ?cl ?_; (case cK => exact (fun x cs hk => by obtain rfl := k41_open hk; exact k41_mkM _ _ _ x)); (case cB => exact below_alloc (Below.refl _ _) _); (case cb => exact (by simp)); (case cl => exact (by have := HL.out; simp; omega)); intro v1 w1 hr hb hg hat; have HR := Lib.hid hr; have HB := Lib.hid hb; clear hr hb hg hat)
    go_ret
    exact ⟨_, rfl, by have := HR.out; rwa [List.nil_append] at this, HB.out⟩

set_option maxRecDepth 100000 in
theorem CloneSend_calls (A : Option Addr) (c : Nat) (l : List S32) (w : World) (okl ok : Nat → Prop) (h : Kd.F k32 w okl A l.length l) (hok : ∀ k, okl k → ok k) (hfresh : ∀ k, w.heap.size ≤ k → ok k) (hl : l.length * 152 ≤ 140737488355328) :
    Calls Try.prog 25 #[.slice A l.length c] w fun e w' => ∃ v, e = .returned v ∧ Kd.N k32 32 w' w.heap.size ok v l ∧ Below w.heap.size w w' := by
  cases A with
  | none =>
    obtain rfl := C_none (Kd.F_now h)
    have hnil : Sem.run Try.prog (binOp BinOp.eql 22 (Value.slice none ([] : List S32).length c) (Value.slice none 0 0)) w = .ok (.bool true) w := Lib.run_eql_slice_nil (P := Try.prog) w 22 32 none _ c 0 0 Try.underlying22
    simp only [List.length_nil] at hnil ⊢
    clear h hl hok hfresh
    go_enter Try.func25, Try.ntmps25
    go_wp2_with fail
    go_ret
    exact ⟨_, rfl, Kd.N_nil _ _ _ _ _, Below.refl _ _⟩
  | some ad =>
    have hnil : Sem.run Try.prog (binOp BinOp.eql 22 (Value.slice (some ad) l.length c) (Value.slice none 0 0)) w = .ok (.bool false) w := Lib.run_eql_slice_nil (P := Try.prog) w 22 32 (some ad) l.length c 0 0 Try.underlying22
    have HC := Lib.hid (Kd.F_alloc (Kd.F_bound h) (.cells #[] 32))
    have HL := Lib.hid hl
    have HO := Lib.hid hok
    have HF := Lib.hid hfresh
    have HE := Lib.hid (Kd.R_N (R_empty k32 32 w w.heap.size ok (Nat.le_refl _) (hfresh _ (Nat.le_refl _))))
    clear h hl hok hfresh
    go_enter Try.func25, Try.ntmps25
    go_wp2_with (at_builtin; refine Kd.N_append_rows k32 (w0 := w) w.heap.size rfl (.tmp 5) (.tmp 6) 22 32 zS 152 rfl Try.underlying22 info32 rfl (by decide) (by decide) (.slice (some ⟨w.heap.size, 0, none⟩) 0 0) [] l (some ad) l.length c ok _ rfl rfl HE.out HC.out ?cK ?cF ?cB ?cb ?cl ?_; (case cK => exact (fun k hk => ⟨HO.out k hk.1, fun e => Nat.lt_irrefl _ (Nat.lt_of_lt_of_eq hk.2 (Option.some.inj e).symm)⟩)); (case cF => exact (fun k hk => HF.out k (by simp at hk; omega))); (case cB => exact below_alloc (Below.refl _ _) _); (case cb => exact (by simp)); (case cl => exact (by have := HL.out; simp; omega)); intro v1 w1 hr hb hg hat; have HR := Lib.hid hr; have HB := Lib.hid hb; clear hr hb hg hat)
    go_ret
    exact ⟨_, rfl, by have := HR.out; rwa [List.nil_append] at this, HB.out⟩

section
variable {P : Program} {ops : Array Oper} {rest : List Oper} {o : Oper} {a : Act} {Q : Exit → Act → World → Prop} {Kc : Act → World → Prop}
/-- A whole struct is stored into its variable. -/
theorem run_store_row {w : World} {g t ty : Nat} {cs cs' : Array Value} (hg : w.heap[g]? = some (.cells cs t (0, 0))) (hi : (P.info? ty).map (·.size) = some cs'.size) (hsz : cs.size = cs'.size) (h1 : ∀ q ∈ cs'.toList, q.oneCell' = true) :
    ∃ w1, (Instr.storeAt ty (.pointer (some ⟨g, 0, none⟩)) (.agg cs')).run P w = .ok () w1 ∧ w1.heap[g]? = some (.cells cs' t (0, 0)) ∧ w.grownBy w1 (some g) := by
  have hr := run_store_run (P := P) (o := 0) ty (.agg cs') cs'.toList hg rfl (by rw [Array.length_toList]; exact hi) (by rw [Array.length_toList]; omega) h1
  obtain ⟨cur', h3, h4, h5⟩ := setCells_row cs'.toList 0 w cs hg (by rw [Array.length_toList]; omega)
  obtain ⟨s1, s2, s3, s4⟩ := setCells_same g cs'.toList 0 w
  have hc : cur' = cs' := by
    apply Array.ext'
    rw [h5, List.take_zero, List.nil_append, List.drop_eq_nil_of_le (by rw [Array.length_toList, Array.length_toList]; omega), List.append_nil]
  rw [hc] at h3
  exact ⟨_, hr, h3, s1, s2, s3, by rw [s4]; exact Nat.le_refl _, fun k _ hk => setCells_far _ _ k (fun e => hk (by rw [e]))⟩
theorem wpList_store_row (hgd : o.guard = none) (hN : o.dst = none) (ty : TypeId) (x y : Operand) (ho : o.op = .store ty x y) {w : World} {g t : Nat} {cs cs' : Array Value} (hx : a.eval x = .pointer (some ⟨g, 0, none⟩)) (hy : a.eval y = .agg cs')
    (hg : w.heap[g]? = some (.cells cs t (0, 0))) (hi : (P.info? ty).map (·.size) = some cs'.size) (hsz : cs.size = cs'.size) (h1 : ∀ q ∈ cs'.toList, q.oneCell' = true)
    (h : ∀ w1, w1.heap[g]? = some (.cells cs' t (0, 0)) → w.grownBy w1 (some g) → wpList P ops Q rest a w1) : wpList P ops Q (o :: rest) a w := by
  obtain ⟨w1, hr, h2, h3⟩ := run_store_row (P := P) hg hi hsz h1
  refine wpList_plain hgd fun K hK => ?_
  unfold Oper.wp execOp
  simp only [ho, hx, hy, Sem.run_bind, Sem.run_pure, Result.andThen_ok, hr]
  show K (a.put o.dst undef) _
  rw [hN]
  exact hK _ _ (h w1 h2 h3)
theorem step_store_row (hw : Region.wanted o (yielded ops a.tmps) = true) (hN : o.dst = none) (ty : TypeId) (x y : Operand) (ho : o.op = .store ty x y) {w : World} {g t : Nat} {cs cs' : Array Value} (hx : a.eval x = .pointer (some ⟨g, 0, none⟩)) (hy : a.eval y = .agg cs')
    (hg : w.heap[g]? = some (.cells cs t (0, 0))) (hi : (P.info? ty).map (·.size) = some cs'.size) (hsz : cs.size = cs'.size) (h1 : ∀ q ∈ cs'.toList, q.oneCell' = true)
    (h : ∀ w1, w1.heap[g]? = some (.cells cs' t (0, 0)) → w.grownBy w1 (some g) → Kc (a.put none undef) w1) :
    if Region.wanted o (yielded ops a.tmps) = true then Oper.wp P o a w Kc Q else Kc (a.put o.dst undef) w := by
  obtain ⟨w1, hr, h2, h3⟩ := run_store_row (P := P) hg hi hsz h1
  rw [if_pos hw]
  unfold Oper.wp execOp
  simp only [ho, hx, hy, Sem.run_bind, Sem.run_pure, Result.andThen_ok, hr]
  show Kc (a.put o.dst undef) _
  rw [hN]
  exact h w1 h2 h3
end
end Go.Proofs.Ytijbpncekdiodaa
