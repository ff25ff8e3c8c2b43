/- slices.Clone at texts and at cells. Laid by gen_sc.py. · Laws of this session's own, as in the mail seat's Ma, Mi, Nb, Nc, Pb, Pd: structs stored and loaded, a round's region, a range over a function. Laid by gen_sd.py. · merge.Over: its iterator. Laid by gen_se.py. · merge.Over. Laid by gen_sf.py. · A run's bytes, plain; four; the maker's bytes. Laid by gen_sg.py. · What Open answers, plain; what was built is opened as it was. · What was built, plain: its blocks; it is opened as it was; greater blocks are no more. · A run cut short is none with as many rows; greater blocks are no more. -/
import Derived.Test.YtfemjlhfgmbcmaaVa
import Derived.Test.YtfemjlhfgmbcmaaPRunBuildsx0
import Derived.Lib.SliceRun
import Derived.RangeFuncNested
import Derived.RangeFuncBound
import Derived.RangeFuncCalls
import Derived.RangeFuncLeaves
import Derived.RangeFuncBox
import Derived.Shelf.Abstract
import Derived.Shelf.RegionOpen
import Derived.WalkKit
import Derived.OwnWalkIn
import Derived.TacticsInMore
import Derived.LoopNIn
import Derived.LoopIn
import Derived.Stop.RegionWithIn
import Derived.Test.YtfemjlhfgmbcmaaFf
import Derived.Test.YtfemjlhfgmbcmaaLa
namespace Go.Proofs.Ytfemjlhfgmbcmaa
open Go.RowKit Go.Proofs.YtfemjlhfgmbcmaaW.PrintWords Go.Proofs.YtfemjlhfgmbcmaaW.PrintLast Go.Proofs.YtfemjlhfgmbcmaaW.PrintMore
open Go.Proofs.Ytfemjlhfgmbcmaa.PRunBuilds
set_option linter.unusedVariables false
set_option linter.unusedSimpArgs false

def zC : Value := .agg #[.string ⟨#[]⟩, .bool false]
theorem info38 : (Try.prog.info? 38).map (fun i => (i.zero, i.size, i.bytes)) = some (some zC, 2, 24) := by kernel_rfl
theorem R_empty {α : Type} (d : Kd α) (e : Nat) (W : World) (base : Nat) (ok : Nat → Prop) (hb : base ≤ W.heap.size) (hok : ok W.heap.size) :
    d.R e (W.alloc (.cells #[] e)) base ok (.slice (some ⟨W.heap.size, 0, none⟩) 0 0) [] :=
  ⟨fun k hk => by simp [Value.ownBlock] at hk; subst hk; exact hok, OwnRow.lit W base (Reps.none _ _) hb (by simp)⟩
theorem C_none {α : Type} {d : Kd α} {w : World} {l : List α} (h : d.C w none l.length l) : l = [] := by
  cases l with
  | nil => rfl
  | cons x r => obtain ⟨ad, e, _⟩ := h.2.2 (by simp); cases e
theorem str_open {w : World} {x : ByteArray} {cs : List Value} (h : Kd.string.K w x cs) : cs = [.string x] := h
set_option maxRecDepth 100000 in
theorem CloneStr_calls (A : Option Addr) (c : Nat) (l : List ByteArray) (w : World) (h : Kd.C Kd.string w A l.length l) (hl : l.length * 16 ≤ 140737488355328) :
    Calls Try.prog 103 #[.slice A l.length c] w fun e w' => ∃ v, e = .returned v ∧ Kd.R Kd.string 9 w' w.heap.size (fun _ => True) v l ∧ Below w.heap.size w w' := by
  cases A with
  | none =>
    obtain rfl := C_none h
    have hnil : Sem.run Try.prog (binOp BinOp.eql 57 (Value.slice none ([] : List ByteArray).length c) (Value.slice none 0 0)) w = .ok (.bool true) w := Lib.run_eql_slice_nil (P := Try.prog) w 57 9 none _ c 0 0 Try.underlying57
    simp only [List.length_nil] at hnil ⊢
    clear h hl
    go_enter Try.func103, Try.ntmps103
    go_wp2_with fail
    go_ret
    exact ⟨_, rfl, Kd.R_nil _ _ _ _ _, Below.refl _ _⟩
  | some ad =>
    have hnil : Sem.run Try.prog (binOp BinOp.eql 57 (Value.slice (some ad) l.length c) (Value.slice none 0 0)) w = .ok (.bool false) w := Lib.run_eql_slice_nil (P := Try.prog) w 57 9 (some ad) l.length c 0 0 Try.underlying57
    have HC := Lib.hid h
    have HL := Lib.hid hl
    clear h hl
    have HE := Lib.hid (R_empty Kd.string 9 w w.heap.size (fun _ => True) (Nat.le_refl _) trivial)
    go_enter Try.func103, Try.ntmps103
    go_wp2_with (at_builtin; refine Kd.R_append_rows Kd.string (w0 := w) w.heap.size rfl (.tmp 5) (.tmp 6) 57 9 (.string ⟨#[]⟩) 16 rfl Try.underlying57 info9 rfl (by decide) (by decide) _ [] l (some ad) l.length c (fun _ => True) (fun _ => False) rfl rfl HE.out (Kd.C_alloc HC.out _) ?cK (fun _ hk => hk.elim) (fun _ _ => trivial) ?cB ?cb ?cl ?_; (case cK => exact (fun x cs hk => by obtain rfl := str_open hk; exact rfl)); (case cB => exact below_alloc (Below.refl _ _) _); (case cb => exact (by simp)); (case cl => exact (by have := HL.out; simp; omega)); intro v1 w1 hr hb hg hat; have HR := Lib.hid hr; have HB := Lib.hid hb; clear hr hb hg hat)
    go_ret
    exact ⟨_, rfl, by have := HR.out; rwa [List.nil_append] at this, HB.out⟩
set_option maxRecDepth 100000 in
theorem CloneCell_calls (A : Option Addr) (c : Nat) (l : List S38) (w : World) (h : Kd.C k38 w A l.length l) (hl : l.length * 24 ≤ 140737488355328) :
    Calls Try.prog 104 #[.slice A l.length c] w fun e w' => ∃ v, e = .returned v ∧ Kd.R k38 38 w' w.heap.size (fun _ => True) v l ∧ Below w.heap.size w w' := by
  cases A with
  | none =>
    obtain rfl := C_none h
    have hnil : Sem.run Try.prog (binOp BinOp.eql 136 (Value.slice none ([] : List S38).length c) (Value.slice none 0 0)) w = .ok (.bool true) w := Lib.run_eql_slice_nil (P := Try.prog) w 136 38 none _ c 0 0 Try.underlying136
    simp only [List.length_nil] at hnil ⊢
    clear h hl
    go_enter Try.func104, Try.ntmps104
    go_wp2_with fail
    go_ret
    exact ⟨_, rfl, Kd.R_nil _ _ _ _ _, Below.refl _ _⟩
  | some ad =>
    have hnil : Sem.run Try.prog (binOp BinOp.eql 136 (Value.slice (some ad) l.length c) (Value.slice none 0 0)) w = .ok (.bool false) w := Lib.run_eql_slice_nil (P := Try.prog) w 136 38 (some ad) l.length c 0 0 Try.underlying136
    have HC := Lib.hid h
    have HL := Lib.hid hl
    clear h hl
    have HE := Lib.hid (R_empty k38 38 w w.heap.size (fun _ => True) (Nat.le_refl _) trivial)
    go_enter Try.func104, Try.ntmps104
    go_wp2_with (at_builtin; refine Kd.R_append_rows k38 (w0 := w) w.heap.size rfl (.tmp 5) (.tmp 6) 136 38 zC 24 rfl Try.underlying136 info38 rfl (by decide) (by decide) _ [] l (some ad) l.length c (fun _ => True) (fun _ => False) rfl rfl HE.out (Kd.C_alloc HC.out _) ?cK (fun _ hk => hk.elim) (fun _ _ => trivial) ?cB ?cb ?cl ?_; (case cK => exact (fun x cs hk => by obtain rfl := k38_open hk; exact k38_mkM _ _ _ x)); (case cB => exact below_alloc (Below.refl _ _) _); (case cb => exact (by simp)); (case cl => exact (by have := HL.out; simp; omega)); intro v1 w1 hr hb hg hat; have HR := Lib.hid hr; have HB := Lib.hid hb; clear hr hb hg hat)
    go_ret
    exact ⟨_, rfl, by have := HR.out; rwa [List.nil_append] at this, HB.out⟩
end Go.Proofs.Ytfemjlhfgmbcmaa

namespace Go.Proofs.Ytfemjlhfgmbcmaa
open Go.RowKit Go.Shelf Go.Proofs.YtfemjlhfgmbcmaaW.PrintWords Go.Proofs.YtfemjlhfgmbcmaaW.PrintLast Go.Proofs.YtfemjlhfgmbcmaaW.PrintMore
set_option linter.unusedVariables false
set_option linter.unusedSimpArgs false
attribute [local go_sem] Oper.semAt_some

section
variable {P : Program} {ops : Array Oper} {rest : List Oper} {o : Oper} {a : Act} {Q : Exit → Act → World → Prop} {Kc : Act → World → Prop}
/-- A whole struct is stored into its variable. -/
theorem run_store_row {w : World} {g t ty : Nat} {cs cs' : Array Value} (hg : w.heap[g]? = some (.cells cs t (0, 0))) (hi : (P.info? ty).map (·.size) = some cs'.size) (hsz : cs.size = cs'.size) (h1 : ∀ q ∈ cs'.toList, q.oneCell' = true) :
    ∃ w1, (Instr.storeAt ty (.pointer (some ⟨g, 0, none⟩)) (.agg cs')).run P w = .ok () w1 ∧ w1.heap[g]? = some (.cells cs' t (0, 0)) ∧ w.grownBy w1 (some g) := by
  have hr := run_store_run (P := P) (o := 0) ty (.agg cs') cs'.toList hg rfl (by rw [Array.length_toList]; exact hi) (by rw [Array.length_toList]; omega) h1
  obtain ⟨cur', h3, h4, h5⟩ := setCells_row cs'.toList 0 w cs hg (by rw [Array.length_toList]; omega)
  obtain ⟨s1, s2, s3, s4⟩ := setCells_same g cs'.toList 0 w
  have hc : cur' = cs' := by
    apply Array.ext'
    rw [h5, List.take_zero, List.nil_append, List.drop_eq_nil_of_le (by rw [Array.length_toList, Array.length_toList]; omega), List.append_nil]
  rw [hc] at h3
  exact ⟨_, hr, h3, s1, s2, s3, by rw [s4]; exact Nat.le_refl _, fun k _ hk => setCells_far _ _ k (fun e => hk (by rw [e]))⟩
theorem wpList_store_row (hgd : o.guard = none) (hN : o.dst = none) (ty : TypeId) (x y : Operand) (ho : o.op = .store ty x y) {w : World} {g t : Nat} {cs cs' : Array Value} (hx : a.eval x = .pointer (some ⟨g, 0, none⟩)) (hy : a.eval y = .agg cs')
    (hg : w.heap[g]? = some (.cells cs t (0, 0))) (hi : (P.info? ty).map (·.size) = some cs'.size) (hsz : cs.size = cs'.size) (h1 : ∀ q ∈ cs'.toList, q.oneCell' = true)
    (h : ∀ w1, w1.heap[g]? = some (.cells cs' t (0, 0)) → w.grownBy w1 (some g) → wpList P ops Q rest a w1) : wpList P ops Q (o :: rest) a w := by
  obtain ⟨w1, hr, h2, h3⟩ := run_store_row (P := P) hg hi hsz h1
  refine wpList_plain hgd fun K hK => ?_
  unfold Oper.wp execOp
  simp only [ho, hx, hy, Sem.run_bind, Sem.run_pure, Result.andThen_ok, hr]
  show K (a.put o.dst undef) _
  rw [hN]
  exact hK _ _ (h w1 h2 h3)
theorem step_store_row (hw : Region.wanted o (yielded ops a.tmps) = true) (hN : o.dst = none) (ty : TypeId) (x y : Operand) (ho : o.op = .store ty x y) {w : World} {g t : Nat} {cs cs' : Array Value} (hx : a.eval x = .pointer (some ⟨g, 0, none⟩)) (hy : a.eval y = .agg cs')
    (hg : w.heap[g]? = some (.cells cs t (0, 0))) (hi : (P.info? ty).map (·.size) = some cs'.size) (hsz : cs.size = cs'.size) (h1 : ∀ q ∈ cs'.toList, q.oneCell' = true)
    (h : ∀ w1, w1.heap[g]? = some (.cells cs' t (0, 0)) → w.grownBy w1 (some g) → Kc (a.put none undef) w1) :
    if Region.wanted o (yielded ops a.tmps) = true then Oper.wp P o a w Kc Q else Kc (a.put o.dst undef) w := by
  obtain ⟨w1, hr, h2, h3⟩ := run_store_row (P := P) hg hi hsz h1
  rw [if_pos hw]
  unfold Oper.wp execOp
  simp only [ho, hx, hy, Sem.run_bind, Sem.run_pure, Result.andThen_ok, hr]
  show Kc (a.put o.dst undef) _
  rw [hN]
  exact h w1 h2 h3
end
section
variable {P : Program} {ops : Array Oper} {rest : List Oper} {o : Oper} {a : Act} {Q : Exit → Act → World → Prop}
/-- A struct loaded from wherever its cells lie. -/
theorem run_loadAt_at (w : World) (ad : Addr) (ty : TypeId) (cs : List Value) (d : TypeDesc) (hc : ∀ j u, cs[j]? = some u → w.cell? (ad.add j) = some u)
    (hu : P.underlying ty = some d) (hd : d.isRow = true) (hi : (P.info? ty).map (·.size) = some cs.length) :
    (Instr.loadAt ty (.pointer (some ad))).run P w = .ok (.agg cs.toArray) w := by
  have hl : (loadCells ad cs.length).run P w = .ok cs.toArray w := run_loadCells_list (P := P) w ad cs hc
  cases hq : P.info? ty with
  | none => simp [hq] at hi
  | some i =>
    have hs : i.size = cs.length := by simpa [hq] using hi
    have hagg : (isAgg ty).run P w = .ok true w := by
      unfold isAgg
      rw [Sem.run_bind, run_underlying hu w]
      cases d <;> simp_all
    simp [Instr.loadAt, Instr.sureAddr, loadVar, Sem.run_bind, hagg, sizeOf, typeInfo, hq, hs, hl]
theorem wpList_load_at {w : World} (hgd : o.guard = none) (ty : TypeId) (x : Operand) (ho : o.op = .load ty x) (ad : Addr) (hx : a.eval x = .pointer (some ad)) (cs : List Value) (d : TypeDesc) (hc : ∀ j u, cs[j]? = some u → w.cell? (ad.add j) = some u)
    (hu : P.underlying ty = some d) (hd : d.isRow = true) (hi : (P.info? ty).map (·.size) = some cs.length)
    (h : wpList P ops Q rest (a.put o.dst (.agg cs.toArray)) w) : wpList P ops Q (o :: rest) a w := by
  refine wpList_plain hgd fun K hK => ?_
  unfold Oper.wp execOp
  simp only [ho, hx, Sem.run_bind, Sem.run_pure, Result.andThen_ok, run_loadAt_at w ad ty cs d hc hu hd hi]
  exact hK _ _ h
end

section
variable {F : Fence} {n : Nat} {P : Program} {ops : Array Oper} {rest : List Oper} {o : Oper} {a : Act} {Q : Exit → Act → World → Prop} {w w1 : World}
/-- An operation that is no call and no defer statement, inside a fence. -/
theorem wpListIn_event {v : Value} (hgd : o.guard = none) (hab : o.about P w a.eval = none) (hdf : ∀ c, o.op ≠ .defer c) (hrun : (execOp a.eval o).run P w = .ok (.value v) w1)
    (h : wpListIn F n P ops Q rest (a.put o.dst v) w1) : wpListIn F n P ops Q (o :: rest) a w := by
  refine wpListIn_plain hgd fun K hK => ?_
  refine ⟨fun f hf => (by rw [hab] at hf; exact absurd hf (by simp)), ?_⟩
  rw [Oper.semAt_plain F _ _ hdf, hrun]
  exact hK _ _ h
theorem wpListIn_skips (hgd : o.guard = none) (hab : o.about P w a.eval = none) (hdf : ∀ c, o.op ≠ .defer c) (hrun : (execOp a.eval o).run P w = .ok .skip w1)
    (h : wpListIn F n P ops Q rest (a.put o.dst undef) w1) : wpListIn F n P ops Q (o :: rest) a w := by
  refine wpListIn_plain hgd fun K hK => ?_
  refine ⟨fun f hf => (by rw [hab] at hf; exact absurd hf (by simp)), ?_⟩
  rw [Oper.semAt_plain F _ _ hdf, hrun]
  exact hK _ _ h
theorem gate_dstIn {N : Tmp} (_hN : o.dst = some N) (h : wpListIn F n P ops Q (o :: rest) a w) : wpListIn F n P ops Q (o :: rest) a w := h
theorem box_eventIn (hgd : o.guard = none) {N : Tmp} (_hd : o.dst = some N) {cs : Array Value} {t : TypeId} (hab : o.about P w a.eval = none) (hdf : ∀ c, o.op ≠ .defer c)
    (hrun : (execOp a.eval o).run P w = .ok (.value (.pointer (some ⟨w.heap.size, 0, none⟩))) (w.alloc (.cells cs t (0, 0))))
    (h : ∀ g, g = w.heap.size → ∀ w1, w1.heap[g]? = some (.cells cs t (0, 0)) → Below w.heap.size w w1 → KeepsOthers w w1 → wpListIn F n P ops Q rest (a.put o.dst (.pointer (some ⟨g, 0, none⟩))) w1) : wpListIn F n P ops Q (o :: rest) a w :=
  wpListIn_event hgd hab hdf hrun (h _ rfl _ (blk_new w _) (below_alloc (Below.refl _ _) _) (KeepsOthers.alloc _ _))
theorem wpListIn_store_row (hgd : o.guard = none) (hN : o.dst = none) (ty : TypeId) (x y : Operand) (ho : o.op = .store ty x y) {g t : Nat} {cs cs' : Array Value} (hx : a.eval x = .pointer (some ⟨g, 0, none⟩)) (hy : a.eval y = .agg cs')
    (hg : w.heap[g]? = some (.cells cs t (0, 0))) (hi : (P.info? ty).map (·.size) = some cs'.size) (hsz : cs.size = cs'.size) (h1 : ∀ q ∈ cs'.toList, q.oneCell' = true)
    (h : ∀ w1, w1.heap[g]? = some (.cells cs' t (0, 0)) → w.grownBy w1 (some g) → wpListIn F n P ops Q rest a w1) : wpListIn F n P ops Q (o :: rest) a w := by
  obtain ⟨w1, hr, h2, h3⟩ := run_store_row (P := P) hg hi hsz h1
  have h4 := h w1 h2 h3
  refine wpListIn_skips (w1 := w1) hgd (by simp [Oper.about, ho]) (by rw [ho]; intro c hc; cases hc) (by simp only [execOp, ho, hx, hy, Sem.run_bind, Sem.run_pure, Result.andThen_ok, hr]) ?_
  show wpListIn F n P ops Q rest (a.put o.dst undef) w1
  rw [hN]
  exact h4
end

section
variable {P : Program} {ops : Array Oper} {op : Oper} {a : Act} {S : World → Prop}
theorem yieldsIf_load_adr (hw : Region.wanted op (yielded ops a.tmps) = true) (ty : TypeId) (x : Operand) (ho : op.op = .load ty x)
    (ad : Addr) (hx : a.eval x = .pointer (some ad)) (cs : List Value) (d : TypeDesc) (hS : ∀ w, S w → ∀ j u, cs[j]? = some u → w.cell? (ad.add j) = some u)
    (hu : P.underlying ty = some d) (hd : d.isRow = true) (hi : (P.info? ty).map (·.size) = some cs.length) : YieldsIf P ops S op (.agg cs.toArray) a :=
  .inl ⟨hw, fun w hw' => by
    unfold execOp
    simp only [ho, hx, Sem.run_bind, Sem.run_pure, Result.andThen_ok, run_loadAt_at w ad ty cs d (hS w hw') hu hd hi]⟩
end
section
variable {F : Fence} {n : Nat} {P : Program} {ops : Array Oper} {rest : List Oper} {o : Oper} {a : Act} {Q : Exit → Act → World → Prop} {w w1 : World}
theorem wpListIn_load_at (hgd : o.guard = none) (ty : TypeId) (x : Operand) (ho : o.op = .load ty x) (ad : Addr) (hx : a.eval x = .pointer (some ad)) (cs : List Value) (d : TypeDesc) (hc : ∀ j u, cs[j]? = some u → w.cell? (ad.add j) = some u)
    (hu : P.underlying ty = some d) (hd : d.isRow = true) (hi : (P.info? ty).map (·.size) = some cs.length)
    (h : wpListIn F n P ops Q rest (a.put o.dst (.agg cs.toArray)) w) : wpListIn F n P ops Q (o :: rest) a w := by
  refine wpListIn_event hgd (by simp [Oper.about, ho]) (by rw [ho]; intro c hc; cases hc) ?_ h
  unfold execOp
  simp only [ho, hx, Sem.run_bind, Sem.run_pure, Result.andThen_ok, run_loadAt_at w ad ty cs d hc hu hd hi]
theorem wpListIn_load_row (hgd : o.guard = none) (ty : TypeId) (x : Operand) (ho : o.op = .load ty x) (g : Nat) (hx : a.eval x = .pointer (some ⟨g, 0, none⟩)) (cs : List Value) (t : TypeId) (d : TypeDesc) (hc : w.heap[g]? = some (.cells cs.toArray t (0, 0)))
    (hu : P.underlying ty = some d) (hd : d.isRow = true) (hi : (P.info? ty).map (·.size) = some cs.length)
    (h : wpListIn F n P ops Q rest (a.put o.dst (.agg cs.toArray)) w) : wpListIn F n P ops Q (o :: rest) a w :=
  wpListIn_load_at hgd ty x ho ⟨g, 0, none⟩ hx cs d (fun j u hu => by rw [show (⟨g, 0, none⟩ : Addr).add j = ⟨g, j, none⟩ by rw [add_at, Nat.zero_add]]; rw [blk_cell hc]; simpa using hu) hu hd hi h

/-- What an operation that is no defer does in a round. -/
theorem wpIn_round_oper {K : Act → World → Prop} {l m : Nat} (hd : ∀ c, o.op ≠ .defer c) (h : o.wp P a w K Q) : o.wpIn (Fence.wide.inRound l) m P a w K Q := by
  refine ⟨fun _ _ => trivial, ?_⟩
  have hs : o.semAt (Fence.wide.inRound l).round a.eval = execOp a.eval o := Oper.semAt_some l _ _ hd
  rw [hs]
  unfold Oper.wp at h
  generalize (execOp a.eval o).run P w = r at h ⊢
  have hz : ¬ (Fence.wide.inRound l).depth.isSome = true := by intro h; cases h
  cases r with
  | ok x w' =>
    cases x <;> simp only [Oper.upon, Oper.uponIn] at h ⊢
    all_goals first | exact h | exact ⟨fun h => absurd h hz, CallsIn.inRound l (callsIn_wide.2 h)⟩ | exact ⟨fun h => absurd h hz, fun c cs _ => let ⟨v, w', r, s⟩ := h c cs; ⟨v, w', r, stepsIn_wide.2 s⟩⟩
  | halt x w' => cases x <;> simp only [Oper.upon, Oper.uponIn] at h ⊢ <;> exact h
theorem wpAnyIn_round {md : Region.Mode} {l m : Nat} (hdf : ∀ (i : Nat) (o : Oper), ops[i]? = some o → ∀ c, o.op ≠ .defer c) (hQ : ¬ LetsOut Q) : ∀ (fuel : Nat) (listed : Array Bool) (a : Act) (w : World), wpAny P md ops Q fuel listed a w → wpAnyIn (Fence.wide.inRound l) m P md ops Q fuel listed a w
  | 0, _, _, _, h => h
  | fuel + 1, listed, a, w, h => ⟨h.1, fun i hi => by
    have h2 := h.2 i hi
    unfold wpOp at h2
    unfold wpOpIn
    cases ho : ops[i]? with
    | none =>
      simp only [ho] at h2
      exact wpAnyIn_round hdf hQ fuel _ _ _ h2
    | some o =>
      simp only [ho] at h2
      simp only
      split
      · rename_i hw
        simp only [hw, if_true] at h2
        rcases h2 with h2 | ⟨_, h2⟩
        · exact wpIn_round_oper (hdf i o ho) (Oper.wp_mono (fun a w h => wpAnyIn_round hdf hQ fuel _ a w h) h2)
        · exact absurd h2 hQ
      · rename_i hw
        simp only [hw] at h2
        exact ⟨fun _ _ => trivial, wpAnyIn_round hdf hQ fuel _ _ _ h2⟩⟩
theorem startR_ {S : World → Prop} {ds : List Nat} {id k l m : Nat} (lst : Array Bool) (hm : P.follows .mixedOrders = true) (hn : ops.size = k) (hl : Array.replicate k false = lst) (hdf : ∀ (i : Nat) (o : Oper), ops[i]? = some o → ∀ c, o.op ≠ .defer c) (hQ : ¬ LetsOut Q) (hS : S w.drew)
    (h : S w.drew → wpAnyLast P .any ops Q S ds k lst a w.drew) : (Code.region id ops true).wpIn (Fence.wide.inRound l) m P Q a w := by
  subst hn
  subst hl
  exact wpIn_region_any hm (wpAnyIn_round hdf hQ _ _ _ _ (wpAny_of_last _ _ _ _ (h hS)))
end

variable {P : Program} {n m l : Nat}
/-- The loop is entered: its record and the block of its rounds' deferred calls are new; how it may be left. -/
theorem range_enter {g : Operand} {ps : Array Tmp} {assign body : Code} {Q : Exit → Act → World → Prop} {a : Act} {w : World} (gf : Nat) (lb : Array Value) (hg : a.eval g = .func (.func gf) #[] lb)
    (eg : ∀ args w, (callFunc gf args).run P w = .ok (.enter gf args) w)
    (h : ∀ (r : Loop) (W1 : World), r.state = .ready → r.pending = none → r.params = ps → r.assign = assign → r.body = body → r.tmps = a.tmps → W1.heap[w.heap.size + 1]? = some (.loop r) → W1.heap[w.heap.size]? = some (.deferred (some [])) → Below w.heap.size w W1 → W1.heap.size = w.heap.size + 2 →
      CallsIn Fence.wide n P gf (#[.func (.yield (w.heap.size + 1)) #[] #[]] ++ lb) W1 fun e W2 => (∃ v, e = .returned v) ∧ ∃ r2 : Loop, W2.heap[w.heap.size + 1]? = some (.loop r2) ∧ r2.state ≠ .busy ∧
        ∀ W3, W3 = W2.putObj (w.heap.size + 1) (.loop { r2 with state := .exhausted }) →
          match r2.pending with
          | none => Q .normal { a with defers := { target := .collected w.heap.size, args := #[] } :: a.defers } W3
          | some c => c.wpIn Fence.wide (n + 1) P Q { a with defers := { target := .collected w.heap.size, args := #[] } :: a.defers } W3) :
    (Code.rangeFunc g ps assign body).wpIn Fence.wide (n + 1) P Q a w := by
  refine wpIn_rangeFunc fun fn _ => ?_
  obtain ⟨r, hr⟩ : ∃ r : Loop, r = { state := .ready, pending := none, fn, tmps := a.tmps, params := ps, assign, body, defers := w.heap.size } := ⟨_, rfl⟩
  obtain ⟨W1, hW1⟩ : ∃ W1, W1 = (w.alloc (.deferred (some []))).alloc (.loop r) := ⟨_, rfl⟩
  have hb : Below w.heap.size w W1 := hW1 ▸ below_alloc (below_alloc (Below.refl _ _) _) _
  have hL : W1.heap[w.heap.size + 1]? = some (.loop r) := hW1 ▸ heap_alloc2_new w _ _
  have hD : W1.heap[w.heap.size]? = some (.deferred (some [])) := hW1 ▸ blk_alloc (blk_new w _) _
  have hrun : (Instr.enterLoop fn a.tmps ps assign body Fence.wide.round).run P w = .ok (w.heap.size + 1, [{ target := .collected w.heap.size, args := #[] }]) W1 := by
    rw [hW1, hr]; exact run_enterLoop_outer _ _ _ _ _
  have hc := h r W1 (by rw [hr]) (by rw [hr]) (by rw [hr]) (by rw [hr]) (by rw [hr]) (by rw [hr]) hL hD hb (by rw [hW1]; simp)
  refine ⟨_, _, W1, { target := .fn (.func gf) lb, args := #[.func (.yield (w.heap.size + 1)) #[] #[]] }, W1, gf, _, W1, hrun, ?_, fun _ _ => trivial, ?_, fun _ => Nat.le_add_left 1 n, hc.mono ?_⟩
  · simp only [resolve, hg]
    simp [go_sem]
  · simp [invoke, go_sem, eg]
  · rintro e W2 ⟨⟨v, rfl⟩, r2, hl, hs, hk⟩
    exact ⟨r2.pending, _, run_endLoop hl hs, hk _ rfl⟩

/-- A round: the parameters are assigned, the body walked. -/
theorem round_enter {r : Loop} {W : World} {args : Array Value} {R : Ending → World → Prop} (hl : W.heap[l]? = some (.loop r)) (hr : r.state = .ready) (hs : args.size = r.params.size)
    (h : r.assign.wpIn (Fence.wide.inRound l) m P (Exit.then (fun a₁ w₁ => w₁.heap[l]? = some (.loop r) ∧ ∀ w₂, w₂ = w₁.putObj l (.loop { r with state := .busy }) → r.body.wpIn (Fence.wide.inRound l) m P (roundPost P l R) a₁ w₂) (fun _ _ _ => False))
      { tmps := (r.params.zip args).foldl (fun tmps (t, a) => tmps.setIfInBounds t a) r.tmps, defers := [] } W) : YieldAt Fence.wide m P l args W R := by
  refine ⟨r.fn, _, r.assign, r.body, run_yield hl hs, roundIn_of_wpIn trivial (wpIn_mono h ?_)⟩
  intro e a₁ w₁ hq
  cases e with
  | normal => exact ⟨_, run_beginRound hq.1 hr, hq.2 _ rfl⟩
  | _ => exact hq
theorem round_goes {r : Loop} {W : World} {a : Act} {R : Ending → World → Prop} (hl : W.heap[l]? = some (.loop r)) (h : R (.returned (.bool true)) (W.putObj l (.loop { r with state := .ready, pending := none }))) : roundPost P l R .normal a W :=
  ⟨_, _, run_endRound none hl, h⟩
theorem round_leaves {r : Loop} {W : World} {a : Act} {R : Ending → World → Prop} (id : Nat) (hl : W.heap[l]? = some (.loop r)) (h : R (.returned (.bool false)) (W.putObj l (.loop { r with state := .done, pending := some (.exit id) }))) : roundPost P l R (.exit id) a W :=
  ⟨_, _, run_endRound (some (.exit id)) hl, h⟩
theorem rec_back {r : Loop} (h1 : r.state = .ready) (h2 : r.pending = none) : ({ { r with state := .busy } with state := .ready, pending := none } : Loop) = r := by cases r; simp_all
def noDefer (ops : Array Oper) : Bool := ops.all fun o => match o.op with | .defer _ => false | _ => true
theorem noDefer_spec {ops : Array Oper} (h : noDefer ops = true) : ∀ (i : Nat) (o : Oper), ops[i]? = some o → ∀ c, o.op ≠ .defer c := by
  intro i o hi c hc
  unfold noDefer at h
  obtain ⟨hlt, rfl⟩ := Array.getElem?_eq_some_iff.1 hi
  have := (Array.all_eq_true.1 h) i hlt
  rw [hc] at this
  cases this
def noPanic (Q : Exit → Act → World → Prop) (e : Exit) (a : Act) (w : World) : Prop := match e with
  | .panic _ => False
  | e => Q e a w
theorem noPanic_le (Q : Exit → Act → World → Prop) : ∀ e a w, noPanic Q e a w → Q e a w := fun e a w h => by
  cases e <;> first | exact h | exact h.elim
end Go.Proofs.Ytfemjlhfgmbcmaa

namespace Go.Proofs.Ytfemjlhfgmbcmaa
open Go.RowKit Go.Shelf Go.Proofs.YtfemjlhfgmbcmaaW.PrintWords Go.Proofs.YtfemjlhfgmbcmaaW.PrintLast Go.Proofs.YtfemjlhfgmbcmaaW.PrintMore
open Go.Proofs.Ytfemjlhfgmbcmaa.PRunBuilds
set_option linter.unusedVariables false
set_option linter.unusedSimpArgs false
attribute [local go_sem] Oper.semAt_some

set_option maxRecDepth 100000 in
set_option maxHeartbeats 4000000 in
theorem Over1_in (n l b1 b2 : Nat) (hn : 1 ≤ n) (ks : List ByteArray) (cs : List S38) (hlen : cs.length = ks.length) (hmax : ks.length ≤ 1099511627776) (A B : Option Addr) (cA cB : Nat) (S : Nat → Prop) (W : World) (h1 : W.heap[b1]? = some (.cells #[.slice A ks.length cA] 57 (0, 0))) (h2 : W.heap[b2]? = some (.cells #[.slice B cs.length cB] 136 (0, 0)))
    (hA : Kd.F Kd.string W (fun k => ¬ S k) A ks.length ks) (hB : Kd.F k38 W (fun k => ¬ S k) B cs.length cs) (hS1 : ¬ S b1) (hS2 : ¬ S b2)
    (J : Nat → World → Prop) (Jx : World → Prop)
    (hY : ∀ (j : Nat) (W1 : World), J j W1 → j < ks.length → W.heap.size ≤ W1.heap.size → YieldAt Fence.wide (n - 1) Try.prog l #[.string (ks.getD j ⟨#[]⟩), .agg #[.string (cs.getD j z38).f0, .bool (cs.getD j z38).f1]] W1 fun e W' =>
      (e = .returned (.bool true) ∧ J (j + 1) W' ∧ Kept W1 W' S) ∨ (e = .returned (.bool false) ∧ Jx W'))
    (h0 : J 0 W) : CallsIn Fence.wide n Try.prog 105 #[.func (.yield l) #[] #[], .pointer (some ⟨b1, 0, none⟩), .pointer (some ⟨b2, 0, none⟩)] W fun e W' => (∃ v, e = .returned v) ∧ (J ks.length W' ∨ Jx W') := by
  have i1 : W.cell? ⟨b1, 0, none⟩ = some (.slice A ks.length cA) := (blk_cell h1 0).trans rfl
  have HY := Lib.hid hY
  have H0 := Lib.hid h0
  have H1 := Lib.hid h1
  have H2 := Lib.hid h2
  have HA := Lib.hid hA
  have HB := Lib.hid hB
  have HL := Lib.hid hlen
  have HS := Lib.hid (⟨hS1, hS2⟩ : ¬ S b1 ∧ ¬ S b2)
  have HX := Lib.hid hmax
  clear hY h0 h1 h2 hA hB hS1 hS2 hlen hmax
  refine callsIn_of_wp Try.func105 rfl trivial ?_ rfl
  simp only [Try.ntmps105, List.size_toArray, List.length_cons, List.length_nil, Nat.reduceAdd, Nat.reduceSub, Array.replicate_succ, Array.replicate_zero, List.push_toArray, List.append_toArray, List.nil_append, List.cons_append]
  gi_wp2
  gi_loopw [8] (fun iv W1 => ∃ j : Int, iv = .int .i64 j ∧ 0 ≤ j ∧ j ≤ ks.length ∧ J j.toNat W1 ∧ W.heap.size ≤ W1.heap.size ∧ W1.heap[b2]? = some (.cells #[.slice B cs.length cB] 136 (0, 0)) ∧ Kd.F Kd.string W1 (fun k => ¬ S k) A ks.length ks ∧ Kd.F k38 W1 (fun k => ¬ S k) B cs.length cs) (fun iv _ => ks.length - (intOf iv).toNat)
  case atStart => exact ⟨0, rfl, Int.le_refl _, by omega, H0.out, Nat.le_refl _, H2.out, HA.out, HB.out⟩
  case round =>
    obtain ⟨j, rfl, hj0, hj, hjj, hws, hb2, hfa, hfb⟩ := hrel
    have HJ := Lib.hid hjj
    have HWS := Lib.hid hws
    have HB2 := Lib.hid hb2
    have HFA := Lib.hid hfa
    have HFB := Lib.hid hfb
    by_cases hlt : j < (ks.length : Int)
    · have hjl : j.toNat < ks.length := by omega
      obtain ⟨ad, c1, hA2, _, hK1, hc1, _⟩ := Kd.F_get hfa ⟨#[]⟩ j hj0 hlt
      have hlc : j < (cs.length : Int) := by have := HL.out; omega
      obtain ⟨bd, c2, hB2, _, hK2, hc2, _⟩ := Kd.F_get hfb z38 j hj0 hlc
      obtain rfl := str_open (Kd.FK_now hK1)
      obtain rfl := k38_open (Kd.FK_now hK2)
      subst hA2
      subst hB2
      obtain ⟨kx, hkx⟩ : ∃ kx, kx = ks.getD j.toNat ⟨#[]⟩ := ⟨_, rfl⟩
      obtain ⟨cx, hcx⟩ : ∃ cx, cx = cs.getD j.toNat z38 := ⟨_, rfl⟩
      rw [← hkx] at hc1
      rw [← hcx] at hc2
      have ik : wr.cell? (ad.add j.toNat) = some (.string kx) := by have := hc1 0 _ rfl; rwa [show j.toNat * Kd.string.sz + 0 = j.toNat by show j.toNat * 1 + 0 = _; omega] at this
      have HC2 := Lib.hid (fun t u h => (by rw [add_add]; exact hc2 t u h) : ∀ t u, [Value.string cx.f0, .bool cx.f1][t]? = some u → wr.cell? ((bd.add (j.toNat * 2)).add t) = some u)
      have i2 : wr.cell? ⟨b2, 0, none⟩ = some (.slice (some bd) cs.length cB) := (blk_cell hb2 0).trans rfl
      obtain ⟨fn, tmps, assign, body, hy, hR⟩ := HY.out j.toNat wr HJ.out hjl HWS.out
      rw [← hkx, ← hcx] at hy
      have hjb : j ≤ 1099511627776 := by have := HX.out; omega
      clear hjj hws hb2 hfa hfb hc1 hc2 hK1 hK2 hkx hcx hj hjl
      gi_wp2_with (first | ((with_reducible refine gate_dstIn (N := 18) rfl ?_); refine wpListIn_load_at rfl 38 (.tmp 17) rfl (bd.add (j.toNat * 2)) rfl _ _ HC2.out Try.underlying38 rfl (by kernel_rfl) ?_))
      refine hR.mono ?_
      rintro e W3 (⟨rfl, hJ3, hk3⟩ | ⟨rfl, hJx3⟩)
      · have hf3 := Kd.F_kept HFA.out hk3 (fun k hk => hk)
        have hg3 := Kd.F_kept HFB.out hk3 (fun k hk => hk)
        have hh3 := (hk3.2 b2 (blk_lt HB2.out) HS.out.2).trans HB2.out
        have HF3 := Lib.hid hf3
        have HG3 := Lib.hid hg3
        have HH3 := Lib.hid hh3
        have HS3 := Lib.hid (show W.heap.size ≤ W3.heap.size by have := HWS.out; have := hk3.1; omega)
        have HJ3 := Lib.hid hJ3
        clear hf3 hg3 hh3 hk3 hJ3
        gi_wp2
        go_roundw
        case rel => exact ⟨j + 1, rfl, by omega, by omega, by rw [show (j + 1).toNat = j.toNat + 1 by omega]; exact HJ3.out, HS3.out, HH3.out, HF3.out, HG3.out⟩
        case measure => simp [intOf]; omega
      · have HJX := Lib.hid hJx3
        clear hJx3
        gi_wp2
        refine bodyPost_ret (results_none rfl _ _ _) rfl ?_
        exact ⟨⟨_, rfl⟩, .inr HJX.out⟩
    · obtain rfl : j = ks.length := by omega
      rw [Int.toNat_natCast] at hjj
      have HJJ := Lib.hid hjj
      clear hjj hws hb2 hfa hfb hj HJ HWS
      gi_wp2
      go_end0
      exact ⟨⟨_, rfl⟩, .inl HJJ.out⟩
end Go.Proofs.Ytfemjlhfgmbcmaa

namespace Go.Proofs.Ytfemjlhfgmbcmaa
open Go.RowKit Go.Shelf Go.Proofs.YtfemjlhfgmbcmaaW.PrintWords Go.Proofs.YtfemjlhfgmbcmaaW.PrintLast Go.Proofs.YtfemjlhfgmbcmaaW.PrintMore
open Go.Proofs.Ytfemjlhfgmbcmaa.PRunBuilds
set_option linter.unusedVariables false
set_option linter.unusedSimpArgs false
attribute [local go_sem ↓] Go.wp_at_zero Go.wp_at_succ

set_option maxRecDepth 100000 in
set_option maxHeartbeats 4000000 in
theorem Over_calls (A B : Option Addr) (cA cB : Nat) (ks : List ByteArray) (cs : List S38) (w : World) (hlen : cs.length = ks.length) (hmax : ks.length ≤ 1099511627776) (hcA : ks.length ≤ cA) (hcB : ks.length ≤ cB) (hA : Kd.F Kd.string w (fun k => k < w.heap.size) A ks.length ks) (hB : Kd.F k38 w (fun k => k < w.heap.size) B ks.length cs) :
    Calls Try.prog 85 #[.slice A ks.length cA, .slice B ks.length cB] w fun e w' => ∃ b1 b2 A1 c1 A2 c2, e = .returned (.func (.func 105) #[] #[.pointer (some ⟨b1, 0, none⟩), .pointer (some ⟨b2, 0, none⟩)]) ∧ w'.heap[b1]? = some (.cells #[.slice A1 ks.length c1] 57 (0, 0)) ∧ w'.heap[b2]? = some (.cells #[.slice A2 ks.length c2] 136 (0, 0)) ∧
      Kd.F Kd.string w' (fun k => w.heap.size ≤ k ∧ k < w'.heap.size) A1 ks.length ks ∧ Kd.F k38 w' (fun k => w.heap.size ≤ k ∧ k < w'.heap.size) A2 ks.length cs ∧ w.heap.size ≤ b1 ∧ w.heap.size ≤ b2 ∧ Below w.heap.size w w' := by
  obtain ⟨i9, hi9, hz0, hz1, hz2⟩ := info_parts info9
  have cT := cut_to (P := Try.prog) 57 9 .i64 Try.underlying57 hi9 A ks.length cA (ks.length : Int) (by omega) (by omega) hcA
  obtain ⟨i38, hi38, hy0, hy1, hy2⟩ := info_parts info38
  have cU := cut_to (P := Try.prog) 136 38 .i64 Try.underlying136 hi38 B ks.length cB (ks.length : Int) (by omega) (by omega) hcB
  rw [Int.toNat_natCast] at cT cU
  have HL := Lib.hid hlen
  have HA := Lib.hid hA
  have HB := Lib.hid hB
  have HBD := Lib.hid (show Below w.heap.size w ((w.alloc (.cells #[.slice A ks.length cA] 57)).alloc (.cells #[.slice B ks.length cB] 136)).drew from below_drew1 (below_alloc (below_alloc (Below.refl _ _) _) _))
  have HS := Lib.hid (show ((w.alloc (.cells #[.slice A ks.length cA] 57)).alloc (.cells #[.slice B ks.length cB] 136)).drew.cell? ⟨w.heap.size, 0, none⟩ = some (.slice A ks.length cA) ∧ ((w.alloc (.cells #[.slice A ks.length cA] 57)).alloc (.cells #[.slice B ks.length cB] 136)).drew.cell? ⟨w.heap.size + 1, 0, none⟩ = some (.slice B ks.length cB) from ⟨(blk_cell (blk_alloc (blk_new w _) _) 0).trans rfl, (blk_cell (heap_alloc2_new w _ _) 0).trans rfl⟩)
  have HZ1 := Lib.hid (show ((w.alloc (.cells #[.slice A ks.length cA] 57)).alloc (.cells #[.slice B ks.length cB] 136)).drew.heap[w.heap.size]? = some (.cells #[.slice A ks.length cA] 57 (0, 0)) from blk_alloc (blk_new w _) _)
  have HZ2 := Lib.hid (show ((w.alloc (.cells #[.slice A ks.length cA] 57)).alloc (.cells #[.slice B ks.length cB] 136)).drew.heap[w.heap.size + 1]? = some (.cells #[.slice B ks.length cB] 136 (0, 0)) from heap_alloc2_new w _ _)
  clear hi9 hz0 hz1 hz2 i9 hi38 hy0 hy1 hy2 i38 hcA hcB hA hB hlen
  go_enter Try.func85, Try.ntmps85
  go_wp2_with fail
  refine start_ (n := 10) (S := fun w' => w'.cell? ⟨w.heap.size, 0, none⟩ = some (.slice A ks.length cA) ∧ w'.cell? ⟨w.heap.size + 1, 0, none⟩ = some (.slice B ks.length cB)) (ds := [8, 9]) #[false, false, false, false, false, false, false, false, false, false] (by kernel_rfl) rfl rfl (HS.out) (fun hHeld => ?_)
  refine take_ (i := 0) (N := some 11) (v := ?_) (a' := ?_) #[true, false, false, false, false, false, false, false, false, false] rfl rfl (by kernel_rfl) (fun _ _ _ h => h) (Or.inl ⟨by rfl, ?_⟩) hHeld ?_ ?_
  rotate_left
  · rintro w' ⟨s0, s1⟩
    go_simp
    with_reducible rfl
  rotate_left
  · simp only [Act.put, List.setIfInBounds_toArray, List.set_cons_zero, List.set_cons_succ, i64_w, i32_w]
    rfl
  refine pure_ (i := 1) (N := some 12) (v := ?_) (a' := ?_) #[true, true, false, false, false, false, false, false, false, false] rfl rfl (by kernel_rfl) (fun _ _ _ h => h) (Or.inl ⟨by rfl, ?_⟩) ?_ ?_
  rotate_left
  · intro w'
    go_simp
    with_reducible rfl
  rotate_left
  · simp only [Act.put, List.setIfInBounds_toArray, List.set_cons_zero, List.set_cons_succ, i64_w, i32_w]
    rfl
  refine pure_ (i := 2) (N := some 13) (v := ?_) (a' := ?_) #[true, true, true, false, false, false, false, false, false, false] rfl rfl (by kernel_rfl) (fun _ _ _ h => h) (Or.inl ⟨by rfl, ?_⟩) ?_ ?_
  rotate_left
  · intro w'
    go_simp
    with_reducible rfl
  rotate_left
  · simp only [Act.put, List.setIfInBounds_toArray, List.set_cons_zero, List.set_cons_succ, i64_w, i32_w]
    rfl
  refine take_ (i := 4) (N := some 15) (v := ?_) (a' := ?_) #[true, true, true, false, true, false, false, false, false, false] rfl rfl (by kernel_rfl) (fun _ _ _ h => h) (Or.inl ⟨by rfl, ?_⟩) hHeld ?_ ?_
  rotate_left
  · rintro w' ⟨s0, s1⟩
    go_simp
    with_reducible rfl
  rotate_left
  · simp only [Act.put, List.setIfInBounds_toArray, List.set_cons_zero, List.set_cons_succ, i64_w, i32_w]
    rfl
  refine pure_ (i := 5) (N := some 16) (v := ?_) (a' := ?_) #[true, true, true, false, true, true, false, false, false, false] rfl rfl (by kernel_rfl) (fun _ _ _ h => h) (Or.inl ⟨by rfl, ?_⟩) ?_ ?_
  rotate_left
  · intro w'
    go_simp
    with_reducible rfl
  rotate_left
  · simp only [Act.put, List.setIfInBounds_toArray, List.set_cons_zero, List.set_cons_succ, i64_w, i32_w]
    rfl
  refine pure_ (i := 6) (N := some 17) (v := ?_) (a' := ?_) #[true, true, true, false, true, true, true, false, false, false] rfl rfl (by kernel_rfl) (fun _ _ _ h => h) (Or.inl ⟨by rfl, ?_⟩) ?_ ?_
  rotate_left
  · intro w'
    go_simp
    with_reducible rfl
  rotate_left
  · simp only [Act.put, List.setIfInBounds_toArray, List.set_cons_zero, List.set_cons_succ, i64_w, i32_w]
    rfl
  refine one_ (i := 3) (N := some 14) #[true, true, true, true, true, true, true, false, false, false] rfl rfl (by kernel_rfl) (by decide) (fun K hK => ?_)
  refine goes_ Try.func103 (by kernel_rfl) rfl #[.slice A ks.length cA] (by rfl) rfl rfl (by simp only [List.map_toArray, List.map_cons, List.map_nil]; rfl) ?_
  refine (CloneStr_calls A cA ks _ (Kd.F_now (Kd.F_below HA.out HBD.out)) (by omega)).mono ?_
  rintro e w3 ⟨v1, rfl, hr3, hb3⟩
  obtain ⟨A1, c1, rfl⟩ := Kd.R_slice hr3
  refine ⟨_, rfl, ?_⟩
  have HR3 := Lib.hid hr3
  have HB3 := Lib.hid hb3
  clear hr3 hb3
  refine hK.out _ _ (⟨pw_cell_below HB3.out hHeld.1, pw_cell_below HB3.out hHeld.2⟩) (fun hHeld => ?_)
  clear hK K
  refine norm_ (a' := ?_) ?_ ?_
  rotate_left
  · show Act.put _ (some 14) _ = _
    simp only [Act.put, List.setIfInBounds_toArray, List.set_cons_zero, List.set_cons_succ, i64_w, i32_w]
    rfl
  refine one_ (i := 7) (N := some 18) #[true, true, true, true, true, true, true, true, false, false] rfl rfl (by kernel_rfl) (by decide) (fun K hK => ?_)
  refine goes_ Try.func104 (by kernel_rfl) rfl #[.slice B ks.length cB] (by rfl) rfl rfl (by simp only [List.map_toArray, List.map_cons, List.map_nil]; rfl) ?_
  have hBC := Kd.F_now (Kd.F_below HB.out (HBD.out.trans (HB3.out.mono HBD.out.size)))
  rw [← HL.out] at hBC
  have hcc := CloneCell_calls B cB cs w3 hBC (by have := HL.out; omega)
  rw [HL.out] at hcc
  refine hcc.mono ?_
  rintro e w4 ⟨v2, rfl, hr4, hb4⟩
  obtain ⟨A2, c2, rfl⟩ := Kd.R_slice hr4
  rw [HL.out] at hr4 ⊢
  refine ⟨_, rfl, ?_⟩
  have HR4 := Lib.hid hr4
  have HB4 := Lib.hid hb4
  clear hr4 hb4 hcc hBC
  refine hK.out _ _ (⟨pw_cell_below HB4.out hHeld.1, pw_cell_below HB4.out hHeld.2⟩) (fun hHeld => ?_)
  clear hK K
  refine norm_ (a' := ?_) ?_ ?_
  rotate_left
  · show Act.put _ (some 18) _ = _
    simp only [Act.put, List.setIfInBounds_toArray, List.set_cons_zero, List.set_cons_succ, i64_w, i32_w]
    rfl
  refine last_ (i := 8) (N := none) #[true, true, true, true, true, true, true, true, true, false] rfl rfl (by kernel_rfl) (by decide) (fun K hK => ?_)
  have hbw4 : Below w.heap.size w w4 := HBD.out.trans ((HB3.out.trans (HB4.out.mono HB3.out.size)).mono HBD.out.size)
  have HBW4 := Lib.hid hbw4
  have h14 : w4.heap[w.heap.size]? = some (.cells #[.slice A ks.length cA] 57 (0, 0)) := blk_below (blk_below HZ1.out HB3.out) HB4.out
  have h24 : w4.heap[w.heap.size + 1]? = some (.cells #[.slice B ks.length cB] 136 (0, 0)) := blk_below (blk_below HZ2.out HB3.out) HB4.out
  have H14 := Lib.hid h14
  have H24 := Lib.hid h24
  have hc4 := blk_cell h14 0
  have hf4 := blk_frozen h14 0
  clear h14 h24 hbw4
  refine skip_ (w1 := w4.setCell ⟨w.heap.size, 0, none⟩ (.slice A1 ks.length c1)) (by rfl) rfl (by go_simp) ?_
  clear hc4 hf4
  refine hK.out _ _ ?_
  clear hK K
  refine last_ (i := 9) (N := none) #[true, true, true, true, true, true, true, true, true, true] rfl rfl (by kernel_rfl) (by decide) (fun K hK => ?_)
  have h25 : (w4.setCell ⟨w.heap.size, 0, none⟩ (.slice A1 ks.length c1)).heap[w.heap.size + 1]? = some (.cells #[.slice B ks.length cB] 136 (0, 0)) := blk_far H24.out (p := ⟨w.heap.size, 0, none⟩) (by show w.heap.size + 1 ≠ w.heap.size; omega) _
  have hc5 := blk_cell h25 0
  have hf5 := blk_frozen h25 0
  have H25 := Lib.hid h25
  clear h25
  refine skip_ (w1 := (w4.setCell ⟨w.heap.size, 0, none⟩ (.slice A1 ks.length c1)).setCell ⟨w.heap.size + 1, 0, none⟩ (.slice A2 ks.length c2)) (by rfl) rfl (by go_simp) ?_
  clear hc5 hf5
  refine hK.out _ _ ?_
  clear hK K
  refine done_ (by kernel_rfl) ?_
  clear hHeld
  go_wp2_with fail
  go_ret
  have hs1 : ((w.alloc (.cells #[.slice A ks.length cA] 57)).alloc (.cells #[.slice B ks.length cB] 136)).drew.heap.size = w.heap.size + 2 := by show ((w.alloc _).alloc _).heap.size = _; simp
  have hs3 := HB3.out.size
  have hs4 := HB4.out.size
  have hf1 := Kd.F_far (p := ⟨w.heap.size + 1, 0, none⟩) (Kd.F_far (p := ⟨w.heap.size, 0, none⟩) (Kd.F_mono (Kd.F_bound (Kd.R_F (Kd.R_below (Kd.R_bound HR3.out) HB4.out))) (fun k hk => (⟨by have := hk.1.2.1; omega, hk.2⟩ : w.heap.size + 2 ≤ k ∧ k < w4.heap.size))) (fun k hk => by show k ≠ w.heap.size; omega) (.slice A1 ks.length c1)) (fun k hk => by show k ≠ w.heap.size + 1; omega) (.slice A2 ks.length c2)
  have hf2 := Kd.F_far (p := ⟨w.heap.size + 1, 0, none⟩) (Kd.F_far (p := ⟨w.heap.size, 0, none⟩) (Kd.F_mono (Kd.F_bound (Kd.R_F (Kd.R_bound HR4.out))) (fun k hk => (⟨by have := hk.1.2.1; omega, hk.2⟩ : w.heap.size + 2 ≤ k ∧ k < w4.heap.size))) (fun k hk => by show k ≠ w.heap.size; omega) (.slice A1 ks.length c1)) (fun k hk => by show k ≠ w.heap.size + 1; omega) (.slice A2 ks.length c2)
  exact ⟨w.heap.size, w.heap.size + 1, A1, c1, A2, c2, rfl, blk_far (blk_set H14.out 0 _) (p := ⟨w.heap.size + 1, 0, none⟩) (by show w.heap.size ≠ w.heap.size + 1; omega) _, blk_set H25.out 0 _, Kd.F_mono hf1 (fun k hk => ⟨by omega, by simp only [World.size_setCell]; exact hk.2⟩), Kd.F_mono hf2 (fun k hk => ⟨by omega, by simp only [World.size_setCell]; exact hk.2⟩), Nat.le_refl _, Nat.le_succ _, (HBW4.out.setCell (p := ⟨w.heap.size, 0, none⟩) (Nat.le_refl _) _).setCell (p := ⟨w.heap.size + 1, 0, none⟩) (Nat.le_succ _) _⟩
end Go.Proofs.Ytfemjlhfgmbcmaa

namespace Go.Proofs.Ytfemjlhfgmbcmaa
open Go.RowKit Go.Shelf Go.Proofs.YtfemjlhfgmbcmaaW.PrintWords Go.Proofs.YtfemjlhfgmbcmaaW.PrintLast Go.Proofs.YtfemjlhfgmbcmaaW.PrintMore
open Go.Proofs.Ytfemjlhfgmbcmaa.PRunBuilds
set_option linter.unusedVariables false
set_option linter.unusedSimpArgs false

/-- A row as the reference has it. -/
def toR (x : S54) : RRow := ⟨x.f0, x.f1.f0, x.f1.f1⟩
/-- Not greater: the texts' order. -/
def leB (x y : ByteArray) : Bool := Go.Op.bytesLess x.toList y.toList || x.toList == y.toList
/-- Why the rows from here on may not be; the maker behind those that may. -/
def rowE (last : Option ByteArray) (x : RRow) : Nat := if mayN x = 0 then (match last with | some y => if leB x.k y = true then 8 else 0 | none => 0) else mayN x
def goB (b : Int) : List RRow → Option ByteArray → MS → Nat × MS
  | [], _, m => (0, m)
  | x :: l, last, m => if rowE last x = 0 then goB b l (some x.k) (addS b m x) else (rowE last x, m)
def ms0 : MS := ⟨⟨#[]⟩, ⟨#[]⟩, 0, [], []⟩
/-- What the index's frame is. -/
def idxF (m : MS) : ByteArray × Nat := putR 3 (encB m.many ++ ⟨m.idx.toArray⟩)
def endB (m : MS) : ByteArray × Nat :=
  let c := closeS m
  if (idxF c).2 ≠ 0 ∨ 1048576 < c.out.length + (idxF c).1.size + 4 then (⟨#[]⟩, 13) else (⟨c.out.toArray⟩ ++ (idxF c).1 ++ fourB (idxF c).1.size, 0)
def buildF (b : Int) (l : List RRow) : ByteArray × Nat :=
  if b < 64 ∨ 4096 < b then (⟨#[]⟩, 1) else if (goB b l none ms0).1 ≠ 0 then (⟨#[]⟩, (goB b l none ms0).1) else endB (goB b l none ms0).2

set_option maxRecDepth 100000 in
theorem runFour_calls (v : Nat) (w : World) (hv : v < 4294967296) :
    Calls Try.prog 82 #[.int .i64 v] w fun e w' => e = .returned (.string (fourB v)) ∧ Below w.heap.size w w' := by
  have hc := conv4 w ((v : Int) % 256) ((v : Int) / 256 % 256) ((v : Int) / 65536 % 256) ((v : Int) / 16777216)
  rw [four_str] at hc
  have hx : ((v : Int) / 16777216) % 256 = (v : Int) / 16777216 := by omega
  go_enter Try.func82, Try.ntmps82
  go_wp2_with fail
  go_ret
  exact ⟨rfl, below_alloc (Below.refl _ _) _⟩
theorem Mk.outLen {W : World} {g base : Nat} {ok : Nat → Prop} {b : Int} {m : MS} (h : Mk W g base ok b m) : Calls Try.prog 81 #[.pointer (some ⟨g, 1, none⟩)] W fun e w' => e = .returned (.int .i64 m.out.length) ∧ W = w' := by
  obtain ⟨po, pi, vo, vi, hpo, hpi, hg, ho, hi, hne, hoo, hoi, hog⟩ := h
  exact BLen g 1 130 _ base m.out.length vo _ W hg rfl ho
theorem Mk.outStr {W : World} {g base : Nat} {ok : Nat → Prop} {b : Int} {m : MS} (h : Mk W g base ok b m) : Calls Try.prog 80 #[.pointer (some ⟨g, 1, none⟩)] W fun e w' => e = .returned (.string ⟨m.out.toArray⟩) ∧ Only2 ok W w' := by
  obtain ⟨po, pi, vo, vi, hpo, hpi, hg, ho, hi, hne, hoo, hoi, hog⟩ := h
  refine (BString g 1 130 _ base vo m.out W hg rfl ho).mono ?_
  rintro e w' ⟨rfl, h2⟩
  exact ⟨rfl, h2.mono (fun k hk => .inl (hoo k hk))⟩
theorem Mk.idxStr {W : World} {g base : Nat} {ok : Nat → Prop} {b : Int} {m : MS} (h : Mk W g base ok b m) : Calls Try.prog 80 #[.pointer (some ⟨g, 6, none⟩)] W fun e w' => e = .returned (.string ⟨m.idx.toArray⟩) ∧ ∃ vi : Value, (∀ k, vi.ownBlock = some k → ok k) ∧ Only2 (fun k => vi.ownBlock = some k) W w' ∧ ∃ po pi vo, W.heap[g]? = some (.cells #[.int .i64 b, po, vo, .string m.load, .string m.first, .int .u64 m.many, pi, vi] 130 (0, 0)) ∧ (∀ k, vo.ownBlock = some k → vi.ownBlock ≠ some k) := by
  obtain ⟨po, pi, vo, vi, hpo, hpi, hg, ho, hi, hne, hoo, hoi, hog⟩ := h
  refine (BString g 6 130 _ base vi m.idx W hg rfl hi).mono ?_
  rintro e w' ⟨rfl, h2⟩
  exact ⟨rfl, vi, hoi, h2, po, pi, vo, hg, hne⟩
end Go.Proofs.Ytfemjlhfgmbcmaa

namespace Go.Proofs.Ytfemjlhfgmbcmaa
open Go.RowKit
set_option linter.unusedVariables false
set_option linter.unusedSimpArgs false

def byteN (b : ByteArray) (i : Nat) : Nat := if h : i < b.size then b[i].toNat else 0
/-- Four bytes' number. -/
def fourN (t : ByteArray) : Nat := byteN t 0 + 256 * byteN t 1 + 65536 * byteN t 2 + 16777216 * byteN t 3
/-- The rounds of the index: how many are left, what is left of the bytes, why not, the sizes, the first keys. -/
def idxG : Nat → ByteArray → Int → List Int → List ByteArray → Option (List Int × List ByteArray × ByteArray × Int)
  | 0, s, e, a, c => some (a, c, s, e)
  | n + 1, s, e, a, c => if e = 0 then (if 1048576 < (uintR s e).1 then none else idxG n (textR (uintR s e).2.1 (uintR s e).2.2 64).2.1 (textR (uintR s e).2.1 (uintR s e).2.2 64).2.2 (a ++ [(uintR s e).1]) (c ++ [(textR (uintR s e).2.1 (uintR s e).2.2 64).1])) else some (a, c, s, e)
def idxE (at_ : Nat) : Option (List Int × List ByteArray × ByteArray × Int) → Option (Nat × List Int × List ByteArray)
  | none => none
  | some r => if endR r.2.2.1 r.2.2.2 = 0 then some (at_, r.1, r.2.1) else none
def lastT (b : ByteArray) : ByteArray := b.extract (b.size - 4) b.size
def idxT (b : ByteArray) : ByteArray := b.extract (b.size - 4 - fourN (lastT b)) (b.size - 4)
def indexF (b : ByteArray) : Option (Nat × List Int × List ByteArray) :=
  if b.size < 4 then none else if b.size < 4 + fourN (lastT b) then none
  else if (takeF (idxT b)).2.2.2 ≠ 0 ∨ (takeF (idxT b)).2.2.1 ≠ fourN (lastT b) ∨ (takeF (idxT b)).1 ≠ 3 then none
  else idxE (b.size - 4 - fourN (lastT b)) (idxG (uintR (takeF (idxT b)).2.1 0).1.toNat (uintR (takeF (idxT b)).2.1 0).2.1 (uintR (takeF (idxT b)).2.1 0).2.2 [] [])
/-- A row as it is read: it, what is left, why not. -/
def rowR (s : ByteArray) (e : Int) : RRow × Int × ByteArray × Int :=
  let k := textR s e 64
  let g := byteR k.2.1 k.2.2
  let c := textR g.2.1 g.2.2 16384
  (⟨k.1, c.1, decide (g.1 = 1)⟩, g.1, c.2.1, c.2.2)
def rowsG : Nat → ByteArray → Int → List RRow → Option (List RRow × ByteArray × Int)
  | 0, s, e, acc => if s.size = 0 ∨ e ≠ 0 then some (acc, s, e) else none
  | n + 1, s, e, acc => if s.size = 0 ∨ e ≠ 0 then some (acc, s, e) else
    if 1 < (rowR s e).2.1 ∨ mayN (rowR s e).1 ≠ 0 then none else rowsG n (rowR s e).2.2.1 (rowR s e).2.2.2 (acc ++ [(rowR s e).1])
def rz : RRow := ⟨⟨#[]⟩, ⟨#[]⟩, false⟩
def blockE (first : ByteArray) : Option (List RRow × ByteArray × Int) → Option (List RRow)
  | none => none
  | some r => if endR r.2.1 r.2.2 = 0 ∧ (r.1.getD 0 rz).k = first then some r.1 else none
def blockF (b first : ByteArray) : Option (List RRow) :=
  if (takeF b).2.2.2 ≠ 0 ∨ (takeF b).2.2.1 ≠ b.size ∨ (takeF b).1 ≠ 2 ∨ (takeF b).2.1.size = 0 then none
  else blockE first (rowsG (takeF b).2.1.size (takeF b).2.1 0 [])
def openG (b : ByteArray) (fin : Nat) : List Int → List ByteArray → Nat → List RRow → Option (Nat × List RRow)
  | n :: ns, f :: fs, at_, acc => if ((fin : Int) - at_) < n then none else match blockF (b.extract at_ (at_ + n.toNat)) f with
    | none => none
    | some rows => openG b fin ns fs (at_ + n.toNat) (acc ++ rows)
  | _, _, at_, acc => some (at_, acc)
def sortedB (l : List RRow) : Bool := (List.range (l.length - 1)).all fun i => !leB (l.getD (i + 1) rz).k (l.getD i rz).k
def openE (fin n : Nat) : Option (Nat × List RRow) → Option (List RRow × Nat)
  | none => none
  | some r => if sortedB r.2 = true ∧ r.1 = fin then some (r.2, n) else none
def openI (b : ByteArray) : Option (Nat × List Int × List ByteArray) → Option (List RRow × Nat)
  | none => none
  | some x => openE x.1 x.2.1.length (openG b x.1 x.2.1 x.2.2 0 [])
/-- What Open answers: the rows; how many blocks. -/
def openF (b : ByteArray) : Option (List RRow × Nat) := if 1048576 < b.size then none else openI b (indexF b)

/- What was built. -/
def rowsB (l : List RRow) : List UInt8 := l.flatMap fun x => (rowB x).data.toList
def loadB (l : List RRow) : ByteArray := ⟨(rowsB l).toArray⟩
def firstB (l : List RRow) : ByteArray := (l.getD 0 rz).k
def outL (bl : List (List RRow)) : List UInt8 := bl.flatMap fun l => (putO (loadB l)).data.toList
def entL (l : List RRow) : List UInt8 := encL (putO (loadB l)).size ++ encT (firstB l)
def idxL (bl : List (List RRow)) : List UInt8 := bl.flatMap entL
theorem rowB_list (x : RRow) : (rowB x).data.toList = encT x.k ++ ((flagB x.gone).data.toList ++ encT x.s) := by
  unfold rowB encT; simp [encB]
theorem loadB_list (l : List RRow) : (loadB l).data.toList = rowsB l := rfl
theorem byteR_cons (s : ByteArray) (x : UInt8) (r : List UInt8) (h : s.data.toList = x :: r) : ∃ s', byteR s 0 = ((x.toNat : Int), s', 0) ∧ s'.data.toList = r := by
  have h0 : 0 < s.size := by rw [Lib.size_eq, h]; simp
  have hx : s[0] = x := by
    have h1 := drop_at s 0 h0
    rw [List.drop_zero, h] at h1
    injection h1 with h1 _
    exact h1.symm
  refine ⟨s.extract 1 s.size, ?_, by rw [extract_tail, h]; rfl⟩
  unfold byteR
  rw [show byte0 s = ((x.toNat : Int), 1, 0) by unfold byte0; rw [dif_pos h0, hx]]
  exact takeR_ok _ _ _ _
theorem mayN_ok {x : RRow} (h : mayN x = 0) : x.k.size ≤ 64 ∧ x.s.size ≤ 16384 := by
  unfold mayN at h
  by_cases h1 : 64 < x.k.size ∨ 16384 < x.s.size
  · rw [if_pos h1] at h; omega
  · omega
theorem rowR_back (x : RRow) (s : ByteArray) (r : List UInt8) (hs : s.data.toList = (rowB x).data.toList ++ r) (hx : mayN x = 0) :
    ∃ s' g, rowR s 0 = (x, g, s', 0) ∧ g ≤ 1 ∧ s'.data.toList = r := by
  obtain ⟨hk, hc⟩ := mayN_ok hx
  rw [rowB_list, List.append_assoc, List.append_assoc] at hs
  obtain ⟨s1, e1, h1⟩ := text_back x.k s _ 64 hs (by omega) (by omega)
  obtain ⟨fl, hfl, hf1⟩ : ∃ fl : UInt8, (flagB x.gone).data.toList = [fl] ∧ (fl.toNat : Int) = if x.gone then 1 else 0 := by
    cases x.gone
    · exact ⟨0, rfl, rfl⟩
    · exact ⟨1, rfl, rfl⟩
  rw [hfl] at h1
  obtain ⟨s2, e2, h2⟩ := byteR_cons s1 fl _ h1
  obtain ⟨s3, e3, h3⟩ := text_back x.s s2 _ 16384 h2 (by omega) (by omega)
  refine ⟨s3, (fl.toNat : Int), ?_, ?_, h3⟩
  · unfold rowR
    rw [e1]
    dsimp only
    rw [e2]
    dsimp only
    rw [e3, hf1]
    obtain ⟨k, c, g⟩ := x
    cases g <;> rfl
  · rw [hf1]; split <;> omega
theorem rowB_pos (x : RRow) : 0 < (rowB x).size := by rw [rowB_size]; omega
theorem size0 {s : ByteArray} (h : s.data.toList = []) : s.size = 0 := by rw [Lib.size_eq, h]; rfl
theorem rowsG_back : ∀ (l : List RRow) (n : Nat) (s : ByteArray) (acc : List RRow), s.data.toList = rowsB l → (∀ x ∈ l, mayN x = 0) → s.size ≤ n →
    ∃ s', rowsG n s 0 acc = some (acc ++ l, s', 0) ∧ s'.size = 0 := by
  intro l
  induction l with
  | nil =>
    intro n s acc hs _ _
    have h0 : s.size = 0 := size0 hs
    refine ⟨s, ?_, h0⟩
    cases n <;> (unfold rowsG; rw [if_pos (.inl h0), List.append_nil])
  | cons x l ih =>
    intro n s acc hs hl hn
    have hs' : s.data.toList = (rowB x).data.toList ++ rowsB l := hs
    have hp := rowB_pos x
    have hz : s.size = (rowB x).size + (rowsB l).length := by rw [size_of_list _ _ hs', List.length_append, ← Lib.size_eq]
    obtain ⟨m, rfl⟩ : ∃ m, n = m + 1 := ⟨n - 1, by omega⟩
    obtain ⟨s1, g, e1, hg, h1⟩ := rowR_back x s _ hs' (hl x (by simp))
    have hz1 := size_of_list _ _ h1
    obtain ⟨s2, e2, h2⟩ := ih m s1 (acc ++ [x]) h1 (fun y hy => hl y (by simp [hy])) (by omega)
    refine ⟨s2, ?_, h2⟩
    rw [rowsG, if_neg (by omega), e1]
    dsimp only
    rw [if_neg (by rw [hl x (by simp)]; omega), e2, List.append_assoc]
    rfl
/-- A block's bytes: one that may be. -/
def BlkOk (l : List RRow) : Prop := l ≠ [] ∧ (∀ x ∈ l, mayN x = 0) ∧ (loadB l).size ≤ 65536
theorem putO_eq {l : List RRow} (h : BlkOk l) : putO (loadB l) = putB 2 (loadB l) := by
  unfold putO putR
  rw [if_neg (by have := h.2.2; omega)]
theorem loadB_pos {l : List RRow} (h : l ≠ []) : 0 < (loadB l).size := by
  cases l with
  | nil => exact absurd rfl h
  | cons x l =>
    have h1 : (loadB (x :: l)).size = (rowB x).size + (rowsB l).length := by
      rw [Lib.size_eq, loadB_list, show rowsB (x :: l) = (rowB x).data.toList ++ rowsB l from rfl, List.length_append, ← Lib.size_eq]
    have := rowB_pos x
    omega
theorem blockF_of (b first : ByteArray) (l : List RRow) (h : BlkOk l) (ht : takeF b = (2, loadB l, b.size, 0)) : blockF b first = if firstB l = first then some l else none := by
  obtain ⟨s', e1, e2⟩ := rowsG_back l (loadB l).size (loadB l) [] (loadB_list l) h.2.1 (Nat.le_refl _)
  unfold blockF
  rw [ht]
  dsimp only
  have hp := loadB_pos h.1
  rw [if_neg (by rintro (h | h | h | h); exact h rfl; exact h rfl; exact h rfl; omega), e1]
  unfold blockE
  dsimp only
  rw [show endR s' 0 = 0 by unfold endR; rw [if_neg (by omega)], List.nil_append]
  unfold firstB
  by_cases hf : (l.getD 0 rz).k = first
  · rw [if_pos ⟨rfl, hf⟩, if_pos hf]
  · rw [if_neg (fun h => hf h.2), if_neg hf]
theorem blockF_put (b : ByteArray) (l : List RRow) (h : BlkOk l) (hb : b.data.toList = (putO (loadB l)).data.toList) : blockF b (firstB l) = some l := by
  have e : b = putB 2 (loadB l) := by apply ba_ext; rw [hb, putO_eq h]
  have ht := takeF_put 2 (loadB l) ⟨#[]⟩ h.2.2 (by omega)
  rw [show putB 2 (loadB l) ++ ⟨#[]⟩ = b by rw [e]; apply ba_ext; simp, ← e] at ht
  rw [blockF_of b _ l h ht, if_pos rfl]
theorem outL_cons (l : List RRow) (bl : List (List RRow)) : outL (l :: bl) = (putO (loadB l)).data.toList ++ outL bl := rfl
theorem idxL_cons (l : List RRow) (bl : List (List RRow)) : idxL (l :: bl) = entL l ++ idxL bl := rfl
def sizesL (bl : List (List RRow)) : List Int := bl.map fun l => ((putO (loadB l)).size : Int)
def firstsL (bl : List (List RRow)) : List ByteArray := bl.map firstB
theorem first_le {l : List RRow} (h : BlkOk l) : (firstB l).size ≤ 64 := by
  obtain ⟨h1, h2, _⟩ := h
  cases l with
  | nil => exact absurd rfl h1
  | cons x l => exact (mayN_ok (h2 x (by simp))).1
theorem uintR_back (v : Nat) (s : ByteArray) (r : List UInt8) (hs : s.data.toList = encL v ++ r) (hv : v < 18446744073709551616) : ∃ s', uintR s 0 = ((v : Int), s', 0) ∧ s'.data.toList = r := by
  have hn := num0_back v r hv s hs
  refine ⟨s.extract (encL v).length s.size, ?_, by rw [extract_tail, hs, List.drop_left]⟩
  unfold uintR
  rw [hn]
  exact takeR_ok _ _ _ _
theorem idxG_back : ∀ (bl : List (List RRow)) (s : ByteArray) (a : List Int) (c : List ByteArray), s.data.toList = idxL bl → (∀ l ∈ bl, BlkOk l) →
    ∃ s', idxG bl.length s 0 a c = some (a ++ sizesL bl, c ++ firstsL bl, s', 0) ∧ s'.size = 0 := by
  intro bl
  induction bl with
  | nil => intro s a c hs _; exact ⟨s, by simp [idxG, sizesL, firstsL], size0 hs⟩
  | cons l bl ih =>
    intro s a c hs hl
    have hb := hl l (by simp)
    have hz := putO_size (loadB l)
    rw [idxL_cons, entL, List.append_assoc] at hs
    obtain ⟨s1, e1, h1⟩ := uintR_back (putO (loadB l)).size s _ hs (by omega)
    have hf := first_le hb
    obtain ⟨s2, e2, h2⟩ := text_back (firstB l) s1 _ 64 h1 (by omega) (by omega)
    obtain ⟨s3, e3, h3⟩ := ih s2 (a ++ [((putO (loadB l)).size : Int)]) (c ++ [firstB l]) h2 (fun x hx => hl x (by simp [hx]))
    refine ⟨s3, ?_, h3⟩
    rw [List.length_cons, idxG, if_pos rfl, e1]
    dsimp only
    rw [if_neg (by omega), e2]
    dsimp only
    rw [e3]
    simp [sizesL, firstsL]
theorem openG_back (b : ByteArray) (fin : Nat) : ∀ (bl : List (List RRow)) (pre post : List UInt8) (acc : List RRow), b.data.toList = pre ++ (outL bl ++ post) → (∀ l ∈ bl, BlkOk l) → fin = pre.length + (outL bl).length →
    openG b fin (sizesL bl) (firstsL bl) pre.length acc = some (fin, acc ++ bl.flatten) := by
  intro bl
  induction bl with
  | nil => intro pre post acc hb _ hf; rw [hf]; simp [sizesL, firstsL, openG, outL]
  | cons l bl ih =>
    intro pre post acc hb hl hf
    rw [outL_cons, List.append_assoc] at hb
    rw [outL_cons, List.length_append, ← Lib.size_eq] at hf
    have hbk : (b.extract pre.length (pre.length + (putO (loadB l)).size)).data.toList = (putO (loadB l)).data.toList := mid_ba b pre _ _ _ _ hb rfl (by rw [← Lib.size_eq])
    have h1 := blockF_put _ l (hl l (by simp)) hbk
    have h2 := ih (pre ++ (putO (loadB l)).data.toList) post (acc ++ l) (by rw [hb]; simp) (fun x hx => hl x (by simp [hx])) (by rw [List.length_append, ← Lib.size_eq]; omega)
    rw [List.length_append, ← Lib.size_eq] at h2
    show openG b fin (((putO (loadB l)).size : Int) :: sizesL bl) (firstB l :: firstsL bl) pre.length acc = _
    rw [openG, if_neg (by omega), Int.toNat_natCast, h1]
    dsimp only
    rw [h2, List.flatten_cons, List.append_assoc]
end Go.Proofs.Ytfemjlhfgmbcmaa

namespace Go.Proofs.Ytfemjlhfgmbcmaa
open Go.RowKit
set_option linter.unusedVariables false
set_option linter.unusedSimpArgs false

theorem byteN_lit (l : List UInt8) (i : Nat) : byteN ⟨l.toArray⟩ i = (l.getD i 0).toNat := by
  unfold byteN
  by_cases h : i < (⟨l.toArray⟩ : ByteArray).size
  · rw [dif_pos h]
    have h2 : i < l.length := h
    rw [List.getD_eq_getElem?_getD, List.getElem?_eq_getElem h2]
    rfl
  · rw [dif_neg h]
    have h2 : ¬ i < l.length := h
    rw [List.getD_eq_getElem?_getD, List.getElem?_eq_none (by omega)]
    rfl
theorem fourN_fourB (v : Nat) (h : v < 4294967296) : fourN (fourB v) = v := by
  have h1 : fourB v = ⟨[UInt8.ofNat v, UInt8.ofNat (v / 256), UInt8.ofNat (v / 65536), UInt8.ofNat (v / 16777216)].toArray⟩ := rfl
  unfold fourN
  rw [h1, byteN_lit, byteN_lit, byteN_lit, byteN_lit]
  simp only [List.getD_cons_zero, List.getD_cons_succ, UInt8.toNat_ofNat']
  omega
/-- The maker's state: its blocks, and the rows of the one under way. -/
structure MB (m : MS) (bl : List (List RRow)) (cur : List RRow) : Prop where
  out : m.out = outL bl
  idx : m.idx = idxL bl
  many : m.many = bl.length
  load : m.load = loadB cur
  first : cur ≠ [] → m.first = firstB cur
  ok : ∀ l ∈ bl, BlkOk l
  may : ∀ x ∈ cur, mayN x = 0
  sz : m.load.size ≤ 20600
  fs : m.first.size ≤ 64
theorem MB.zero : MB ms0 [] [] := ⟨rfl, rfl, rfl, rfl, fun h => absurd rfl h, by simp, by simp, by decide, by decide⟩
theorem loadB_nil : (loadB []).size = 0 := rfl
theorem loadB_zero {l : List RRow} (h : (loadB l).size = 0) : l = [] := by
  cases l with
  | nil => rfl
  | cons x l => have := loadB_pos (l := x :: l) (by simp); omega
theorem outL_snoc (bl : List (List RRow)) (l : List RRow) : outL (bl ++ [l]) = outL bl ++ (putO (loadB l)).data.toList := by simp [outL]
theorem idxL_snoc (bl : List (List RRow)) (l : List RRow) : idxL (bl ++ [l]) = idxL bl ++ entL l := by simp [idxL]
theorem entB_list (m : MS) : (entB m).data.toList = encL (putO m.load).size ++ encT m.first := by unfold entB encT; simp [encB]
theorem MB.close {m : MS} {bl : List (List RRow)} {cur : List RRow} (h : MB m bl cur) : MB (closeS m) (if cur = [] then bl else bl ++ [cur]) [] := by
  by_cases hc : cur = []
  · have hz : m.load.size = 0 := by rw [h.load, hc]; rfl
    rw [if_pos hc, closeS, if_pos hz]
    exact ⟨h.out, h.idx, h.many, by rw [h.load, hc], fun h => absurd rfl h, h.ok, by simp, h.sz, h.fs⟩
  · have hp := loadB_pos hc
    have hz : ¬ m.load.size = 0 := by rw [h.load]; omega
    rw [if_neg hc, closeS, if_neg hz]
    refine ⟨?_, ?_, ?_, rfl, fun h => absurd rfl h, ?_, by simp, Nat.zero_le _, h.fs⟩
    · show m.out ++ _ = _
      rw [outL_snoc, h.out, h.load]
    · show m.idx ++ (entB m).data.toList = _
      rw [idxL_snoc, h.idx, entB_list, h.load, h.first hc]; rfl
    · show m.many + 1 = _
      rw [h.many]; simp
    · intro l hl
      rcases List.mem_append.1 hl with hl | hl
      · exact h.ok l hl
      · rw [List.mem_singleton] at hl
        rw [hl]
        exact ⟨hc, h.may, by rw [← h.load]; have := h.sz; omega⟩
theorem rowB_le {x : RRow} (h : mayN x = 0) : (rowB x).size ≤ 16480 := by
  obtain ⟨h1, h2⟩ := mayN_ok h
  rw [rowB_size]
  have h3 := (encB_le x.k.size (by omega)).1
  have h4 := (encB_le x.s.size (by omega)).1
  omega
theorem loadB_snoc (l : List RRow) (x : RRow) : loadB (l ++ [x]) = loadB l ++ rowB x := by
  apply ba_ext
  rw [ByteArray.data_append, Array.toList_append, loadB_list, loadB_list]
  simp [rowsB]
theorem MB.app {m : MS} {bl : List (List RRow)} {cur : List RRow} (h : MB m bl cur) (x : RRow) (hx : mayN x = 0) (hs : m.load.size ≤ 4096) : MB (appS m x) bl (cur ++ [x]) := by
  have hr := rowB_le hx
  by_cases hz : m.load.size = 0
  · have hc : cur = [] := loadB_zero (by rw [← h.load]; exact hz)
    rw [appS, if_pos hz]
    refine ⟨h.out, h.idx, h.many, by show m.load ++ rowB x = _; rw [loadB_snoc, h.load], fun _ => by rw [hc]; rfl, h.ok, ?_, by show (m.load ++ rowB x).size ≤ _; rw [ByteArray.size_append]; omega, (mayN_ok hx).1⟩
    intro y hy
    rcases List.mem_append.1 hy with hy | hy
    · exact h.may y hy
    · rw [List.mem_singleton] at hy; rw [hy]; exact hx
  · have hc : cur ≠ [] := fun e => hz (by rw [h.load, e]; rfl)
    rw [appS, if_neg hz]
    refine ⟨h.out, h.idx, h.many, by show m.load ++ rowB x = _; rw [loadB_snoc, h.load], fun _ => ?_, h.ok, ?_, by show (m.load ++ rowB x).size ≤ _; rw [ByteArray.size_append]; omega, h.fs⟩
    · show m.first = _
      rw [h.first hc]
      cases cur with
      | nil => exact absurd rfl hc
      | cons y r => rfl
    · intro y hy
      rcases List.mem_append.1 hy with hy | hy
      · exact h.may y hy
      · rw [List.mem_singleton] at hy; rw [hy]; exact hx
theorem MB.add {b : Int} (hb1 : b ≤ 4096) {m : MS} {bl : List (List RRow)} {cur : List RRow} (h : MB m bl cur) (x : RRow) (hx : mayN x = 0) : ∃ bl' cur', MB (addS b m x) bl' cur' ∧ bl'.flatten ++ cur' = bl.flatten ++ cur ++ [x] := by
  unfold addS
  by_cases hb : b ≤ m.load.size
  · rw [if_pos hb]
    refine ⟨_, _, h.close.app x hx (by rw [closeS_load]; omega), ?_⟩
    by_cases hc : cur = []
    · rw [if_pos hc, hc]; simp
    · rw [if_neg hc]; simp
  · rw [if_neg hb]
    exact ⟨bl, cur ++ [x], h.app x hx (by omega), by simp⟩
theorem goB_mb {b : Int} (hb1 : b ≤ 4096) : ∀ (l : List RRow) (last : Option ByteArray) (m : MS) (bl : List (List RRow)) (cur : List RRow), MB m bl cur → (goB b l last m).1 = 0 → ∃ bl' cur', MB (goB b l last m).2 bl' cur' ∧ bl'.flatten ++ cur' = bl.flatten ++ cur ++ l := by
  intro l
  induction l with
  | nil => intro last m bl cur h _; exact ⟨bl, cur, h, by simp⟩
  | cons x l ih =>
    intro last m bl cur h hg
    by_cases hr : rowE last x = 0
    · have e : goB b (x :: l) last m = goB b l (some x.k) (addS b m x) := by show (if rowE last x = 0 then _ else _) = _; rw [if_pos hr]
      rw [e] at hg ⊢
      have hx : mayN x = 0 := by
        unfold rowE at hr
        by_cases hm : mayN x = 0
        · exact hm
        · rw [if_neg hm] at hr; exact absurd hr hm
      obtain ⟨bl1, cur1, h1, f1⟩ := h.add hb1 x hx
      obtain ⟨bl2, cur2, h2, f2⟩ := ih _ _ bl1 cur1 h1 hg
      exact ⟨bl2, cur2, h2, by rw [f2, f1]; simp⟩
    · have e : goB b (x :: l) last m = (rowE last x, m) := by show (if rowE last x = 0 then _ else _) = _; rw [if_neg hr]
      rw [e] at hg
      exact absurd hg hr
theorem MB.bounds {m : MS} {bl : List (List RRow)} {cur : List RRow} (h : MB m bl cur) : m.out.length ≤ 65600 * bl.length ∧ m.idx.length ≤ 100 * bl.length := by
  rw [h.out, h.idx]
  have hok := h.ok
  clear h
  induction bl with
  | nil => exact ⟨Nat.zero_le _, Nat.zero_le _⟩
  | cons l bl ih =>
    obtain ⟨h1, h2⟩ := ih (fun x hx => hok x (by simp [hx]))
    have h3 := putO_size (loadB l)
    have h4 := first_le (hok l (by simp))
    have h5 := (encB_le (putO (loadB l)).size (by omega)).1
    have h6 := (encB_le (firstB l).size (by omega)).1
    rw [encB_size] at h5 h6
    rw [outL_cons, idxL_cons, List.length_append, List.length_append, List.length_cons, ← Lib.size_eq]
    have h7 : (entL l).length = (encL (putO (loadB l)).size).length + ((encL (firstB l).size).length + (firstB l).size) := by
      unfold entL encT; rw [List.length_append, List.length_append, ← Lib.size_eq]
    omega
/-- Rows in order, behind a last key. -/
def ordB (last : Option ByteArray) : List RRow → Bool
  | [] => true
  | x :: l => (match last with | some y => !leB x.k y | none => true) && ordB (some x.k) l
theorem goB_ord (b : Int) : ∀ (l : List RRow) (last : Option ByteArray) (m : MS), (goB b l last m).1 = 0 → ordB last l = true := by
  intro l
  induction l with
  | nil => intro last m _; rfl
  | cons x l ih =>
    intro last m hg
    by_cases hr : rowE last x = 0
    · have e : goB b (x :: l) last m = goB b l (some x.k) (addS b m x) := by show (if rowE last x = 0 then _ else _) = _; rw [if_pos hr]
      rw [e] at hg
      have h1 := ih _ _ hg
      unfold ordB
      rw [h1, Bool.and_true]
      unfold rowE at hr
      by_cases hm : mayN x = 0
      · rw [if_pos hm] at hr
        cases last with
        | none => rfl
        | some y =>
          dsimp only at hr ⊢
          by_cases hl : leB x.k y = true
          · rw [if_pos hl] at hr; omega
          · simp [hl]
      · rw [if_neg hm] at hr; exact absurd hr hm
    · have e : goB b (x :: l) last m = (rowE last x, m) := by show (if rowE last x = 0 then _ else _) = _; rw [if_neg hr]
      rw [e] at hg
      exact absurd hg hr
theorem ord_at : ∀ (l : List RRow) (last : Option ByteArray), ordB last l = true → ∀ i, i + 1 < l.length → leB (l.getD (i + 1) rz).k (l.getD i rz).k = false := by
  intro l
  induction l with
  | nil => intro _ _ i hi; simp at hi
  | cons x l ih =>
    intro last h i hi
    unfold ordB at h
    rw [Bool.and_eq_true] at h
    cases i with
    | zero =>
      cases l with
      | nil => simp at hi
      | cons y r =>
        have h2 := h.2
        unfold ordB at h2
        rw [Bool.and_eq_true] at h2
        simpa using h2.1
    | succ i => exact ih (some x.k) h.2 i (by simpa using hi)
theorem sortedB_iff (l : List RRow) : sortedB l = true ↔ ∀ i, i + 1 < l.length → leB (l.getD (i + 1) rz).k (l.getD i rz).k = false := by
  unfold sortedB
  rw [List.all_eq_true]
  constructor
  · intro h i hi
    have := h i (List.mem_range.2 (by omega))
    simpa using this
  · intro h i hi
    have := h i (by have := List.mem_range.1 hi; omega)
    rw [this]; rfl
/-- The bytes of a run of blocks. -/
def idxP (bl : List (List RRow)) : ByteArray := encB bl.length ++ ⟨(idxL bl).toArray⟩
def runB (bl : List (List RRow)) : ByteArray := ⟨(outL bl).toArray⟩ ++ putB 3 (idxP bl) ++ fourB (putB 3 (idxP bl)).size
structure RunOk (bl : List (List RRow)) : Prop where
  ok : ∀ l ∈ bl, BlkOk l
  idx : (idxP bl).size ≤ 65536
  sz : (runB bl).size ≤ 1048576
  ord : sortedB bl.flatten = true
theorem runB_size (bl : List (List RRow)) : (runB bl).size = (outL bl).length + (putB 3 (idxP bl)).size + 4 := by
  unfold runB; rw [ByteArray.size_append, ByteArray.size_append]; rfl
theorem buildF_ok (b : Int) (l : List RRow) (h : (buildF b l).2 = 0) : ∃ bl, bl.flatten = l ∧ RunOk bl ∧ (buildF b l).1 = runB bl ∧ (closeS (goB b l none ms0).2).many = bl.length ∧ 64 ≤ b ∧ b ≤ 4096 ∧ (goB b l none ms0).1 = 0 := by
  unfold buildF at h ⊢
  by_cases hb : b < 64 ∨ 4096 < b
  · rw [if_pos hb] at h; cases h
  rw [if_neg hb] at h ⊢
  by_cases hg : (goB b l none ms0).1 ≠ 0
  · rw [if_pos hg] at h; exact absurd h hg
  rw [if_neg hg] at h ⊢
  have hg0 : (goB b l none ms0).1 = 0 := by omega
  obtain ⟨bl, cur, hm, hf⟩ := goB_mb (by omega) l none ms0 [] [] MB.zero hg0
  have hc := hm.close
  have hord := ord_at l none (goB_ord b l none ms0 hg0)
  generalize (goB b l none ms0).2 = m at h hm hc ⊢
  obtain ⟨bl', hbl'⟩ : ∃ bl', bl' = (if cur = [] then bl else bl ++ [cur]) := ⟨_, rfl⟩
  rw [← hbl'] at hc
  have hfl : bl'.flatten = l := by
    rw [hbl']
    by_cases hcu : cur = []
    · rw [if_pos hcu]; rw [hcu] at hf; simpa using hf
    · rw [if_neg hcu]; simpa using hf
  unfold endB at h ⊢
  dsimp only at h ⊢
  have hp : encB (closeS m).many ++ ⟨(closeS m).idx.toArray⟩ = idxP bl' := by rw [hc.many, hc.idx]; rfl
  have hi : idxF (closeS m) = putR 3 (idxP bl') := by unfold idxF; rw [hp]
  rw [hi] at h ⊢
  unfold putR at h ⊢
  by_cases hz : 65536 < (idxP bl').size
  · rw [if_pos hz] at h
    dsimp only at h
    rw [if_pos (.inl (by omega))] at h
    cases h
  rw [if_neg hz] at h ⊢
  dsimp only at h ⊢
  by_cases ht : (0 : Nat) ≠ 0 ∨ 1048576 < (closeS m).out.length + (putB 3 (idxP bl')).size + 4
  · rw [if_pos ht] at h; cases h
  rw [if_neg ht]
  refine ⟨bl', hfl, ⟨hc.ok, by omega, ?_, ?_⟩, ?_, hc.many, by omega, by omega, hg0⟩
  · rw [runB_size, ← hc.out]; omega
  · rw [hfl, sortedB_iff]; exact hord
  · rw [hc.out]; rfl
theorem runB_list (bl : List (List RRow)) : (runB bl).data.toList = outL bl ++ ((putB 3 (idxP bl)).data.toList ++ (fourB (putB 3 (idxP bl)).size).data.toList) := by
  unfold runB; simp
theorem takeF_of_list (s : ByteArray) (k : Nat) (t : ByteArray) (m : List UInt8) (hs : s.data.toList = (putB k t).data.toList ++ m) (ht : t.size ≤ 65536) (hk : k < 256) : takeF s = ((k : Int), t, (putB k t).size, 0) := by
  have e : s = putB k t ++ ⟨m.toArray⟩ := by apply ba_ext; rw [hs]; simp
  rw [e]; exact takeF_put k t _ ht hk
theorem idxP_list (bl : List (List RRow)) : (idxP bl).data.toList = encL bl.length ++ idxL bl := by unfold idxP; simp [encB]
theorem index_of (b : ByteArray) (bl : List (List RRow)) (h : RunOk bl) (hlen : bl.length < 18446744073709551616) (ht : takeF (idxT b) = (3, idxP bl, fourN (lastT b), 0)) (hb : 4 + fourN (lastT b) ≤ b.size) : indexF b = some (b.size - 4 - fourN (lastT b), sizesL bl, firstsL bl) := by
  unfold indexF
  rw [if_neg (by omega), if_neg (by omega), ht]
  dsimp only
  rw [if_neg (by simp)]
  obtain ⟨s1, e1, h1⟩ := uintR_back bl.length (idxP bl) _ (idxP_list bl) hlen
  obtain ⟨s2, e2, h2⟩ := idxG_back bl s1 [] [] h1 h.ok
  rw [e1]
  dsimp only
  rw [Int.toNat_natCast, e2]
  unfold idxE
  dsimp only
  rw [show endR s2 0 = 0 by unfold endR; rw [if_neg (by omega)], if_pos rfl]
  simp
theorem runB_last (bl : List (List RRow)) (h : RunOk bl) : lastT (runB bl) = fourB (putB 3 (idxP bl)).size ∧ fourN (lastT (runB bl)) = (putB 3 (idxP bl)).size := by
  have hz := runB_size bl
  have hs := h.sz
  have h1 : lastT (runB bl) = fourB (putB 3 (idxP bl)).size := by
    apply ba_ext
    refine tail_ba _ (outL bl ++ (putB 3 (idxP bl)).data.toList) _ _ (by rw [runB_list]; simp) ?_
    rw [List.length_append, ← Lib.size_eq]; omega
  exact ⟨h1, by rw [h1]; exact fourN_fourB _ (by omega)⟩
theorem BlkOk.len {bl : List (List RRow)} (h : ∀ l ∈ bl, BlkOk l) : bl.length ≤ bl.flatten.length := by
  induction bl with
  | nil => simp
  | cons l bl ih =>
    have h1 := (h l (by simp)).1
    have h2 := ih (fun x hx => h x (by simp [hx]))
    have h3 : 0 < l.length := List.length_pos_iff.2 h1
    rw [List.flatten_cons, List.length_append, List.length_cons]; omega
theorem outL_len {bl : List (List RRow)} (h : ∀ l ∈ bl, BlkOk l) : bl.length ≤ (outL bl).length := by
  induction bl with
  | nil => simp
  | cons l bl ih =>
    have h1 := putB_size 2 (loadB l)
    have h2 := ih (fun x hx => h x (by simp [hx]))
    rw [outL_cons, List.length_append, List.length_cons, ← Lib.size_eq, putO_eq (h l (by simp))]
    omega
/-- What was built is opened as it was. -/
theorem openF_run (bl : List (List RRow)) (h : RunOk bl) : openF (runB bl) = some (bl.flatten, bl.length) := by
  have hz := runB_size bl
  have hs := h.sz
  have hlen := outL_len h.ok
  obtain ⟨h1, h2⟩ := runB_last bl h
  have hx : (idxT (runB bl)).data.toList = (putB 3 (idxP bl)).data.toList := by
    unfold idxT
    rw [h2]
    refine mid_ba _ (outL bl) _ _ _ _ (runB_list bl) (by omega) ?_
    rw [← Lib.size_eq]; omega
  have ht := takeF_of_list (idxT (runB bl)) 3 (idxP bl) [] (by rw [hx, List.append_nil]) h.idx (by omega)
  have hi := index_of (runB bl) bl h (by omega) (by rw [ht, h2]; rfl) (by omega)
  have ho := openG_back (runB bl) (outL bl).length bl [] _ [] (by rw [runB_list]; rfl) h.ok (by simp)
  unfold openF
  rw [if_neg (by omega), hi, h2, show (runB bl).size - 4 - (putB 3 (idxP bl)).size = (outL bl).length by omega]
  unfold openI
  dsimp only
  rw [show ([] : List UInt8).length = 0 from rfl] at ho
  rw [ho]
  unfold openE
  dsimp only
  rw [List.nil_append, if_pos ⟨h.ord, rfl⟩]
  simp [sizesL]
end Go.Proofs.Ytfemjlhfgmbcmaa

namespace Go.Proofs.Ytfemjlhfgmbcmaa
open Go.RowKit
set_option linter.unusedVariables false
set_option linter.unusedSimpArgs false

/-- A frame at the head of bytes that may be cut: it is there whole, or there is none. -/
theorem takeF_pre (s : ByteArray) (k : Nat) (t : ByteArray) (m : List UInt8) (c : Nat) (hs : s.data.toList = ((putB k t).data.toList ++ m).take c) (ht : t.size ≤ 65536) (hk : k < 256) (h0 : (takeF s).2.2.2 = 0) : takeF s = ((k : Int), t, (putB k t).size, 0) := by
  by_cases hc : c < (putB k t).size
  · have := takeF_cut k t c ht s (by rw [hs, List.take_append_of_le_length (by rw [← Lib.size_eq]; omega)]) hc
    rw [this] at h0; cases h0
  · refine takeF_of_list s k t (m.take (c - (putB k t).size)) ?_ ht hk
    rw [hs, List.take_append, List.take_of_length_le (by rw [← Lib.size_eq]; omega), ← Lib.size_eq]
theorem extract_pre (b : ByteArray) (X : List UInt8) (at_ n c : Nat) (hb : b.data.toList.drop at_ = X.take c) : (b.extract at_ (at_ + n)).data.toList = X.take (min n c) := by
  rw [Lib.extract_data, Nat.add_sub_cancel_left, hb, List.take_take]
theorem blockF_some {b first : ByteArray} {rows : List RRow} (h : blockF b first = some rows) : (takeF b).2.2.2 = 0 ∧ (takeF b).2.2.1 = b.size ∧ (takeF b).1 = 2 := by
  unfold blockF at h
  by_cases hc : (takeF b).2.2.2 ≠ 0 ∨ (takeF b).2.2.1 ≠ b.size ∨ (takeF b).1 ≠ 2 ∨ (takeF b).2.1.size = 0
  · rw [if_pos hc] at h; cases h
  · refine ⟨?_, ?_, ?_⟩
    · exact Classical.byContradiction fun h => hc (.inl h)
    · exact Classical.byContradiction fun h => hc (.inr (.inl h))
    · exact Classical.byContradiction fun h => hc (.inr (.inr (.inl h)))
theorem openG_pre (b : ByteArray) (fin : Nat) (hfin : fin ≤ b.size) (L : ByteArray) (hL : L.size ≤ 65536) (tail : List UInt8) : ∀ (szs : List Int) (fs : List ByteArray) (bl : List (List RRow)) (at_ c : Nat) (acc R : List RRow) (at' : Nat), b.data.toList.drop at_ = (outL bl ++ ((putB 3 L).data.toList ++ tail)).take c → (∀ l ∈ bl, BlkOk l) → (∀ n ∈ szs, 0 ≤ n) → at_ ≤ fin →
    openG b fin szs fs at_ acc = some (at', R) → ∃ j, j ≤ bl.length ∧ at' = at_ + (outL (bl.take j)).length ∧ R = acc ++ (bl.take j).flatten ∧ at' ≤ fin := by
  intro szs
  induction szs with
  | nil =>
    intro fs bl at_ c acc R at' hb hok hp hat h
    simp only [openG, Option.some.injEq, Prod.mk.injEq] at h
    obtain ⟨rfl, rfl⟩ := h
    exact ⟨0, Nat.zero_le _, by simp [outL], by simp, hat⟩
  | cons n szs ih =>
    intro fs bl at_ c acc R at' hb hok hp hat h
    cases fs with
    | nil =>
      simp only [openG, Option.some.injEq, Prod.mk.injEq] at h
      obtain ⟨rfl, rfl⟩ := h
      exact ⟨0, Nat.zero_le _, by simp [outL], by simp, hat⟩
    | cons f fs =>
      have hn0 := hp n (by simp)
      rw [openG] at h
      by_cases hn : ((fin : Int) - at_) < n
      · rw [if_pos hn] at h; cases h
      rw [if_neg hn] at h
      have hsz : (b.extract at_ (at_ + n.toNat)).size = n.toNat := by rw [extract_size_le _ _ _ (by omega)]; omega
      have hex := extract_pre b _ at_ n.toNat c hb
      cases hbk : blockF (b.extract at_ (at_ + n.toNat)) f with
      | none => rw [hbk] at h; cases h
      | some rows =>
        rw [hbk] at h
        dsimp only at h
        obtain ⟨k1, k2, k3⟩ := blockF_some hbk
        cases bl with
        | nil =>
          have := takeF_pre _ 3 L tail _ (by rw [hex]; rfl) hL (by omega) k1
          rw [this] at k3; cases k3
        | cons l bl =>
          have hl := hok l (by simp)
          rw [outL_cons, putO_eq hl, List.append_assoc] at hex hb
          have ht := takeF_pre _ 2 (loadB l) _ _ hex hl.2.2 (by omega) k1
          rw [ht] at k2
          have hnz : n.toNat = (putB 2 (loadB l)).size := by rw [← hsz]; exact k2.symm
          have hbf := blockF_of _ f l hl (by rw [ht, hsz, hnz]; rfl)
          rw [hbk] at hbf
          have hrows : rows = l := by
            by_cases hf : firstB l = f
            · rw [if_pos hf] at hbf; injection hbf
            · rw [if_neg hf] at hbf; cases hbf
          subst hrows
          have hb2 : b.data.toList.drop (at_ + n.toNat) = (outL bl ++ ((putB 3 L).data.toList ++ tail)).take (c - n.toNat) := by
            rw [← List.drop_drop, hb, List.drop_take, hnz, Lib.size_eq, List.drop_left]
          obtain ⟨j, hj, ha, hr, hf⟩ := ih fs bl _ _ _ R at' hb2 (fun x hx => hok x (by simp [hx])) (fun x hx => hp x (by simp [hx])) (by omega) h
          refine ⟨j + 1, by simpa using hj, ?_, ?_, hf⟩
          · rw [ha, List.take_succ_cons, outL_cons, List.length_append, ← Lib.size_eq, putO_eq hl, hnz]; omega
          · rw [hr, List.take_succ_cons, List.flatten_cons, List.append_assoc]
theorem idxG_nonneg : ∀ (n : Nat) (s : ByteArray) (e : Int) (a : List Int) (c : List ByteArray) (r), idxG n s e a c = some r → (∀ x ∈ a, 0 ≤ x) → ∀ x ∈ r.1, 0 ≤ x := by
  intro n
  induction n with
  | zero => intro s e a c r h ha; simp only [idxG, Option.some.injEq] at h; rw [← h]; exact ha
  | succ n ih =>
    intro s e a c r h ha
    rw [idxG] at h
    by_cases he : e = 0
    · rw [if_pos he] at h
      by_cases hu : 1048576 < (uintR s e).1
      · rw [if_pos hu] at h; cases h
      · rw [if_neg hu] at h
        refine ih _ _ _ _ _ h ?_
        intro x hx
        rcases List.mem_append.1 hx with hx | hx
        · exact ha x hx
        · rw [List.mem_singleton] at hx
          rw [hx, he]
          rcases uintR_cases s with ⟨v, n, _, _, _, _, h1, _⟩ | h1
          · rw [h1]; exact Int.natCast_nonneg _
          · unfold uintR takeR
            split
            · split
              · exact Int.natCast_nonneg _
              · exact Int.le_refl _
            · exact Int.le_refl _
    · rw [if_neg he] at h
      injection h with h
      rw [← h]; exact ha
theorem indexF_some {b : ByteArray} {x : Nat × List Int × List ByteArray} (h : indexF b = some x) : 4 + fourN (lastT b) ≤ b.size ∧ (takeF (idxT b)).2.2.2 = 0 ∧ (takeF (idxT b)).2.2.1 = fourN (lastT b) ∧ (takeF (idxT b)).1 = 3 ∧ x.1 = b.size - 4 - fourN (lastT b) ∧ ∀ n ∈ x.2.1, 0 ≤ n := by
  unfold indexF at h
  by_cases h4 : b.size < 4
  · rw [if_pos h4] at h; cases h
  rw [if_neg h4] at h
  by_cases h5 : b.size < 4 + fourN (lastT b)
  · rw [if_pos h5] at h; cases h
  rw [if_neg h5] at h
  by_cases hc : (takeF (idxT b)).2.2.2 ≠ 0 ∨ (takeF (idxT b)).2.2.1 ≠ fourN (lastT b) ∨ (takeF (idxT b)).1 ≠ 3
  · rw [if_pos hc] at h; cases h
  rw [if_neg hc] at h
  refine ⟨by omega, ?_, ?_, ?_, ?_⟩
  · exact Classical.byContradiction fun h => hc (.inl h)
  · exact Classical.byContradiction fun h => hc (.inr (.inl h))
  · exact Classical.byContradiction fun h => hc (.inr (.inr h))
  · cases hg : idxG (uintR (takeF (idxT b)).2.1 0).1.toNat (uintR (takeF (idxT b)).2.1 0).2.1 (uintR (takeF (idxT b)).2.1 0).2.2 [] [] with
    | none => rw [hg] at h; cases h
    | some r =>
      rw [hg] at h
      unfold idxE at h
      dsimp only at h
      by_cases he : endR r.2.2.1 r.2.2.2 = 0
      · rw [if_pos he] at h
        injection h with h
        rw [← h]
        exact ⟨rfl, idxG_nonneg _ _ _ _ _ _ hg (by simp)⟩
      · rw [if_neg he] at h; cases h
theorem flatten_take_lt {bl : List (List RRow)} (h : ∀ l ∈ bl, BlkOk l) (j : Nat) (hj : j < bl.length) : (bl.take j).flatten.length < bl.flatten.length := by
  have e : bl.flatten = (bl.take j).flatten ++ (bl.drop j).flatten := by rw [← List.flatten_append, List.take_append_drop]
  rw [e, List.length_append]
  have h1 := BlkOk.len (bl := bl.drop j) (fun l hl => h l (List.mem_of_mem_drop hl))
  rw [List.length_drop] at h1
  omega
/-- A run cut short is none that has as many rows. -/
theorem openF_cut (bl : List (List RRow)) (h : RunOk bl) (b : ByteArray) (cut : Nat) (hb : b.data.toList = (runB bl).data.toList.take cut) (hc : cut < (runB bl).size) (r : List RRow × Nat) (hr : openF b = some r) : r.1.length < bl.flatten.length := by
  have hz := runB_size bl
  have hbs : b.size = cut := by rw [size_of_list _ _ hb, List.length_take, ← Lib.size_eq]; omega
  unfold openF at hr
  by_cases hbig : 1048576 < b.size
  · rw [if_pos hbig] at hr; cases hr
  rw [if_neg hbig] at hr
  cases hi : indexF b with
  | none => rw [hi] at hr; cases hr
  | some x =>
    rw [hi] at hr
    obtain ⟨fin, szs, fs⟩ := x
    obtain ⟨i1, i2, i3, i4, i5, i6⟩ := indexF_some hi
    dsimp only at i5 i6
    unfold openI at hr
    dsimp only at hr
    cases hg : openG b fin szs fs 0 [] with
    | none => rw [hg] at hr; cases hr
    | some y =>
      rw [hg] at hr
      obtain ⟨at', R⟩ := y
      unfold openE at hr
      dsimp only at hr
      by_cases hcn : ¬ (sortedB R = true ∧ at' = fin)
      · rw [if_neg hcn] at hr; cases hr
      have hcond : sortedB R = true ∧ at' = fin := Classical.byContradiction hcn
      rw [if_pos hcond] at hr
      injection hr with hr
      rw [← hr]
      dsimp only
      obtain ⟨j, hj, ha, hR, _⟩ := openG_pre b fin (by omega) (idxP bl) h.idx (fourB (putB 3 (idxP bl)).size).data.toList szs fs bl 0 cut [] R at' (by rw [List.drop_zero, hb, runB_list]) h.ok i6 (Nat.zero_le _) hg
      rw [List.nil_append] at hR
      rw [hR]
      by_cases hjl : j < bl.length
      · exact flatten_take_lt h.ok j hjl
      · exfalso
        have hje : bl.take j = bl := List.take_of_length_le (by omega)
        rw [hje, Nat.zero_add] at ha
        have hfin : fin = (outL bl).length := by rw [← hcond.2, ha]
        have hx : (idxT b).data.toList = ((putB 3 (idxP bl)).data.toList ++ (fourB (putB 3 (idxP bl)).size).data.toList).take (min (fourN (lastT b)) (cut - (outL bl).length)) := by
          unfold idxT
          rw [show b.size - 4 = b.size - 4 - fourN (lastT b) + fourN (lastT b) by omega, Nat.add_sub_cancel, ← i5, hfin]
          refine extract_pre b _ _ _ _ ?_
          rw [hb, runB_list, List.drop_take, List.drop_left]
        have ht := takeF_pre _ 3 (idxP bl) _ _ hx h.idx (by omega) i2
        rw [ht] at i3
        dsimp only at i3
        omega
/-- Greater blocks are no more. -/
def LeM (x y : MS) : Prop := y.many < x.many ∨ (y.many = x.many ∧ y.load.size ≤ x.load.size)
theorem closeS_many (m : MS) : (closeS m).many = if m.load.size = 0 then m.many else m.many + 1 := by
  unfold closeS
  by_cases h : m.load.size = 0
  · rw [if_pos h, if_pos h]
  · rw [if_neg h, if_neg h]
theorem LeM.close {x y : MS} (h : LeM x y) : (closeS y).many ≤ (closeS x).many := by
  rw [closeS_many, closeS_many]
  rcases h with h | ⟨h1, h2⟩ <;> (split <;> split <;> omega)
theorem appS_many (m : MS) (r : RRow) : (appS m r).many = m.many := by unfold appS; split <;> rfl
theorem appS_load (m : MS) (r : RRow) : (appS m r).load.size = m.load.size + (rowB r).size := by unfold appS; split <;> exact ByteArray.size_append
theorem LeM.add {a b : Int} (ha : 0 < a) (hab : a ≤ b) {x y : MS} (h : LeM x y) (r : RRow) : LeM (addS a x r) (addS b y r) := by
  unfold LeM addS
  rw [appS_many, appS_many, appS_load, appS_load]
  by_cases hx : a ≤ x.load.size <;> by_cases hy : b ≤ y.load.size
  · rw [if_pos hx, if_pos hy, closeS_load, closeS_load, closeS_many, closeS_many, if_neg (by omega), if_neg (by omega)]
    rcases h with h | ⟨h1, h2⟩ <;> omega
  · rw [if_pos hx, if_neg hy, closeS_load, closeS_many, if_neg (by omega)]
    rcases h with h | ⟨h1, h2⟩ <;> omega
  · rw [if_neg hx, if_pos hy, closeS_load, closeS_many, if_neg (by omega)]
    rcases h with h | ⟨h1, h2⟩ <;> omega
  · rw [if_neg hx, if_neg hy]
    rcases h with h | ⟨h1, h2⟩ <;> omega
theorem LeM.go {a b : Int} (ha : 0 < a) (hab : a ≤ b) : ∀ (l : List RRow) (last : Option ByteArray) (x y : MS), LeM x y → (goB a l last x).1 = 0 → (goB b l last y).1 = 0 → LeM (goB a l last x).2 (goB b l last y).2 := by
  intro l
  induction l with
  | nil => intro last x y h _ _; exact h
  | cons r l ih =>
    intro last x y h h1 h2
    by_cases hr : rowE last r = 0
    · have e : ∀ (c : Int) (m : MS), goB c (r :: l) last m = goB c l (some r.k) (addS c m r) := fun c m => by show (if rowE last r = 0 then _ else _) = _; rw [if_pos hr]
      rw [e] at h1 h2 ⊢
      rw [e]
      exact ih _ _ _ (h.add ha hab r) h1 h2
    · have e : goB a (r :: l) last x = (rowE last r, x) := by show (if rowE last r = 0 then _ else _) = _; rw [if_neg hr]
      rw [e] at h1
      exact absurd h1 hr
end Go.Proofs.Ytfemjlhfgmbcmaa
