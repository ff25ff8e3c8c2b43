/- The row of WireBack where what it reads is of bulk at most 1048576. Laid by gen_row.py (this session's own program), after the print's rows. -/
import Derived.Test.YtfemjlhfgmbcmaaRows
import Derived.Test.YtfemjlhfgmbcmaaRc
import Derived.Test.YtfemjlhfgmbcmaaOc
import Derived.Test.YtfemjlhfgmbcmaaRa
import Derived.SizedLaws
import Derived.DataShut
namespace Go.Proofs.Ytfemjlhfgmbcmaa.wireBackUpto
open Go.ChangeShapes Go.WideShapes Go.ChangeAt Go.RowKit Go.Proofs.Ytfemjlhfgmbcmaa Go.Proofs.YtfemjlhfgmbcmaaW.PrintWords Go.Proofs.YtfemjlhfgmbcmaaW.PrintLast Go.Proofs.YtfemjlhfgmbcmaaW.PrintMore Go.Deep
open Go.ChangeMaps (open_string shut_string)
set_option linter.unusedVariables false
set_option maxRecDepth 100000 in
theorem open_in {H : Type} {enc : TypeId × Value → H} {w : World} {fuel : Nat} {y : DataW H × List MemPlace} (cs : Array Value) (hcs : cs.size = 4) (h : DataW.trod enc Try.prog w 0 (fun _ => true) true fuel 90 cs.toList = some y) :
    ∃ v n A len cap l m, cs = #[.int .u64 v, .int .i64 n, .slice A len cap, .string m] ∧ l.length = len ∧ Kd.C Kd.string w A len l ∧ (Lit.int .u64 v).wf = true ∧ (Lit.int .i64 n).wf = true ∧ (l.map fun s => s.size + 1).sum + m.size ≤ Rows.uptoBulk y.1 := by
  obtain ⟨cs⟩ := cs
  have h' : DataW.trod enc Try.prog w 0 (fun _ => true) true fuel 90 cs = some y := h
  obtain ⟨ys, k, _, hy, _, hyl, hf⟩ := DataW.trod_struct Try.underlying90 h'
  subst hy
  have hlen : cs.length = 4 := hcs
  have hy4 : ys.length = 4 := hyl
  match cs, hlen with
  | [c0, c1, c2, c3], _ =>
  match ys, hy4 with
  | [y0, y1, y2, y3], _ =>
    have g0 : DataW.trod enc Try.prog w 0 (fun _ => true) true k 22 ((([c0, c1, c2, c3] : List Value).drop 0).take (Try.prog.cellsOf 22)) = some y0 := hf 0 _ rfl
    have g1 : DataW.trod enc Try.prog w 0 (fun _ => true) true k 2 ((([c0, c1, c2, c3] : List Value).drop 1).take (Try.prog.cellsOf 2)) = some y1 := hf 1 _ rfl
    have g2 : DataW.trod enc Try.prog w 0 (fun _ => true) true k 57 ((([c0, c1, c2, c3] : List Value).drop 2).take (Try.prog.cellsOf 57)) = some y2 := hf 2 _ rfl
    have g3 : DataW.trod enc Try.prog w 0 (fun _ => true) true k 9 ((([c0, c1, c2, c3] : List Value).drop 3).take (Try.prog.cellsOf 9)) = some y3 := hf 3 _ rfl
    rw [show Try.prog.cellsOf 22 = 1 by kernel_rfl] at g0
    rw [show Try.prog.cellsOf 2 = 1 by kernel_rfl] at g1
    rw [show Try.prog.cellsOf 57 = 1 by kernel_rfl] at g2
    rw [show Try.prog.cellsOf 9 = 1 by kernel_rfl] at g3
    obtain ⟨n0, e0, _, w0⟩ := DataW.trod_int (k := .u64) Try.underlying22 g0
    obtain ⟨n1, e1, _, w1⟩ := DataW.trod_int (k := .i64) Try.underlying2 g1
    obtain ⟨A, len, cap, l, e2, hl, hC, _, _, _, hw⟩ := open_sliceK Kd.string (⟨#[]⟩ : ByteArray) (fun s : ByteArray => s.size ≤ 9223372036854775807) (fun s : ByteArray => s.size + 1) Try.underlying57 (by kernel_rfl) (open_str1 Try.underlying9) g2
    obtain ⟨m, e3, _, hw3⟩ := open_str1 Try.underlying9 _ _ _ g3
    replace e3 : [c3] = [Value.string m] := e3
    simp only [List.drop_zero, List.drop_succ_cons, List.take_succ_cons, List.take_zero, List.cons.injEq, and_true] at e0 e1 e2 e3
    subst e0 e1 e2 e3
    refine ⟨n0, n1, A, len, cap, l, m, rfl, hl, hC, w0, w1, ?_⟩
    simp only [List.map_cons, List.map_nil, Rows.uptoBulk, Rows.uptoBulkAll]
    omega
theorem wire_back_fin (v n : Int) (A : Option Addr) (c : Nat) (l : List ByteArray) (m : ByteArray) (W : World) (hv : (Lit.int .u64 v).wf = true) (hn : (Lit.int .i64 n).wf = true) (hC : Kd.C Kd.string W A l.length l) (hB : (l.map fun s => s.size + 1).sum ≤ 1048576) (hm : m.size ≤ 1048576) :
    Calls Try.prog 17 #[.agg #[.int .u64 v, .int .i64 n, .slice A l.length c, .string m]] W fun e w' => e = .returned (.bool true) ∧ Below W.heap.size W w' := by
  rw [Lit.wf_int_iff] at hv hn
  obtain ⟨k, rfl⟩ := Int.eq_ofNat_of_zero_le hv.1
  exact back_fin k n A c l m W (by have h : (k : Int) ≤ 18446744073709551615 := hv.2; omega) hn.1 hn.2 hC hB hm
theorem own : ownKnob Try.prog.godebug = none := by kernel_rfl
theorem laidOut : laidOutB Try.prog = true := by kernel_rfl
set_option maxHeartbeats 1000000 in
set_option maxRecDepth 100000 in
theorem contract (H : Type) (enc : TypeId × Value → H) (W : World) (base : Nat) (args : Array Value) (ds gs : List (DataW H)) (before : List MemPlace)
    (hval : ∀ (j : Nat) t v, Try.f17.params[j]? = some t → args[j]? = some v → Value.okWide Try.prog W .any base t v)
    (hW : DataW.Whole enc Try.prog Try.f17.params.toList Rows.wireBackSpec.vars false W args.toList ds gs before) (hk : Rows.uptoSmall H (ds ++ gs) = true) :
    Calls Try.prog 17 args W fun e W' => ∃ v, e = .returned v ∧ Rows.wireBackSpec.post enc Try.prog Try.f17 false true false false W args v W' := by
  have hW' := hW
  obtain ⟨p, q, hA0, hV, rfl, hfz, hnd⟩ := hW
  have hA : DataW.TrodAll enc Try.prog W 0 (fun _ => true) true Try.f17.params.toList args.toList ds p := hA0
  rw [Try.params17] at hA hval
  obtain ⟨v0, vs0, d0, ds0, p0, q0, hargs, rfl, rfl, h0, r0⟩ := trodAll_cons hA
  obtain ⟨rfl, rfl, rfl⟩ := trodAll_nil r0
  obtain rfl : args = #[v0] := by cases args; simp_all
  obtain ⟨rfl, rfl⟩ := trodVars_none hV
  have hbulk := upto_bound hk
  simp only [List.cons_append, List.nil_append, Rows.uptoBulkAll] at hbulk
  have k0 := h0
  have lt0 : ∀ x ∈ p0, x.block < W.heap.size := by obtain ⟨m, hm⟩ := k0; exact DataW.trod_lt m _ _ _ hm
  obtain ⟨cs0, rfl, hcs0⟩ := okWide_struct Try.underlying90 (hval 0 90 v0 rfl rfl)
  obtain ⟨fuel0, hf0⟩ := h0
  obtain ⟨x0, n0, A0, len0, cap0, l0, m0, rfl, hl0, hC0, hwx, hwn, hbk⟩ := open_in cs0 (hcs0.trans (by kernel_rfl)) hf0
  subst hl0
  dsimp only at hbk
  clear hA0
  refine (wire_back_fin x0 n0 A0 cap0 l0 m0 W hwx hwn hC0 (by omega) (by omega)).mono fun e W' ⟨he, bel⟩ => ?_
  subst he
  exact ⟨_, rfl, _, _, _, [], _, [], hW', trodAll_mk1 (shut_bool Try.underlying4 _), (trodAll_cons_mk (Below.trod laidOut (by kernel_rfl) (of_decide_eq_true (by kernel_rfl)) k0 bel lt0) trodAll_mk0), rfl, bel.frame _, fun h => by cases h⟩
set_option maxRecDepth 100000 in
theorem lifted (os : Os) (started : os.Started) (H : Type) (enc : TypeId × Value → H) (F : Stop.Interp) :
    ReturnsInHanded {} Try.checked os 17 .any ((Rows.OpenSpec.upto Rows.wireBackSpec).pre6 enc Try.prog Try.f17 Rows.wireBackUptoRow.domain false) (((Rows.OpenSpec.upto Rows.wireBackSpec).at F).post enc Try.prog Try.f17 false true false false) := by
  refine returnsInHanded_of_cond (C := Try.checked) (s := Rows.OpenSpec.upto Rows.wireBackSpec) (k := Rows.uptoSmall) rfl own started (by kernel_rfl) Try.func17
    (OpenSpec.witness (enc := enc) (C := Try.checked) (s := Rows.OpenSpec.upto Rows.wireBackSpec) (k := Rows.uptoSmall) rfl false ⟨#[], #[.agg #[.int .u64 0, .int .i64 0, .slice none 0 0, .string ByteArray.empty]], []⟩ 8 (by kernel_rfl) (by kernel_rfl) (by kernel_rfl)
      (x := ([.agg [.lit (.int .u64 0), .lit (.int .i64 0), .nil, .lit (.string [])]], [], [])) (by kernel_rfl) rfl (by kernel_rfl)) ?_
  intro W base args ds gs before hval hW _ hk _
  exact contract H enc W base args ds gs before hval hW hk
set_option maxRecDepth 100000 in
theorem k0 : (Rows.wireBackUptoRow.wf (OpenSpec.ofChange (Rows.OpenSpec.upto Rows.wireBackSpec).bare)) = true := by kernel_rfl
set_option maxRecDepth 100000 in
theorem k1 : (laidOutB Try.pinned.checked.prog) = true := by kernel_rfl
set_option maxRecDepth 100000 in
theorem k2 : (mapsRowed Try.pinned.checked.prog) = true := by kernel_rfl
set_option maxRecDepth 100000 in
theorem k3 : (Try.f17.params.all (Try.pinned.checked.prog.readableRec ·)) = true := by kernel_rfl
set_option maxRecDepth 100000 in
theorem k4 : (namedTie Try.pinned.checked.prog Rows.wireBackUptoRow.named (Rows.OpenSpec.upto Rows.wireBackSpec).bare.vars) = true := by kernel_rfl
set_option maxRecDepth 100000 in
theorem k5 : ((Rows.wireBackUptoRow.stops == [])) = true := by kernel_rfl
set_option maxRecDepth 100000 in
theorem k6 : ((Try.pinned.checked.prog.stops == [])) = true := by kernel_rfl
set_option maxRecDepth 100000 in
theorem k7 : ((Rows.wireBackUptoRow.knobs == [])) = true := by kernel_rfl
set_option maxRecDepth 100000 in
theorem k8 : ((Try.pinned.checked.prog.stopKnobs == [])) = true := by kernel_rfl
set_option maxRecDepth 100000 in
theorem k9 : ((Rows.wireBackUptoRow.inPlace == Try.pinned.checked.prog.inPlace 17)) = true := by kernel_rfl
set_option maxRecDepth 100000 in
theorem k10 : ((Rows.wireBackUptoRow.unfollowed == Try.pinned.checked.prog.unfollowed 17)) = true := by kernel_rfl
set_option maxRecDepth 100000 in
theorem k11 : ((Rows.wireBackUptoRow.recurses == Try.pinned.checked.prog.recurses 17)) = true := by kernel_rfl
set_option maxRecDepth 100000 in
theorem k12 : ((Rows.wireBackUptoRow.named == Try.pinned.checked.prog.varsNamed 17)) = true := by kernel_rfl
set_option maxRecDepth 100000 in
theorem k13 : ((Rows.wireBackUptoRow.maps == (Try.f17.params.toList ++ (Rows.OpenSpec.upto Rows.wireBackSpec).bare.plain.varTypes Try.pinned.checked.prog).any (Try.pinned.checked.prog.mapsRec ·))) = true := by kernel_rfl
set_option maxRecDepth 100000 in
theorem k14 : ((Rows.wireBackUptoRow.ifaces == (Try.f17.params.toList ++ (Rows.OpenSpec.upto Rows.wireBackSpec).bare.plain.varTypes Try.pinned.checked.prog).any (Try.pinned.checked.prog.ifacesRec ·))) = true := by kernel_rfl
set_option maxRecDepth 100000 in
theorem k15 : ((Rows.wireBackUptoRow.mapsOut == Try.pinned.checked.prog.mapsAmong Try.f17.resultTypes.toList)) = true := by kernel_rfl
set_option maxRecDepth 100000 in
theorem k16 : ((Rows.wireBackUptoRow.loops == (Try.f17.params.toList ++ (Rows.OpenSpec.upto Rows.wireBackSpec).bare.plain.varTypes Try.pinned.checked.prog).any (Try.pinned.checked.prog.loopsFrom ·))) = true := by kernel_rfl
set_option maxRecDepth 100000 in
theorem k17 : ((Rows.wireBackUptoRow.wideKeys == (Try.f17.params.toList ++ (Rows.OpenSpec.upto Rows.wireBackSpec).bare.plain.varTypes Try.pinned.checked.prog ++ Try.f17.resultTypes.toList).any (Try.pinned.checked.prog.wideKeysFrom ·))) = true := by kernel_rfl
set_option maxRecDepth 100000 in
theorem k18 : ((Rows.OpenSpec.upto Rows.wireBackSpec).bare.vars.all (Try.pinned.checked.prog.varReadable ·)) = true := by kernel_rfl
set_option maxRecDepth 100000 in
theorem k19 : (Try.f17.resultTypes.all (fun t => Try.pinned.checked.prog.readableRec t && decide (t < Try.pinned.checked.prog.types.size))) = true := by kernel_rfl
set_option maxRecDepth 100000 in
theorem k20 : ((Rows.wireBackUptoRow.ifacesOut == Try.f17.resultTypes.toList.any (Try.pinned.checked.prog.ifacesRec ·))) = true := by kernel_rfl
set_option maxRecDepth 100000 in
theorem k21 : ((Rows.wireBackUptoRow.loopsOut == Try.f17.resultTypes.toList.any (Try.pinned.checked.prog.loopsFrom ·))) = true := by kernel_rfl
set_option maxRecDepth 100000 in
theorem k22 : ((Rows.wireBackUptoRow.plainKeys == Try.pinned.checked.prog.plainKeys)) = true := by kernel_rfl
set_option maxRecDepth 100000 in
theorem k23 : (Rows.wireBackUptoRow.shortTexts.isNone) = true := by kernel_rfl
set_option maxRecDepth 100000 in
theorem k24 : (Try.pinned.checked.prog.stopsHeard) = true := by kernel_rfl
set_option maxRecDepth 100000 in
theorem k28 : ((Rows.wireBackUptoRow.kinds == (if Rows.wireBackUptoRow.domain.isEmpty then [] else Try.f17.params.toList.map fun t => match Try.pinned.checked.prog.underlying t with | some (.int k) => some k | _ => none))) = true := by kernel_rfl
set_option maxRecDepth 100000 in
theorem k29 : ((Rows.wireBackUptoRow.pinned == Rows.wireBackUptoRow.pinnedBy)) = true := by kernel_rfl
set_option maxRecDepth 100000 in
theorem k30 : ((Rows.wireBackUptoRow.veiled == (Try.f17.params.toList ++ (Rows.OpenSpec.upto Rows.wireBackSpec).bare.plain.varTypes Try.pinned.checked.prog ++ Try.f17.resultTypes.toList).any (Try.pinned.checked.prog.veiledRec ·))) = true := by kernel_rfl
set_option maxRecDepth 100000 in
theorem k31 : (Rows.wireBackUptoRow.veiledFits Try.pinned.checked.prog Try.f17.params.toList (Try.f17.params.toList ++ (Rows.OpenSpec.upto Rows.wireBackSpec).bare.plain.varTypes Try.pinned.checked.prog ++ Try.f17.resultTypes.toList)) = true := by kernel_rfl
set_option maxRecDepth 100000 in
theorem closed : joinedFacts Try.pinned.checked.prog 17 Try.f17 (Rows.OpenSpec.upto Rows.wireBackSpec).bare Rows.wireBackUptoRow = true := by
  unfold joinedFacts
  exact (and_mk (and_mk (and_mk (and_mk (and_mk (and_mk (and_mk (and_mk (and_mk (and_mk (and_mk (and_mk (and_mk (and_mk (and_mk (and_mk (and_mk (and_mk (and_mk (and_mk (and_mk (and_mk (and_mk (and_mk (and_mk (and_mk (and_mk (and_mk (and_mk (and_mk (and_mk k0 k1) k2) k3) k4) k5) k6) k7) k8) k9) k10) k11) k12) k13) k14) k15) k16) k17) k18) k19) k20) k21) k22) k23) k24) p_mayEnter) p_lifted) p_make) k28) k29) k30) k31)
set_option maxRecDepth 100000 in
theorem over : Rows.wireBackUptoRow.holds Try.pinned (Rows.OpenSpec.upto Rows.wireBackSpec) :=
  OpenClaim.holds_of_cond 17 Try.f17 rfl rfl rfl rfl rfl rfl rfl ⟨rfl, rfl, rfl, rfl, rfl⟩ rfl rfl rfl rfl rfl (by kernel_rfl) Try.func17 closed
    (of_decide_eq_true (by kernel_rfl)) (by unfold Func.isWrapper; first | (rw [if_pos (by decide +kernel)]; kernel_rfl) | (rw [if_neg (by decide +kernel)]; exact ⟨rfl, rfl⟩))
    (fun os started H enc _ F => lifted os started H enc F)
theorem proved : Rows.WireBackUptoSaid := over
#print axioms proved
end Go.Proofs.Ytfemjlhfgmbcmaa.wireBackUpto
namespace Go.Proofs.Ytfemjlhfgmbcmaa
/-- The row, under a short name, for the claim. -/
theorem wireBackUpto_holds : Rows.WireBackUptoSaid := wireBackUpto.proved
end Go.Proofs.Ytfemjlhfgmbcmaa
