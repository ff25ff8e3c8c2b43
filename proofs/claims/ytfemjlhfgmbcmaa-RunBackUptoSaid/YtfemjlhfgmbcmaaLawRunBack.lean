/- The row of RunBack where what it reads is of bulk at most 1048576. Laid by gen_row.py (this session's own program), after the print's rows. -/
import Derived.Test.YtfemjlhfgmbcmaaRows
import Derived.Test.YtfemjlhfgmbcmaaVg
import Derived.Test.YtfemjlhfgmbcmaaRb
import Derived.SizedLaws
import Derived.DataShut
import Derived.JoinedCond
import Derived.ShutString
namespace Go.Proofs.Ytfemjlhfgmbcmaa.runBackUpto
open Go.ChangeShapes Go.WideShapes Go.ChangeAt Go.RowKit Go.Proofs.Ytfemjlhfgmbcmaa Go.Proofs.Ytfemjlhfgmbcmaa.PRunBuilds Go.Proofs.YtfemjlhfgmbcmaaW.PrintWords Go.Proofs.YtfemjlhfgmbcmaaW.PrintLast Go.Proofs.YtfemjlhfgmbcmaaW.PrintMore Go.Deep
open Go.ChangeMaps (open_string shut_string)
set_option linter.unusedVariables false
set_option maxRecDepth 100000 in
theorem open109 {H : Type} {enc : TypeId × Value → H} {w : World} {fuel : Nat} {y : DataW H × List MemPlace} (cs : Array Value) (hcs : cs.size = 4) (h : DataW.trod enc Try.prog w 0 (fun _ => true) true fuel 109 cs.toList = some y) :
    ∃ (n0 : Int) (A : Option Addr) (cap : Nat) (l : List S54) (n2 : Int) (m3 : ByteArray), cs = #[.int .i64 n0, .slice A l.length cap, .int .i64 n2, .string m3] ∧ Kd.C k54 w A l.length l ∧ l.length + 1 + m3.size ≤ Rows.uptoBulk y.1 := by
  obtain ⟨cs⟩ := cs
  obtain ⟨ys, k, _, hy, _, hyl, hf⟩ := DataW.trod_struct Try.underlying109 h
  subst hy
  have hlen : cs.length = 4 := hcs
  have hyn : ys.length = 4 := hyl
  match cs, hlen with
  | [c0, c1, c2, c3], _ =>
  match ys, hyn with
  | [y0, y1, y2, y3], _ =>
    have g0 : DataW.trod enc Try.prog w 0 (fun _ => true) true k 3 ((([c0, c1, c2, c3] : List Value).drop 0).take (Try.prog.cellsOf 3)) = some y0 := hf 0 _ rfl
    have g1 : DataW.trod enc Try.prog w 0 (fun _ => true) true k 49 ((([c0, c1, c2, c3] : List Value).drop 1).take (Try.prog.cellsOf 49)) = some y1 := hf 1 _ rfl
    have g2 : DataW.trod enc Try.prog w 0 (fun _ => true) true k 3 ((([c0, c1, c2, c3] : List Value).drop 2).take (Try.prog.cellsOf 3)) = some y2 := hf 2 _ rfl
    have g3 : DataW.trod enc Try.prog w 0 (fun _ => true) true k 9 ((([c0, c1, c2, c3] : List Value).drop 3).take (Try.prog.cellsOf 9)) = some y3 := hf 3 _ rfl
    rw [show Try.prog.cellsOf 3 = 1 by kernel_rfl] at g0 g2
    rw [show Try.prog.cellsOf 49 = 1 by kernel_rfl] at g1
    rw [show Try.prog.cellsOf 9 = 1 by kernel_rfl] at g3
    obtain ⟨n0, e0, _, w0⟩ := DataW.trod_int (k := .i64) Try.underlying3 g0
    obtain ⟨n2, e2, _, w2⟩ := DataW.trod_int (k := .i64) Try.underlying3 g2
    obtain ⟨m3, e3, s3, w3⟩ := open_str1 Try.underlying9 _ _ _ g3
    replace e3 : [c3] = [Value.string m3] := e3
    obtain ⟨A, n, cap, l, e1, hl, hC, hc, hn, hI, hw⟩ := open_sliceK k54 z54 (fun _ : S54 => True) (fun _ : S54 => 1) Try.underlying49 (by kernel_rfl) (open54 w) g1
    subst hl
    simp only [List.drop_zero, List.drop_succ_cons, List.take_succ_cons, List.take_zero, List.cons.injEq, and_true] at e0 e1 e2 e3
    subst e0 e1 e2 e3
    have hs := sum_ones l
    refine ⟨n0, A, cap, l, n2, m3, rfl, hC, ?_⟩
    simp only [List.map_cons, List.map_nil, Rows.uptoBulk, Rows.uptoBulkAll]
    omega
theorem own : ownKnob Try.prog.godebug = none := by kernel_rfl
theorem laidOut : laidOutB Try.prog = true := by kernel_rfl
set_option maxHeartbeats 1000000 in
set_option maxRecDepth 100000 in
theorem contract (H : Type) (enc : TypeId × Value → H) (W : World) (base : Nat) (args : Array Value) (ds gs : List (DataW H)) (before : List MemPlace)
    (hval : ∀ (j : Nat) t v, Try.f24.params[j]? = some t → args[j]? = some v → Value.okWide Try.prog W .any base t v)
    (hW : DataW.Whole enc Try.prog Try.f24.params.toList Rows.runBackSpec.vars false W args.toList ds gs before) (hk : Rows.uptoSmall H (ds ++ gs) = true) :
    Calls Try.prog 24 args W fun e W' => ∃ v, e = .returned v ∧ Rows.runBackSpec.post enc Try.prog Try.f24 false true false false W args v W' := by
  have hW' := hW
  obtain ⟨p, q, hA0, hV, rfl, hfz, hnd⟩ := hW
  have hA : DataW.TrodAll enc Try.prog W 0 (fun _ => true) true Try.f24.params.toList args.toList ds p := hA0
  rw [Try.params24] at hA hval
  obtain ⟨v0, vs0, d0, ds0, p0, q0, hargs, rfl, rfl, h0, r0⟩ := trodAll_cons hA
  obtain ⟨rfl, rfl, rfl⟩ := trodAll_nil r0
  obtain rfl : args = #[v0] := by cases args; simp_all
  obtain ⟨rfl, rfl⟩ := trodVars_none hV
  have hbulk := upto_bound hk
  simp only [List.cons_append, List.nil_append, Rows.uptoBulkAll] at hbulk
  have k0 := h0
  have lt0 : ∀ x ∈ p0, x.block < W.heap.size := by obtain ⟨m, hm⟩ := k0; exact DataW.trod_lt m _ _ _ hm
  obtain ⟨cs0, rfl, hcs0⟩ := okWide_struct Try.underlying109 (hval 0 109 v0 rfl rfl)
  obtain ⟨fuel0, hf0⟩ := h0
  obtain ⟨n0, A0, cap0, l0, n2, m3, rfl, hC0, hbk⟩ := open109 cs0 (hcs0.trans (by kernel_rfl)) hf0
  dsimp only at hbk
  clear hA0
  refine (runBack_fin n0 n2 m3 A0 cap0 l0 W hC0 (by omega) (by omega)).mono fun e W' ⟨he, bel⟩ => ?_
  subst he
  exact ⟨_, rfl, _, _, _, [], _, [], hW', trodAll_mk1 (shut_bool Try.underlying4 _), (trodAll_cons_mk (Below.trod laidOut (by kernel_rfl) (of_decide_eq_true (by kernel_rfl)) k0 bel lt0) trodAll_mk0), rfl, bel.frame _, fun h => by cases h⟩
set_option maxRecDepth 100000 in
theorem lifted (os : Os) (started : os.Started) (H : Type) (enc : TypeId × Value → H) (F : Stop.Interp) :
    ReturnsInHanded {} Try.checked os 24 .any ((Rows.OpenSpec.upto Rows.runBackSpec).pre6 enc Try.prog Try.f24 Rows.runBackUptoRow.domain false) (((Rows.OpenSpec.upto Rows.runBackSpec).at F).post enc Try.prog Try.f24 false true false false) := by
  refine returnsInHanded_of_cond (C := Try.checked) (s := Rows.OpenSpec.upto Rows.runBackSpec) (k := Rows.uptoSmall) rfl own started (by kernel_rfl) Try.func24
    (OpenSpec.witness (enc := enc) (C := Try.checked) (s := Rows.OpenSpec.upto Rows.runBackSpec) (k := Rows.uptoSmall) rfl false ⟨#[], #[.agg #[.int .i64 0, .slice none 0 0, .int .i64 0, .string ByteArray.empty]], []⟩ 8 (by kernel_rfl) (by kernel_rfl) (by kernel_rfl)
      (x := ([.agg [.lit (.int .i64 0), .nil, .lit (.int .i64 0), .lit (.string [])]], [], [])) (by kernel_rfl) rfl (by kernel_rfl)) ?_
  intro W base args ds gs before hval hW _ hk _
  exact contract H enc W base args ds gs before hval hW hk
set_option maxRecDepth 100000 in
theorem k0 : (Rows.runBackUptoRow.wf (OpenSpec.ofChange (Rows.OpenSpec.upto Rows.runBackSpec).bare)) = true := by kernel_rfl
set_option maxRecDepth 100000 in
theorem k1 : (laidOutB Try.pinned.checked.prog) = true := by kernel_rfl
set_option maxRecDepth 100000 in
theorem k2 : (mapsRowed Try.pinned.checked.prog) = true := by kernel_rfl
set_option maxRecDepth 100000 in
theorem k3 : (Try.f24.params.all (Try.pinned.checked.prog.readableRec ·)) = true := by kernel_rfl
set_option maxRecDepth 100000 in
theorem k4 : (namedTie Try.pinned.checked.prog Rows.runBackUptoRow.named (Rows.OpenSpec.upto Rows.runBackSpec).bare.vars) = true := by kernel_rfl
set_option maxRecDepth 100000 in
theorem k5 : ((Rows.runBackUptoRow.stops == [])) = true := by kernel_rfl
set_option maxRecDepth 100000 in
theorem k6 : ((Try.pinned.checked.prog.stops == [])) = true := by kernel_rfl
set_option maxRecDepth 100000 in
theorem k7 : ((Rows.runBackUptoRow.knobs == [])) = true := by kernel_rfl
set_option maxRecDepth 100000 in
theorem k8 : ((Try.pinned.checked.prog.stopKnobs == [])) = true := by kernel_rfl
set_option maxRecDepth 100000 in
theorem k9 : ((Rows.runBackUptoRow.inPlace == Try.pinned.checked.prog.inPlace 24)) = true := by kernel_rfl
set_option maxRecDepth 100000 in
theorem k10 : ((Rows.runBackUptoRow.unfollowed == Try.pinned.checked.prog.unfollowed 24)) = true := by kernel_rfl
set_option maxRecDepth 100000 in
theorem k11 : ((Rows.runBackUptoRow.recurses == Try.pinned.checked.prog.recurses 24)) = true := by kernel_rfl
set_option maxRecDepth 100000 in
theorem k12 : ((Rows.runBackUptoRow.named == Try.pinned.checked.prog.varsNamed 24)) = true := by kernel_rfl
set_option maxRecDepth 100000 in
theorem k13 : ((Rows.runBackUptoRow.maps == (Try.f24.params.toList ++ (Rows.OpenSpec.upto Rows.runBackSpec).bare.plain.varTypes Try.pinned.checked.prog).any (Try.pinned.checked.prog.mapsRec ·))) = true := by kernel_rfl
set_option maxRecDepth 100000 in
theorem k14 : ((Rows.runBackUptoRow.ifaces == (Try.f24.params.toList ++ (Rows.OpenSpec.upto Rows.runBackSpec).bare.plain.varTypes Try.pinned.checked.prog).any (Try.pinned.checked.prog.ifacesRec ·))) = true := by kernel_rfl
set_option maxRecDepth 100000 in
theorem k15 : ((Rows.runBackUptoRow.mapsOut == Try.pinned.checked.prog.mapsAmong Try.f24.resultTypes.toList)) = true := by kernel_rfl
set_option maxRecDepth 100000 in
theorem k16 : ((Rows.runBackUptoRow.loops == (Try.f24.params.toList ++ (Rows.OpenSpec.upto Rows.runBackSpec).bare.plain.varTypes Try.pinned.checked.prog).any (Try.pinned.checked.prog.loopsFrom ·))) = true := by kernel_rfl
set_option maxRecDepth 100000 in
theorem k17 : ((Rows.runBackUptoRow.wideKeys == (Try.f24.params.toList ++ (Rows.OpenSpec.upto Rows.runBackSpec).bare.plain.varTypes Try.pinned.checked.prog ++ Try.f24.resultTypes.toList).any (Try.pinned.checked.prog.wideKeysFrom ·))) = true := by kernel_rfl
set_option maxRecDepth 100000 in
theorem k18 : ((Rows.OpenSpec.upto Rows.runBackSpec).bare.vars.all (Try.pinned.checked.prog.varReadable ·)) = true := by kernel_rfl
set_option maxRecDepth 100000 in
theorem k19 : (Try.f24.resultTypes.all (fun t => Try.pinned.checked.prog.readableRec t && decide (t < Try.pinned.checked.prog.types.size))) = true := by kernel_rfl
set_option maxRecDepth 100000 in
theorem k20 : ((Rows.runBackUptoRow.ifacesOut == Try.f24.resultTypes.toList.any (Try.pinned.checked.prog.ifacesRec ·))) = true := by kernel_rfl
set_option maxRecDepth 100000 in
theorem k21 : ((Rows.runBackUptoRow.loopsOut == Try.f24.resultTypes.toList.any (Try.pinned.checked.prog.loopsFrom ·))) = true := by kernel_rfl
set_option maxRecDepth 100000 in
theorem k22 : ((Rows.runBackUptoRow.plainKeys == Try.pinned.checked.prog.plainKeys)) = true := by kernel_rfl
set_option maxRecDepth 100000 in
theorem k23 : (Rows.runBackUptoRow.shortTexts.isNone) = true := by kernel_rfl
set_option maxRecDepth 100000 in
theorem k24 : (Try.pinned.checked.prog.stopsHeard) = true := by kernel_rfl
set_option maxRecDepth 100000 in
theorem k28 : ((Rows.runBackUptoRow.kinds == (if Rows.runBackUptoRow.domain.isEmpty then [] else Try.f24.params.toList.map fun t => match Try.pinned.checked.prog.underlying t with | some (.int k) => some k | _ => none))) = true := by kernel_rfl
set_option maxRecDepth 100000 in
theorem k29 : ((Rows.runBackUptoRow.pinned == Rows.runBackUptoRow.pinnedBy)) = true := by kernel_rfl
set_option maxRecDepth 100000 in
theorem k30 : ((Rows.runBackUptoRow.veiled == (Try.f24.params.toList ++ (Rows.OpenSpec.upto Rows.runBackSpec).bare.plain.varTypes Try.pinned.checked.prog ++ Try.f24.resultTypes.toList).any (Try.pinned.checked.prog.veiledRec ·))) = true := by kernel_rfl
set_option maxRecDepth 100000 in
theorem k31 : (Rows.runBackUptoRow.veiledFits Try.pinned.checked.prog Try.f24.params.toList (Try.f24.params.toList ++ (Rows.OpenSpec.upto Rows.runBackSpec).bare.plain.varTypes Try.pinned.checked.prog ++ Try.f24.resultTypes.toList)) = true := by kernel_rfl
set_option maxRecDepth 100000 in
theorem closed : joinedFacts Try.pinned.checked.prog 24 Try.f24 (Rows.OpenSpec.upto Rows.runBackSpec).bare Rows.runBackUptoRow = true := by
  unfold joinedFacts
  exact (and_mk (and_mk (and_mk (and_mk (and_mk (and_mk (and_mk (and_mk (and_mk (and_mk (and_mk (and_mk (and_mk (and_mk (and_mk (and_mk (and_mk (and_mk (and_mk (and_mk (and_mk (and_mk (and_mk (and_mk (and_mk (and_mk (and_mk (and_mk (and_mk (and_mk (and_mk k0 k1) k2) k3) k4) k5) k6) k7) k8) k9) k10) k11) k12) k13) k14) k15) k16) k17) k18) k19) k20) k21) k22) k23) k24) p_mayEnter) p_lifted) p_make) k28) k29) k30) k31)
set_option maxRecDepth 100000 in
theorem over : Rows.runBackUptoRow.holds Try.pinned (Rows.OpenSpec.upto Rows.runBackSpec) :=
  OpenClaim.holds_of_cond 24 Try.f24 rfl rfl rfl rfl rfl rfl rfl ⟨rfl, rfl, rfl, rfl, rfl⟩ rfl rfl rfl rfl rfl (by kernel_rfl) Try.func24 closed
    (of_decide_eq_true (by kernel_rfl)) (by unfold Func.isWrapper; first | (rw [if_pos (by decide +kernel)]; kernel_rfl) | (rw [if_neg (by decide +kernel)]; exact ⟨rfl, rfl⟩))
    (fun os started H enc _ F => lifted os started H enc F)
theorem proved : Rows.RunBackUptoSaid := over
#print axioms proved
end Go.Proofs.Ytfemjlhfgmbcmaa.runBackUpto
namespace Go.Proofs.Ytfemjlhfgmbcmaa
/-- The row, under a short name, for the claim. -/
theorem runBackUpto_holds : Rows.RunBackUptoSaid := runBackUpto.proved
end Go.Proofs.Ytfemjlhfgmbcmaa
