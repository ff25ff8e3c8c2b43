/- The row of FrameBack, for every input. Laid by gen_row.py (this session's own program), after the print's rows. -/
import Derived.Test.YtfemjlhfgmbcmaaRows
import Derived.Test.YtfemjlhfgmbcmaaRc
import Derived.Test.YtfemjlhfgmbcmaaFj
import Derived.Test.YtfemjlhfgmbcmaaRa
import Derived.SizedLaws
import Derived.DataShut
namespace Go.Proofs.Ytfemjlhfgmbcmaa.frameBack
open Go.ChangeShapes Go.WideShapes Go.ChangeAt Go.RowKit Go.Proofs.Ytfemjlhfgmbcmaa Go.Proofs.YtfemjlhfgmbcmaaW.PrintWords Go.Proofs.YtfemjlhfgmbcmaaW.PrintLast Go.Proofs.YtfemjlhfgmbcmaaW.PrintMore Go.Deep
open Go.ChangeMaps (open_string shut_string)
set_option linter.unusedVariables false
set_option maxRecDepth 100000 in
theorem open102 {H : Type} {enc : TypeId × Value → H} {w : World} {fuel : Nat} {y : DataW H × List MemPlace} (cs : Array Value) (hcs : cs.size = 4) (h : DataW.trod enc Try.prog w 0 (fun _ => true) true fuel 102 cs.toList = some y) :
    ∃ (n0 : Int) (m1 : ByteArray) (m2 : ByteArray) (n3 : Int), cs = #[.int .i64 n0, .string m1, .string m2, .int .i64 n3] ∧ (Lit.int .i64 n0).wf = true ∧ m1.size ≤ 9223372036854775807 ∧ m2.size ≤ 9223372036854775807 ∧ (Lit.int .i64 n3).wf = true ∧ ((DataW.weights Try.prog 102 y.1).all (· ≤ reachBytes) = true → m1.size ≤ reachBytes ∧ m2.size ≤ reachBytes) := by
  obtain ⟨cs⟩ := cs
  obtain ⟨ys, k, _, hy, _, hyl, hf⟩ := DataW.trod_struct Try.underlying102 h
  subst hy
  have hlen : cs.length = 4 := hcs
  have hyn : ys.length = 4 := hyl
  match cs, hlen with
  | [c0, c1, c2, c3], _ =>
  match ys, hyn with
  | [y0, y1, y2, y3], _ =>
    have g0 : DataW.trod enc Try.prog w 0 (fun _ => true) true k 3 ((([c0, c1, c2, c3] : List Value).drop 0).take (Try.prog.cellsOf 3)) = some y0 := hf 0 _ rfl
    have g1 : DataW.trod enc Try.prog w 0 (fun _ => true) true k 9 ((([c0, c1, c2, c3] : List Value).drop 1).take (Try.prog.cellsOf 9)) = some y1 := hf 1 _ rfl
    have g2 : DataW.trod enc Try.prog w 0 (fun _ => true) true k 9 ((([c0, c1, c2, c3] : List Value).drop 2).take (Try.prog.cellsOf 9)) = some y2 := hf 2 _ rfl
    have g3 : DataW.trod enc Try.prog w 0 (fun _ => true) true k 3 ((([c0, c1, c2, c3] : List Value).drop 3).take (Try.prog.cellsOf 3)) = some y3 := hf 3 _ rfl
    rw [show Try.prog.cellsOf 3 = 1 by kernel_rfl] at g0 g3
    rw [show Try.prog.cellsOf 9 = 1 by kernel_rfl] at g1 g2
    obtain ⟨n0, e0, _, w0⟩ := DataW.trod_int (k := .i64) Try.underlying3 g0
    obtain ⟨m1, e1, w1, s1⟩ := DataW.trod_string Try.underlying9 g1
    obtain ⟨m2, e2, w2, s2⟩ := DataW.trod_string Try.underlying9 g2
    obtain ⟨n3, e3, _, w3⟩ := DataW.trod_int (k := .i64) Try.underlying3 g3
    simp only [List.drop_zero, List.drop_succ_cons, List.take_succ_cons, List.take_zero, List.cons.injEq, and_true] at e0 e1 e2 e3
    subst e0 e1 e2 e3
    refine ⟨n0, m1, m2, n3, rfl, w0, s1, s2, w3, ?_⟩
    intro hw
    have hw2 : (DataW.weightsEach Try.prog [3, 9, 9, 3] [y0.1, y1.1, y2.1, y3.1]).all (· ≤ reachBytes) = true := by
      unfold DataW.weights at hw; rw [Try.underlying102] at hw; exact hw
    exact ⟨(by have := sized_string hw2 (j := 1) (t := 9) (bytes := m1.data.toList) rfl (by rw [w1]; rfl); rwa [← Lib.size_eq] at this), (by have := sized_string hw2 (j := 2) (t := 9) (bytes := m2.data.toList) rfl (by rw [w2]; rfl); rwa [← Lib.size_eq] at this)⟩
theorem own : ownKnob Try.prog.godebug = none := by kernel_rfl
theorem laidOut : laidOutB Try.prog = true := by kernel_rfl
set_option maxHeartbeats 1000000 in
set_option maxRecDepth 100000 in
theorem contract (H : Type) (enc : TypeId × Value → H) (W : World) (base : Nat) (args : Array Value) (ds gs : List (DataW H)) (before : List MemPlace)
    (hval : ∀ (j : Nat) t v, Try.f19.params[j]? = some t → args[j]? = some v → Value.okWide Try.prog W .any base t v)
    (hW : DataW.Whole enc Try.prog Try.f19.params.toList Rows.frameBackSpec.vars false W args.toList ds gs before) (hsz : (DataW.weightsEach Try.prog (Try.f19.params.toList ++ Rows.frameBackSpec.plain.varTypes Try.prog) (ds ++ gs)).all (· ≤ reachBytes) = true) :
    Calls Try.prog 19 args W fun e W' => ∃ v, e = .returned v ∧ Rows.frameBackSpec.post enc Try.prog Try.f19 false true false false W args v W' := by
  have hW' := hW
  obtain ⟨p, q, hA0, hV, rfl, hfz, hnd⟩ := hW
  have hA : DataW.TrodAll enc Try.prog W 0 (fun _ => true) true Try.f19.params.toList args.toList ds p := hA0
  rw [Try.params19] at hA hval hsz
  obtain ⟨v0, vs0, d0, ds0, p0, q0, hargs, rfl, rfl, h0, r0⟩ := trodAll_cons hA
  obtain ⟨rfl, rfl, rfl⟩ := trodAll_nil r0
  obtain rfl : args = #[v0] := by cases args; simp_all
  obtain ⟨rfl, rfl⟩ := trodVars_none hV
  have k0 := h0
  have lt0 : ∀ x ∈ p0, x.block < W.heap.size := by obtain ⟨m, hm⟩ := k0; exact DataW.trod_lt m _ _ _ hm
  obtain ⟨cs0, rfl, hcs0⟩ := okWide_struct Try.underlying102 (hval 0 102 v0 rfl rfl)
  obtain ⟨fuel0, hf0⟩ := h0
  obtain ⟨n0, m1, m2, n3, rfl, u0, u1, u2, u3, hbk⟩ := open102 cs0 (hcs0.trans (by kernel_rfl)) hf0
  have hw0 := hbk (by rw [List.all_eq_true] at hsz ⊢; exact fun n hn => hsz n (DataW.weights_mem_each (j := 0) (t := 102) rfl rfl n hn))
  clear hA0
  refine (back5_fin n0 n3 m1 m2 W (by unfold maxLen; have := hw0.1; have h := reachBytes_lt; omega) (by have := hw0.2; have h : reachBytes = 140737488351232 := rfl; omega)).mono fun e W' ⟨he, bel⟩ => ?_
  subst he
  exact ⟨_, rfl, _, _, _, [], _, [], hW', trodAll_mk1 (shut_bool Try.underlying4 _), (trodAll_cons_mk (Below.trod laidOut (by kernel_rfl) (of_decide_eq_true (by kernel_rfl)) k0 bel lt0) trodAll_mk0), rfl, bel.frame _, fun h => by cases h⟩
set_option maxRecDepth 100000 in
theorem lifted (os : Os) (started : os.Started) (H : Type) (enc : TypeId × Value → H) :
    ReturnsInHanded {} Try.checked os 19 .any (Rows.frameBackSpec.pre6 enc Try.prog Try.f19 Rows.frameBackRow.domain false) (Rows.frameBackSpec.post enc Try.prog Try.f19 false true false false) := by
  refine returnsInHanded_of_change_sized (C := Try.checked) own started (by kernel_rfl) Try.func19
    (ChangeSpec.witness6 (enc := enc) (C := Try.checked) false ⟨#[], #[.agg #[.int .i64 0, .string ByteArray.empty, .string ByteArray.empty, .int .i64 0]], []⟩ 8 (by kernel_rfl) (by kernel_rfl) (by kernel_rfl) (by kernel_rfl)) ?_
  intro W base args ds gs before hval hW hcnd hsz0 _
  exact contract H enc W base args ds gs before hval hW hsz0
set_option maxRecDepth 100000 in
theorem k0 : (Rows.frameBackRow.wf (OpenSpec.ofChange (OpenSpec.ofChange Rows.frameBackSpec).bare)) = true := by kernel_rfl
set_option maxRecDepth 100000 in
theorem k1 : (laidOutB Try.pinned.checked.prog) = true := by kernel_rfl
set_option maxRecDepth 100000 in
theorem k2 : (mapsRowed Try.pinned.checked.prog) = true := by kernel_rfl
set_option maxRecDepth 100000 in
theorem k3 : (Try.f19.params.all (Try.pinned.checked.prog.readableRec ·)) = true := by kernel_rfl
set_option maxRecDepth 100000 in
theorem k4 : (namedTie Try.pinned.checked.prog Rows.frameBackRow.named (OpenSpec.ofChange Rows.frameBackSpec).bare.vars) = true := by kernel_rfl
set_option maxRecDepth 100000 in
theorem k5 : ((Rows.frameBackRow.stops == [])) = true := by kernel_rfl
set_option maxRecDepth 100000 in
theorem k6 : ((Try.pinned.checked.prog.stops == [])) = true := by kernel_rfl
set_option maxRecDepth 100000 in
theorem k7 : ((Rows.frameBackRow.knobs == [])) = true := by kernel_rfl
set_option maxRecDepth 100000 in
theorem k8 : ((Try.pinned.checked.prog.stopKnobs == [])) = true := by kernel_rfl
set_option maxRecDepth 100000 in
theorem k9 : ((Rows.frameBackRow.inPlace == Try.pinned.checked.prog.inPlace 19)) = true := by kernel_rfl
set_option maxRecDepth 100000 in
theorem k10 : ((Rows.frameBackRow.unfollowed == Try.pinned.checked.prog.unfollowed 19)) = true := by kernel_rfl
set_option maxRecDepth 100000 in
theorem k11 : ((Rows.frameBackRow.recurses == Try.pinned.checked.prog.recurses 19)) = true := by kernel_rfl
set_option maxRecDepth 100000 in
theorem k12 : ((Rows.frameBackRow.named == Try.pinned.checked.prog.varsNamed 19)) = true := by kernel_rfl
set_option maxRecDepth 100000 in
theorem k13 : ((Rows.frameBackRow.maps == (Try.f19.params.toList ++ (OpenSpec.ofChange Rows.frameBackSpec).bare.plain.varTypes Try.pinned.checked.prog).any (Try.pinned.checked.prog.mapsRec ·))) = true := by kernel_rfl
set_option maxRecDepth 100000 in
theorem k14 : ((Rows.frameBackRow.ifaces == (Try.f19.params.toList ++ (OpenSpec.ofChange Rows.frameBackSpec).bare.plain.varTypes Try.pinned.checked.prog).any (Try.pinned.checked.prog.ifacesRec ·))) = true := by kernel_rfl
set_option maxRecDepth 100000 in
theorem k15 : ((Rows.frameBackRow.mapsOut == Try.pinned.checked.prog.mapsAmong Try.f19.resultTypes.toList)) = true := by kernel_rfl
set_option maxRecDepth 100000 in
theorem k16 : ((Rows.frameBackRow.loops == (Try.f19.params.toList ++ (OpenSpec.ofChange Rows.frameBackSpec).bare.plain.varTypes Try.pinned.checked.prog).any (Try.pinned.checked.prog.loopsFrom ·))) = true := by kernel_rfl
set_option maxRecDepth 100000 in
theorem k17 : ((Rows.frameBackRow.wideKeys == (Try.f19.params.toList ++ (OpenSpec.ofChange Rows.frameBackSpec).bare.plain.varTypes Try.pinned.checked.prog ++ Try.f19.resultTypes.toList).any (Try.pinned.checked.prog.wideKeysFrom ·))) = true := by kernel_rfl
set_option maxRecDepth 100000 in
theorem k18 : ((OpenSpec.ofChange Rows.frameBackSpec).bare.vars.all (Try.pinned.checked.prog.varReadable ·)) = true := by kernel_rfl
set_option maxRecDepth 100000 in
theorem k19 : (Try.f19.resultTypes.all (fun t => Try.pinned.checked.prog.readableRec t && decide (t < Try.pinned.checked.prog.types.size))) = true := by kernel_rfl
set_option maxRecDepth 100000 in
theorem k20 : ((Rows.frameBackRow.ifacesOut == Try.f19.resultTypes.toList.any (Try.pinned.checked.prog.ifacesRec ·))) = true := by kernel_rfl
set_option maxRecDepth 100000 in
theorem k21 : ((Rows.frameBackRow.loopsOut == Try.f19.resultTypes.toList.any (Try.pinned.checked.prog.loopsFrom ·))) = true := by kernel_rfl
set_option maxRecDepth 100000 in
theorem k22 : ((Rows.frameBackRow.plainKeys == Try.pinned.checked.prog.plainKeys)) = true := by kernel_rfl
set_option maxRecDepth 100000 in
theorem k23 : (Rows.frameBackRow.shortTexts.isNone) = true := by kernel_rfl
set_option maxRecDepth 100000 in
theorem k24 : (Try.pinned.checked.prog.stopsHeard) = true := by kernel_rfl
set_option maxRecDepth 100000 in
theorem k28 : ((Rows.frameBackRow.kinds == (if Rows.frameBackRow.domain.isEmpty then [] else Try.f19.params.toList.map fun t => match Try.pinned.checked.prog.underlying t with | some (.int k) => some k | _ => none))) = true := by kernel_rfl
set_option maxRecDepth 100000 in
theorem k29 : ((Rows.frameBackRow.pinned == Rows.frameBackRow.pinnedBy)) = true := by kernel_rfl
set_option maxRecDepth 100000 in
theorem k30 : ((Rows.frameBackRow.veiled == (Try.f19.params.toList ++ (OpenSpec.ofChange Rows.frameBackSpec).bare.plain.varTypes Try.pinned.checked.prog ++ Try.f19.resultTypes.toList).any (Try.pinned.checked.prog.veiledRec ·))) = true := by kernel_rfl
set_option maxRecDepth 100000 in
theorem k31 : (Rows.frameBackRow.veiledFits Try.pinned.checked.prog Try.f19.params.toList (Try.f19.params.toList ++ (OpenSpec.ofChange Rows.frameBackSpec).bare.plain.varTypes Try.pinned.checked.prog ++ Try.f19.resultTypes.toList)) = true := by kernel_rfl
set_option maxRecDepth 100000 in
theorem closed : joinedFacts Try.pinned.checked.prog 19 Try.f19 (OpenSpec.ofChange Rows.frameBackSpec).bare Rows.frameBackRow = true := by
  unfold joinedFacts
  exact (and_mk (and_mk (and_mk (and_mk (and_mk (and_mk (and_mk (and_mk (and_mk (and_mk (and_mk (and_mk (and_mk (and_mk (and_mk (and_mk (and_mk (and_mk (and_mk (and_mk (and_mk (and_mk (and_mk (and_mk (and_mk (and_mk (and_mk (and_mk (and_mk (and_mk (and_mk k0 k1) k2) k3) k4) k5) k6) k7) k8) k9) k10) k11) k12) k13) k14) k15) k16) k17) k18) k19) k20) k21) k22) k23) k24) p_mayEnter) p_lifted) p_make) k28) k29) k30) k31)
set_option maxRecDepth 100000 in
theorem over : Rows.frameBackRow.holds Try.pinned (OpenSpec.ofChange Rows.frameBackSpec) :=
  OpenClaim.holds_of_wide 19 Try.f19 rfl rfl rfl rfl rfl rfl rfl ⟨rfl, rfl, rfl, rfl, rfl⟩ rfl rfl rfl rfl rfl (by kernel_rfl) Try.func19 closed
    (of_decide_eq_true (by kernel_rfl)) (by unfold Func.isWrapper; first | (rw [if_pos (by decide +kernel)]; kernel_rfl) | (rw [if_neg (by decide +kernel)]; exact ⟨rfl, rfl⟩))
    (fun os started H enc _ => lifted os started H enc)
theorem proved : Rows.FrameBackSaid := over
#print axioms proved
end Go.Proofs.Ytfemjlhfgmbcmaa.frameBack
namespace Go.Proofs.Ytfemjlhfgmbcmaa
/-- The row, under a short name, for the claim. -/
theorem frameBack_holds : Rows.FrameBackSaid := frameBack.proved
end Go.Proofs.Ytfemjlhfgmbcmaa
