/- The frames that stand in bytes: plain; the walk of Walk's closure. -/
import Derived.Test.YtfemjlhfgmbcmaaFf
import Derived.RangeFuncNested
import Derived.RangeFuncBound
import Derived.RangeFuncCalls
import Derived.RangeFuncLeaves
import Derived.RangeFuncBox
import Derived.Shelf.Abstract
import Derived.Shelf.RegionOpen
import Derived.WalkKit
import Derived.OwnWalkIn
import Derived.TacticsInMore
import Derived.LoopNIn
import Derived.LoopIn
import Derived.Stop.RegionWithIn
namespace Go.Proofs.Ytfemjlhfgmbcmaa
open Go.RowKit Go.Shelf Go.Proofs.YtfemjlhfgmbcmaaW.PrintWords Go.Proofs.YtfemjlhfgmbcmaaW.PrintLast Go.Proofs.YtfemjlhfgmbcmaaW.PrintMore
attribute [local go_sem] Oper.semAt_some

structure Fr where
  kind : Int
  load : ByteArray
  hl : load.size ≤ 65536
theorem takeF_good (s : ByteArray) (h : (takeF s).2.2.2 = 0) : (takeF s).2.1.size ≤ 65536 ∧ (takeF s).2.2.1 = 5 + (encL (takeF s).2.1.size).length + (takeF s).2.1.size ∧ 6 ≤ (takeF s).2.2.1 ∧ (takeF s).2.2.1 ≤ s.size := by
  have hok := num0_ok (s.extract 5 s.size)
  have hen := num0_enc (s.extract 5 s.size)
  have hu : 5 ≤ s.size → (s.extract 5 s.size).size = s.size - 5 := fun _ => extract_size_le _ _ _ (Nat.le_refl _)
  unfold takeF at h ⊢
  by_cases h6 : s.size < 6
  · rw [if_pos h6] at h; exact absurd h (by decide)
  · rw [if_neg h6] at h ⊢
    generalize num0 (s.extract 5 s.size) = T at hok hen h ⊢
    obtain ⟨v, k, er⟩ := T
    dsimp only at hok hen h ⊢
    by_cases he : er = 0
    · subst he
      obtain ⟨k0, k1, k2, _⟩ := hok rfl
      have hl := congrArg List.length (hen rfl)
      rw [List.length_take, ← Lib.size_eq, Nat.min_eq_left k1] at hl
      rw [if_neg (by simp)] at h ⊢
      by_cases c1 : 65536 < v
      · rw [if_pos c1] at h; exact absurd h (by simp)
      · rw [if_neg c1] at h ⊢
        by_cases c2 : s.size < 5 + k + v
        · rw [if_pos c2] at h; exact absurd h (by simp)
        · rw [if_neg c2] at h ⊢
          by_cases c3 : fourB (sumN (s.extract 4 (5 + k + v))) = s.extract 0 4
          · rw [if_pos c3]
            dsimp only
            rw [extract_size_le _ _ _ (by omega), show 5 + k + v - (5 + k) = v by omega, ← hl]
            omega
          · rw [if_neg c3] at h; exact absurd h (by simp)
    · rw [if_pos he] at h; exact absurd h he
def framesF (s : ByteArray) : List Fr :=
  if h : s.size = 0 ∨ (takeF s).2.2.2 ≠ 0 then [] else ⟨(takeF s).1, (takeF s).2.1, (takeF_good s (by omega)).1⟩ :: framesF (s.extract (takeF s).2.2.1 s.size)
  termination_by s.size
  decreasing_by
    have := takeF_good s (by omega)
    rw [extract_size_le _ _ _ (Nat.le_refl _)]; omega
theorem framesF_nil (s : ByteArray) (h : s.size = 0 ∨ (takeF s).2.2.2 ≠ 0) : framesF s = [] := by rw [framesF, dif_pos h]
theorem framesF_cons (s : ByteArray) (h : ¬ s.size = 0) (h2 : (takeF s).2.2.2 = 0) : framesF s = ⟨(takeF s).1, (takeF s).2.1, (takeF_good s h2).1⟩ :: framesF (s.extract (takeF s).2.2.1 s.size) := by
  rw [framesF, dif_neg (by omega)]
def strSize : Value → Nat
  | .string s => s.size
  | _ => 0

set_option maxRecDepth 100000 in
set_option maxHeartbeats 2000000 in
theorem Walk1_in (n l Bs n₀ : Nat) (hn : 1 ≤ n) (s : ByteArray) (hs : s.size ≤ maxLen) (J Jx : List Fr → World → Prop)
    (hY : ∀ pre x W, J pre W → pre.length < (framesF s).length → YieldAt Fence.wide (n - 1) Try.prog l #[.int .u8 x.kind, .string x.load] W fun e W' =>
      (e = .returned (.bool true) ∧ J (pre ++ [x]) W' ∧ Below n₀ W W') ∨ (e = .returned (.bool false) ∧ Jx (pre ++ [x]) W'))
    (W : World) (hJ : AbidesFrom W.heap.size J) (hBs : W.cell? ⟨Bs, 0, none⟩ = some (.string s)) (h0 : J [] W) :
    CallsIn Fence.wide n Try.prog 101 #[.func (.yield l) #[] #[], .pointer (some ⟨Bs, 0, none⟩)] W fun e W' => (∃ v, e = .returned v) ∧
      ((∃ ys, ys = framesF s ∧ J ys W') ∨ (∃ pre, pre <+: framesF s ∧ Jx pre W')) := by
  refine callsIn_of_wp Try.func101 rfl trivial ?_ rfl
  simp only [Try.ntmps101, List.size_toArray, List.length_cons, List.length_nil, Nat.reduceAdd, Nat.reduceSub, Array.replicate_succ, Array.replicate_zero, List.push_toArray, List.append_toArray, List.nil_append, List.cons_append]
  gi_wp2
  gi_loopw [3] (fun r wr => ∃ (pre : List Fr) (rest : ByteArray), r = .string rest ∧ pre ++ framesF rest = framesF s ∧ rest.size ≤ s.size ∧ J pre wr) (fun r _ => strSize r)
  case atStart => exact ⟨[], s, rfl, rfl, Nat.le_refl _, h0⟩
  case round =>
    obtain ⟨pre, rest, rfl, hf, hle, hJs⟩ := hrel
    by_cases hz : rest.size = 0
    · have hz2 : rest.toList = [] := str_none hz
      have hfr := framesF_nil rest (.inl hz)
      gi_wp2
      go_end0
      exact ⟨⟨_, rfl⟩, .inl ⟨pre, by rw [← hf, hfr, List.append_nil], hJs⟩⟩
    · have hz2 := str_some (show 0 < rest.size by omega)
      have C1 := Lib.hid (Take_calls rest wr (by omega))
      by_cases he : (takeF rest).2.2.2 = 0
      · have hg := takeF_good rest he
        have hfr := framesF_cons rest hz he
        have hx : (⟨(takeF rest).1, (takeF rest).2.1, (takeF_good rest he).1⟩ : Fr) = ⟨(takeF rest).1, (takeF rest).2.1, hg.1⟩ := rfl
        rw [hx] at hfr
        rw [hfr] at hf
        clear hx hfr
        generalize takeF rest = T at C1 he hg hf
        obtain ⟨kd, ld, m, er⟩ := T
        dsimp only at C1 he hg hf
        subst he
        have hl := hg.1
        replace hf : pre ++ (⟨kd, ld, hl⟩ :: framesF (rest.extract m rest.size)) = framesF s := hf
        obtain ⟨_, hme, hm1, hm2⟩ := hg
        clear hme
        have hmi : (m : Int) ≤ (rest.size : Int) := by omega
        have HF := Lib.hid hf
        have HY := Lib.hid (fun (w1 : World) (h : J pre w1) => hY pre ⟨kd, ld, hl⟩ w1 h (by rw [← HF.out]; simp))
        clear hf
        gi_wp2_with (refine ⟨trivial, ?_⟩; gi_at_call 65; refine (callsIn_wide.2 C1.out).mono ?_; rintro e w' ⟨rfl, hb⟩; have hJ1 := Lib.hid (hJ _ _ _ none hJs (grown_of_below hb none) (fun r e => by cases e)); obtain ⟨fn, tmps, assign, body, hy, hR⟩ := HY.out w' hJ1.out; dsimp only at hy)
        refine hR.mono ?_
        rintro e W3 (⟨rfl, hJ3, hk3⟩ | ⟨rfl, hJx3⟩)
        · gi_wp2
          go_roundw
          case rel => exact ⟨pre ++ [⟨kd, ld, hl⟩], rest.extract m rest.size, rfl, by rw [List.append_assoc]; exact HF.out, by rw [extract_size_le _ _ _ (Nat.le_refl _)]; omega, hJ3⟩
          case measure => show (rest.extract m rest.size).size < rest.size; rw [extract_size_le _ _ _ (Nat.le_refl _)]; omega
        · gi_wp2
          refine bodyPost_ret (results_none rfl _ _ _) rfl ?_
          exact ⟨⟨_, rfl⟩, .inr ⟨pre ++ [⟨kd, ld, hl⟩], ⟨framesF (rest.extract m rest.size), by rw [List.append_assoc]; exact HF.out⟩, hJx3⟩⟩
      · have hb2 : (((takeF rest).2.2.2 : Int) != 0) = true := by simpa using he
        have hfr := framesF_nil rest (.inr he)
        generalize takeF rest = T at C1 he hb2
        obtain ⟨kd, ld, m, er⟩ := T
        dsimp only at C1 he hb2
        gi_wp2_with (refine ⟨trivial, ?_⟩; gi_at_call 65; refine (callsIn_wide.2 C1.out).mono ?_; rintro e w' ⟨rfl, hb⟩)
        have hJ1 := Lib.hid (hJ _ _ _ none hJs (grown_of_below hb none) (fun r e => by cases e))
        refine ⟨fun _ h => (by cases h), ?_⟩
        gi_wp2
        refine bodyPost_ret (results_none rfl _ _ _) rfl ?_
        exact ⟨⟨_, rfl⟩, .inl ⟨pre, by rw [← hf, hfr, List.append_nil], hJ1.out⟩⟩

theorem Walk_stops (n Bs n₀ : Nat) (hn : 1 ≤ n) (s : ByteArray) (hs : s.size ≤ maxLen) (w : World) (hBs : w.cell? ⟨Bs, 0, none⟩ = some (.string s)) (hlt : Bs < w.heap.size) :
    SeqStopsK Fence.wide n Try.prog 101 #[.pointer (some ⟨Bs, 0, none⟩)] (fun x : Fr => #[.int .u8 x.kind, .string x.load]) (Below n₀) (fun ys => ys = framesF s) (fun pre => pre <+: framesF s) (framesF s).length w := fun l J Jx W hW hJ _ hY h0 =>
  Walk1_in n l Bs n₀ hn s hs J Jx hY W hJ ((hW.cell (p := ⟨Bs, 0, none⟩) hlt).trans hBs) h0

set_option maxRecDepth 100000 in
theorem Walk_calls (s : ByteArray) (w : World) : Calls Try.prog 68 #[.string s] w fun e w' => e = .returned (.func (.func 101) #[] #[.pointer (some ⟨w.heap.size, 0, none⟩)]) ∧ w' = w.alloc (.cells #[.string s] 9) := by
  go_enter Try.func68, Try.ntmps68
  go_wp2_with fail
  go_ret
  exact ⟨rfl, rfl⟩

theorem cell_new_l (W : World) (v : Value) (t : TypeId) : (W.alloc (.cells #[v] t)).cell? ⟨W.heap.size, 0, none⟩ = some v ∧ (W.alloc (.cells #[v] t)).frozen? ⟨W.heap.size, 0, none⟩ = false := by
  constructor <;> simp
theorem cell_alloc_l {W : World} {a : Addr} {v : Value} (o : Obj) (h : W.cell? a = some v) : (W.alloc o).cell? a = some v := cell_kept h (World.grownBy_alloc W o none) (fun r e => by cases e)
theorem frozen_alloc_l {W : World} {a : Addr} {v : Value} (o : Obj) (h : W.cell? a = some v) (hf : W.frozen? a = false) : (W.alloc o).frozen? a = false := (frozen_kept h (World.grownBy_alloc W o none) (fun r e => by cases e)).trans hf

/-- How many bytes the frames have. -/
def goodL (l : List Fr) : Nat := (l.map fun x => 5 + (encL x.load.size).length + x.load.size).sum
theorem goodL_le (s : ByteArray) : goodL (framesF s) ≤ s.size := by
  by_cases h : s.size = 0 ∨ (takeF s).2.2.2 ≠ 0
  · rw [framesF_nil s h]; exact Nat.zero_le _
  · have hg := takeF_good s (by omega)
    rw [framesF_cons s (by omega) (by omega)]
    have ih := goodL_le (s.extract (takeF s).2.2.1 s.size)
    rw [extract_size_le _ _ _ (Nat.le_refl _)] at ih
    simp only [goodL, List.map_cons, List.sum_cons] at ih ⊢
    omega
  termination_by s.size
  decreasing_by
    have := takeF_good s (by omega)
    rw [extract_size_le _ _ _ (Nat.le_refl _)]; omega
theorem goodL_snoc (l : List Fr) (x : Fr) : goodL (l ++ [x]) = goodL l + (5 + ((encL x.load.size).length + x.load.size)) := by
  simp [goodL]; omega

def gw (l : List Fr) : Int := wrap64 (goodL l)
theorem gw_snoc (l : List Fr) (x : Fr) : wrap64 (gw l + (5 + ((encB x.load.size ++ x.load).size : Int))) = gw (l ++ [x]) := by
  have h1 : (encB x.load.size ++ x.load).size = (encL x.load.size).length + x.load.size := by rw [ByteArray.size_append, encB_size]
  rw [h1]
  unfold gw
  rw [goodL_snoc]
  unfold wrap64
  omega

set_option maxRecDepth 100000 in
set_option maxHeartbeats 2000000 in
theorem Good_calls (s : ByteArray) (w : World) (hs : s.size ≤ maxLen) : Calls Try.prog 69 #[.string s] w fun e w' => e = .returned (.int .i64 (goodL (framesF s))) ∧ Below w.heap.size w w' := by
  have hmax := goodL_le s
  unfold maxLen at hs
  have HW := Lib.hid (Walk_calls s (w.alloc (.cells #[.int .i64 0] 3)))
  refine (callsIn_wide (n := 6)).1 ?_
  refine callsIn_of_wp_marks Try.func69 rfl trivial ?_ rfl
  simp only [Try.ntmps69, List.size_toArray, List.length_cons, List.length_nil, Nat.reduceAdd, Nat.reduceSub, Array.replicate_succ, Array.replicate_zero, List.push_toArray, List.append_toArray, List.nil_append, List.cons_append]
  gi_wp2_with (refine ⟨trivial, ?_⟩; gi_at_call 68; refine (callsIn_wide.2 HW.out).mono ?_; rintro e w' ⟨rfl, rfl⟩)
  have hs0 := cell_new_l w (.int .i64 0) 3
  have hb0 := cell_new_l (w.alloc (.cells #[.int .i64 0] 3)) (.string s) 9
  rw [World.size_alloc] at hb0
  have hB0 : Below w.heap.size w ((w.alloc (.cells #[.int .i64 0] 3)).alloc (.cells #[.string s] 9)) := ((Below.refl _ w).alloc (Nat.le_refl _) _).alloc (by simp) _
  refine wpIn_rangeFunc_ownF (n := 6) rfl (by decide) (gf := 101) (lb := #[.pointer (some ⟨w.heap.size + 1, 0, none⟩)]) rfl trivial (enters_of Try.func101 (by kernel_rfl) rfl)
    (Walk_stops 5 (w.heap.size + 1) w.heap.size (by decide) s (by unfold maxLen; omega) _ hb0.1 (by simp)) belowK_t (belowK_b (by simp; omega)) (Below.refl _ _) (fun _ => rfl)
    (fun pre W => (W.cell? ⟨w.heap.size, 0, none⟩ = some (.int .i64 (gw pre)) ∧ W.frozen? ⟨w.heap.size, 0, none⟩ = false) ∧ Below w.heap.size w W)
    (fun _ _ _ => False)
    (OwnFrom.and (Own.from (fun s A B row hs hg hr => ⟨cell_kept hs.1 hg hr, (frozen_kept hs.1 hg hr).trans hs.2⟩) _) (ownFrom_below (Nat.le_refl _) (by simp; omega)))
    (fun _ _ _ _ _ hs _ _ => hs)
    ⟨⟨by rw [show gw [] = 0 by simp [gw, goodL, wrap64]]; exact cell_alloc_l _ hs0.1, frozen_alloc_l _ hs0.1 hs0.2⟩, hB0⟩
    (fun x => { tmps := #[.string s, undef, .int .i64 0, .pointer (some ⟨w.heap.size, 0, none⟩), undef, .string x.load, .string s, .func (.func 101) #[] #[.pointer (some ⟨w.heap.size + 1, 0, none⟩)], .int .u8 x.kind, .string x.load, undef, undef, undef, undef, undef, undef, undef], defers := [] }) ?assign ?body ?done ?stop
  case assign =>
    intro l x W K hK
    gi_wp2
    exact hK
  case body =>
    rintro l pre x W ⟨⟨hc, hf⟩, hB⟩ _
    have C1 := Lib.hid (fun W => WText_calls x.load W (by have := x.hl; omega))
    have hsn := Lib.hid (gw_snoc pre x)
    have h10 := (encB_le x.load.size (by have := x.hl; omega)).1
    have hsz : (encB x.load.size ++ x.load).size ≤ 65546 := by rw [ByteArray.size_append]; have := x.hl; omega
    generalize encB x.load.size ++ x.load = Y at C1 hsn hsz
    generalize gw pre = G at hc hsn
    have hval : IntKind.i64.wrap (G + IntKind.i64.wrap (5 + (Y.size : Int))) = gw (pre ++ [x]) := by
      rw [← hsn.out]; simp only [IntKind.wrap_i64, wrap64]; omega
    have HV := Lib.hid hval
    clear hval
    have hcd : W.drew.cell? ⟨w.heap.size, 0, none⟩ = some (.int .i64 G) := hc
    have hfd : W.drew.frozen? ⟨w.heap.size, 0, none⟩ = false := hf
    gi_wp2
    gi_region_with (refine ⟨trivial, ?_⟩; gi_at_call 28; refine (CallsIn.inRound l (callsIn_wide.2 (C1.out _))).mono ?_; rintro e w' ⟨rfl, hb⟩; have hc2 := cell_kept hcd (grown_of_below hb none) (fun r e => by cases e); have hf2 := (frozen_kept hcd (grown_of_below hb none) (fun r e => by cases e)).trans hfd; have hb2 := Lib.hid hb)
    all_goals
      gi_wp2
      have hBd : Below w.heap.size W w' := (below_drew1 (Below.refl _ _)).trans (hb2.out.mono hB.size)
      exact ⟨(KeepsOthers.drew W).trans ((KeepsOthers.of_grownBy (grown_of_below hb2.out none) (fun j o e => by cases e)).trans (KeepsOthers.setCell _ _ _)), hBd.setCell (p := ⟨w.heap.size, 0, none⟩) (Nat.le_refl _) _,
        ⟨by rw [HV.out]; exact World.cell?_setCell_same' _ _ _ (by rw [hc2]; rfl), by rw [World.frozen?_setCell]; exact hf2⟩, (hB.trans hBd).setCell (p := ⟨w.heap.size, 0, none⟩) (Nat.le_refl _) _⟩
  case done =>
    rintro D ys W hD rfl ⟨⟨hc, _⟩, hB⟩ hK
    gi_wp2
    refine ⟨by simp, .inl ⟨_, _, rfl, run_takeDeferred hK, ?_⟩⟩
    have hgw : gw (framesF s) = goodL (framesF s) := by unfold gw wrap64; omega
    exact ⟨_, results_tmp rfl _ _ _, by rw [← hgw]; rfl, hB.trans (belowK_b (w := w) (Nat.le_refl _) W D _ _ (by simp at hD; omega) hK rfl rfl)⟩
  case stop =>
    rintro D c pre W _ _ h _
    exact h.elim
end Go.Proofs.Ytfemjlhfgmbcmaa
