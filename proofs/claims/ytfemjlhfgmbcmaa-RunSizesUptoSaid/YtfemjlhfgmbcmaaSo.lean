/- RunBlocks and RunSizes walked. Laid by gen_so.py. -/
import Derived.Test.YtfemjlhfgmbcmaaVe
namespace Go.Proofs.Ytfemjlhfgmbcmaa
open Go.RowKit Go.Shelf Go.Proofs.YtfemjlhfgmbcmaaW.PrintWords Go.Proofs.YtfemjlhfgmbcmaaW.PrintLast Go.Proofs.YtfemjlhfgmbcmaaW.PrintMore
open Go.Proofs.Ytfemjlhfgmbcmaa.PRunBuilds
set_option linter.unusedVariables false
set_option linter.unusedSimpArgs false
attribute [local go_sem ↓] Go.wp_at_zero Go.wp_at_succ

/-- What was built opens as it was. -/
structure BuiltOk (b : Int) (rows : List RRow) (n : Nat) : Prop where
  opens : openF (buildF b rows).1 = some (rows, n)
  size : (buildF b rows).1.size ≤ maxLen
  many : n = (closeS (goB b rows none ms0).2).many
  le : n ≤ rows.length
  zero : rows.length = 0 ↔ n = 0
  sorted : sortedB rows = true
  lo : 64 ≤ b
  hi : b ≤ 4096
  good : (goB b rows none ms0).1 = 0
theorem built_ok (b : Int) (rows : List RRow) (h : (buildF b rows).2 = 0) : ∃ n, BuiltOk b rows n := by
  obtain ⟨bl, hf, hok, hs, hm, h1, h2, h3⟩ := buildF_ok b rows h
  have ho := openF_run bl hok
  have hn := BlkOk.len hok.ok
  have hso := hok.ord
  rw [hf] at ho hn hso
  refine ⟨bl.length, by rw [hs]; exact ho, by rw [hs]; have := hok.sz; unfold maxLen; omega, hm.symm, hn, ⟨fun h => by omega, fun h => ?_⟩, hso, h1, h2, h3⟩
  have e : bl = [] := List.length_eq_zero_iff.1 h
  rw [← hf, e]; rfl
theorem OB {rows : List RRow} {s : ByteArray} {n : Nat} {W : World} (h : openF s = some (rows, n) ∧ s.size ≤ maxLen) : Calls Try.prog 42 #[.string s] W fun e w' => ∃ g, e = .returned (.tuple #[.pointer (some ⟨g, 0, none⟩), .int .i64 0]) ∧ Below W.heap.size W w' ∧ RunIs w' g W.heap.size rows n := by
  have h1 := Open_calls s W h.2
  rw [h.1] at h1
  exact h1
theorem blocks_le (rows : List RRow) {n m : Nat} (h1 : BuiltOk 64 rows n) (h2 : BuiltOk 4096 rows m) : m ≤ n := by
  rw [h1.many, h2.many]
  exact (LeM.go (by decide) (by decide) rows none ms0 ms0 (.inr ⟨rfl, Nat.le_refl _⟩) h1.good h2.good).close

set_option maxRecDepth 100000 in
set_option maxHeartbeats 4000000 in
theorem runBlocks_fin (A : Option Addr) (c : Nat) (l : List S54) (w : World) (h : Kd.C k54 w A l.length l) (hl : l.length ≤ 1048576) :
    Calls Try.prog 23 #[.slice A l.length c] w fun e w' => e = .returned (.bool true) ∧ Below w.heap.size w w' := by
  have HC := Lib.hid (fun (W : World) (hb : Below w.heap.size w W) => Kd.C_below h hb)
  have HL := Lib.hid hl
  obtain ⟨rows, hrows⟩ : ∃ rows, rows = l.map toR := ⟨_, rfl⟩
  have hrl : rows.length ≤ 1048576 := by rw [hrows, List.length_map]; exact hl
  have HA := Lib.hid (fun (W : World) (hb : Below w.heap.size w W) => (show Calls Try.prog 41 #[.int .i64 64, .slice A l.length c] W fun e w' => e = .returned (.tuple #[.string (buildF 64 rows).1, .int .i64 (buildF 64 rows).2]) ∧ Below W.heap.size W w' by rw [hrows]; exact built_calls 64 A c l W (HC.out W hb) hl))
  have HB := Lib.hid (fun (W : World) (hb : Below w.heap.size w W) => (show Calls Try.prog 41 #[.int .i64 4096, .slice A l.length c] W fun e w' => e = .returned (.tuple #[.string (buildF 4096 rows).1, .int .i64 (buildF 4096 rows).2]) ∧ Below W.heap.size W w' by rw [hrows]; exact built_calls 4096 A c l W (HC.out W hb) hl))
  have hoA := built_ok 64 rows
  have hoB := built_ok 4096 rows
  obtain ⟨SA, hSA⟩ : ∃ x, x = buildF 64 rows := ⟨_, rfl⟩
  obtain ⟨SB, hSB⟩ : ∃ x, x = buildF 4096 rows := ⟨_, rfl⟩
  have HSA := Lib.hid hSA
  have HSB := Lib.hid hSB
  rw [← hSA] at HA hoA
  rw [← hSB] at HB hoB
  clear hSA hSB hrows h hl
  obtain ⟨sA, eA⟩ := SA
  obtain ⟨sB, eB⟩ := SB
  dsimp only at HA HB hoA hoB
  have HF1 : True := trivial
  have HF2 : True := trivial
  by_cases hA : eA = 0
  · subst hA
    obtain ⟨n, hn⟩ := hoA rfl
    have HOA := Lib.hid hn
    have hq : (((0 : Nat) : Int) != 0) = false := rfl
    have HXA := Lib.hid (show openF sA = some (rows, n) ∧ sA.size ≤ maxLen from ⟨by have := hn.opens; rwa [← HSA.out] at this, by have := hn.size; rwa [← HSA.out] at this⟩)
    clear hoA hn
    by_cases hB : eB = 0
    · subst hB
      obtain ⟨m, hm⟩ := hoB rfl
      have HXB := Lib.hid (show openF sB = some (rows, m) ∧ sB.size ≤ maxLen from ⟨by have := hm.opens; rwa [← HSB.out] at this, by have := hm.size; rwa [← HSB.out] at this⟩)
      have h1 : decide ((n : Int) ≤ (rows.length : Int)) = true := decide_eq_true (by have := HOA.out.le; omega)
      have h2 : decide ((m : Int) ≤ (n : Int)) = true := decide_eq_true (by have := blocks_le rows HOA.out hm; omega)
      have h1n : decide (n ≤ rows.length) = true := decide_eq_true HOA.out.le
      have h2n : decide (m ≤ n) = true := decide_eq_true (blocks_le rows HOA.out hm)
      have h1p := HOA.out.le
      have h2p := blocks_le rows HOA.out hm
      have h3 : ((rows.length : Int) == (rows.length : Int)) = true := by simp
      have e1 : ((rows.length : Int) == 0) = ((n : Int) == 0) := by
        have hz := HOA.out.zero
        rw [Bool.eq_iff_iff, beq_iff_eq, beq_iff_eq]
        omega
      have h4 : (((rows.length : Int) == 0) == ((n : Int) == 0)) = true := by rw [e1]; exact beq_self_eq_true _
      clear e1
      clear hoB hm
      go_enter Try.func23, Try.ntmps23
      go_wp2_with (first | (go_at_call 34; refine (shown7_calls _).mono ?_; rintro e w1 ⟨rfl, hb1⟩; have HB1 := Lib.hid hb1; clear hb1) | (go_at_call 41; clear HF1; refine (HA.out _ HB1.out).mono ?_; rintro e w2 ⟨rfl, hb2⟩; have HB2 := Lib.hid (HB1.out.trans (hb2.mono HB1.out.size)); clear hb2) | (go_at_call 41; refine (HB.out _ HB2.out).mono ?_; rintro e w3 ⟨rfl, hb3⟩; have HB3 := Lib.hid (HB2.out.trans (hb3.mono HB2.out.size)); clear hb3) | (go_at_call 42; clear HF2; refine (OB HXA.out).mono ?_; rintro e w4 ⟨g1, rfl, hb4, hr4⟩; have HB4 := Lib.hid (HB3.out.trans (hb4.mono HB3.out.size)); have HR4 := Lib.hid hr4; clear hb4 hr4) | (go_at_call 42; refine (OB HXB.out).mono ?_; rintro e w5 ⟨g2, rfl, hb5, hr5⟩; have HB5 := Lib.hid (HB4.out.trans (hb5.mono HB4.out.size)); have HR45 := Lib.hid (HR4.out.below hb5); have HR5 := Lib.hid hr5; clear hb5 hr5) | (go_at_call 39; refine (RLen_calls (by first | exact HR45.out | exact HR5.out)).mono ?_; rintro e w' ⟨rfl, rfl⟩) | (go_at_call 40; refine (RBlocks_calls (by first | exact HR45.out | exact HR5.out)).mono ?_; rintro e w' ⟨rfl, rfl⟩))
      go_ret
      exact ⟨rfl, HB5.out⟩
    · have hq2 : ((eB : Int) != 0) = true := by simpa using hB
      clear hoB hB
      go_enter Try.func23, Try.ntmps23
      go_wp2_with (first | (go_at_call 34; refine (shown7_calls _).mono ?_; rintro e w1 ⟨rfl, hb1⟩; have HB1 := Lib.hid hb1; clear hb1) | (go_at_call 41; clear HF1; refine (HA.out _ HB1.out).mono ?_; rintro e w2 ⟨rfl, hb2⟩; have HB2 := Lib.hid (HB1.out.trans (hb2.mono HB1.out.size)); clear hb2) | (go_at_call 41; refine (HB.out _ HB2.out).mono ?_; rintro e w3 ⟨rfl, hb3⟩; have HB3 := Lib.hid (HB2.out.trans (hb3.mono HB2.out.size)); clear hb3))
      go_ret
      exact ⟨rfl, HB3.out⟩
  · have hq : ((eA : Int) != 0) = true := by simpa using hA
    clear hoA hoB hA
    go_enter Try.func23, Try.ntmps23
    go_wp2_with (first | (go_at_call 34; refine (shown7_calls _).mono ?_; rintro e w1 ⟨rfl, hb1⟩; have HB1 := Lib.hid hb1; clear hb1) | (go_at_call 41; clear HF1; refine (HA.out _ HB1.out).mono ?_; rintro e w2 ⟨rfl, hb2⟩; have HB2 := Lib.hid (HB1.out.trans (hb2.mono HB1.out.size)); clear hb2) | (go_at_call 41; refine (HB.out _ HB2.out).mono ?_; rintro e w3 ⟨rfl, hb3⟩; have HB3 := Lib.hid (HB2.out.trans (hb3.mono HB2.out.size)); clear hb3))
    go_ret
    exact ⟨rfl, HB3.out⟩
end Go.Proofs.Ytfemjlhfgmbcmaa
