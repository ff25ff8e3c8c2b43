/- The walk of WireWrites. -/
import Derived.Test.YtfemjlhfgmbcmaaLa
namespace Go.Proofs.Ytfemjlhfgmbcmaa
open Go.RowKit Go.Proofs.YtfemjlhfgmbcmaaW.PrintWords Go.Proofs.YtfemjlhfgmbcmaaW.PrintLast Go.Proofs.YtfemjlhfgmbcmaaW.PrintMore

theorem bstep {w W w2 : World} (h : Below w.heap.size w W) (k : Below W.heap.size W w2) : Below w.heap.size w w2 := h.trans (k.mono h.size)

set_option maxHeartbeats 1000000 in
set_option maxRecDepth 100000 in
theorem writes_fin (v : Nat) (n : Int) (A : Option Addr) (c : Nat) (l : List ByteArray) (w : World) (hv : v < 18446744073709551616) (hn : -9223372036854775808 ≤ n) (hn2 : n ≤ 9223372036854775807)
    (hC : Kd.C Kd.string w A l.length l) (hB : (l.map fun s => s.size + 1).sum ≤ 1048576) :
    Calls Try.prog 7 #[.int .u64 v, .int .i64 n, .slice A l.length c] w fun e w' => e = .returned (.bool true) ∧ Below w.heap.size w w' := by
  have hE := encLs_le l _ hB (by decide)
  have hl := len_le_sum l
  have H0 := Lib.hid (Below.refl w.heap.size w)
  have c1 := Lib.hid (fun W => WUint_calls v W hv)
  have c2 := Lib.hid (fun W => RUint_calls v W hv)
  have c3 := Lib.hid (fun W => WInt_calls n W hn hn2)
  have c4 := Lib.hid (fun W => RInt_calls n W hn hn2)
  generalize encB v = bv at c1 c2
  generalize encB (zig n) = bn at c3 c4
  have hL := fun (W : World) (hb : Below w.heap.size w W) => WList_calls A c l W (Kd.C_below hC hb) (by omega)
  have hR := fun (W : World) (hb : Below w.heap.size w W) => RList_calls A c l W (Kd.C_below hC hb) (by omega)
  generalize hF : (⟨(encLs l).toArray⟩ : ByteArray) = F at hL hR
  have HL := Lib.hid hL
  have HR := Lib.hid hR
  clear hL hR hF
  have fin : ∀ (s : ByteArray), s.size ≤ 1048576 → ∃ t : ByteArray, (∀ W : World, Calls Try.prog 28 #[.string s] W fun e w' => e = .returned (.string t) ∧ Below W.heap.size W w') ∧ (∀ W : World, Calls Try.prog 46 #[.string s] W fun e w' => e = .returned (.string t) ∧ Below W.heap.size W w') :=
    fun s hs => ⟨_, fun W => WText_calls s W (by omega), fun W => RText_calls s W (by omega)⟩
  cases l with
  | nil =>
    obtain ⟨t, ht1, ht2⟩ := fin ⟨#[]⟩ (by decide)
    have T1 := Lib.hid ht1
    have T2 := Lib.hid ht2
    clear ht1 ht2 fin hC
    go_enter Try.func7, Try.ntmps7
    go_wp2_with fail
    refine (shown_calls _).mono ?_
    rintro e w1 ⟨rfl, hb⟩
    have H1 := Lib.hid (bstep H0.out hb)
    clear hb H0
    go_wp2_with fail
    refine (c1.out _).mono ?_
    rintro e w2 ⟨rfl, hb⟩
    have H2 := Lib.hid (bstep H1.out hb)
    clear hb H1
    go_wp2_with fail
    refine (c2.out _).mono ?_
    rintro e w3 ⟨rfl, hb⟩
    have H3 := Lib.hid (bstep H2.out hb)
    clear hb H2
    go_wp2_with fail
    refine (c3.out _).mono ?_
    rintro e w4 ⟨rfl, hb⟩
    have H4 := Lib.hid (bstep H3.out hb)
    clear hb H3
    go_wp2_with fail
    refine (c4.out _).mono ?_
    rintro e w5 ⟨rfl, hb⟩
    have H5 := Lib.hid (bstep H4.out hb)
    clear hb H4
    go_wp2_with fail
    refine (T1.out _).mono ?_
    rintro e w6 ⟨rfl, hb⟩
    have H6 := Lib.hid (bstep H5.out hb)
    clear hb H5
    go_wp2_with fail
    refine (T2.out _).mono ?_
    rintro e w7 ⟨rfl, hb⟩
    have H7 := Lib.hid (bstep H6.out hb)
    clear hb H6
    go_wp2_with fail
    refine (HL.out _ H7.out).mono ?_
    rintro e w8 ⟨rfl, hb⟩
    have H8 := Lib.hid (bstep H7.out hb)
    clear hb H7
    go_wp2_with fail
    refine (HR.out _ H8.out).mono ?_
    rintro e w9 ⟨rfl, hb⟩
    have H9 := Lib.hid (bstep H8.out hb)
    clear hb H8
    go_wp2_with fail
    go_ret
    exact ⟨rfl, H9.out⟩
  | cons s r =>
    obtain ⟨t, ht1, ht2⟩ := fin s (by have := size_le_sum (s :: r) s (by simp); omega)
    have T1 := Lib.hid ht1
    have T2 := Lib.hid ht2
    obtain ⟨ad, cs, hA, _, hK, hcell⟩ := Kd.C_get hC ⟨#[]⟩ 0 (by omega) (by simp)
    subst hA
    obtain rfl : cs = [.string s] := hK
    have k0 : w.cell? ad = some (.string s) := by
      have := hcell 0 _ rfl
      simpa [Addr.add] using this
    have K0 := Lib.hid k0
    have hlen : (s :: r).length = r.length + 1 := rfl
    have hpos : 0 < (s :: r).length := by simp
    clear ht1 ht2 fin hC hcell k0
    go_enter Try.func7, Try.ntmps7
    go_wp2_with fail
    refine (shown_calls _).mono ?_
    rintro e w1 ⟨rfl, hb⟩
    have H1 := Lib.hid (bstep H0.out hb)
    have k1 : w1.cell? ad = some (.string s) := (hb.cell (World.block_lt_of_cell? w _ K0.out)).trans K0.out
    clear hb H0
    go_wp2_with fail
    refine (c1.out _).mono ?_
    rintro e w2 ⟨rfl, hb⟩
    have H2 := Lib.hid (bstep H1.out hb)
    clear hb H1
    go_wp2_with fail
    refine (c2.out _).mono ?_
    rintro e w3 ⟨rfl, hb⟩
    have H3 := Lib.hid (bstep H2.out hb)
    clear hb H2
    go_wp2_with fail
    refine (c3.out _).mono ?_
    rintro e w4 ⟨rfl, hb⟩
    have H4 := Lib.hid (bstep H3.out hb)
    clear hb H3
    go_wp2_with fail
    refine (c4.out _).mono ?_
    rintro e w5 ⟨rfl, hb⟩
    have H5 := Lib.hid (bstep H4.out hb)
    clear hb H4
    go_wp2_with fail
    refine (T1.out _).mono ?_
    rintro e w6 ⟨rfl, hb⟩
    have H6 := Lib.hid (bstep H5.out hb)
    clear hb H5
    go_wp2_with fail
    refine (T2.out _).mono ?_
    rintro e w7 ⟨rfl, hb⟩
    have H7 := Lib.hid (bstep H6.out hb)
    clear hb H6
    go_wp2_with fail
    refine (HL.out _ H7.out).mono ?_
    rintro e w8 ⟨rfl, hb⟩
    have H8 := Lib.hid (bstep H7.out hb)
    clear hb H7
    go_wp2_with fail
    refine (HR.out _ H8.out).mono ?_
    rintro e w9 ⟨rfl, hb⟩
    have H9 := Lib.hid (bstep H8.out hb)
    clear hb H8
    go_wp2_with fail
    go_ret
    exact ⟨rfl, H9.out⟩
end Go.Proofs.Ytfemjlhfgmbcmaa
