/- The walk of WireBack. Laid by gen_oc.py (this session's own program). -/
import Derived.Test.YtfemjlhfgmbcmaaOb
namespace Go.Proofs.Ytfemjlhfgmbcmaa
open Go.RowKit Go.Proofs.YtfemjlhfgmbcmaaW.PrintWords Go.Proofs.YtfemjlhfgmbcmaaW.PrintLast Go.Proofs.YtfemjlhfgmbcmaaW.PrintMore

theorem uint_back (v : Nat) (s : ByteArray) (r : List UInt8) (h : s.data.toList = encL v ++ r) (hv : v < 18446744073709551616) : ∃ s', uintR s 0 = ((v : Int), s', 0) ∧ s'.data.toList = r := by
  have hn := num0_back v r hv s h
  refine ⟨s.extract (encL v).length s.size, by unfold uintR; rw [hn, takeR_ok], ?_⟩
  rw [extract_tail, h, List.drop_append_of_le_length (Nat.le_refl _), List.drop_of_length_le (Nat.le_refl _), List.nil_append]
theorem int_back (n : Int) (s : ByteArray) (r : List UInt8) (h : s.data.toList = encL (zig n) ++ r) (h1 : -9223372036854775808 ≤ n) (h2 : n ≤ 9223372036854775807) : ∃ s', intR s 0 = (n, s', 0) ∧ s'.data.toList = r := by
  have hz : zig n < 18446744073709551616 := by unfold zig; split <;> omega
  have hs : sgn (zig n) = n := by unfold sgn zig; split <;> split <;> omega
  have hn := num0_back (zig n) r hz s h
  refine ⟨s.extract (encL (zig n)).length s.size, by unfold intR; rw [hn, takeR_ok, hs], ?_⟩
  rw [extract_tail, h, List.drop_append_of_le_length (Nat.le_refl _), List.drop_of_length_le (Nat.le_refl _), List.nil_append]
theorem encB_list (v : Nat) : (encB v).data.toList = encL v := by simp [encB]

set_option maxHeartbeats 1000000 in
set_option maxRecDepth 100000 in
theorem back_fin (v : Nat) (n : Int) (A : Option Addr) (c : Nat) (l : List ByteArray) (m : ByteArray) (w : World) (hv : v < 18446744073709551616) (hn : -9223372036854775808 ≤ n) (hn2 : n ≤ 9223372036854775807)
    (hC : Kd.C Kd.string w A l.length l) (hB : (l.map fun s => s.size + 1).sum ≤ 1048576) (hm : m.size ≤ 1048576) :
    Calls Try.prog 17 #[.agg #[.int .u64 v, .int .i64 n, .slice A l.length c, .string m]] w fun e w' => e = .returned (.bool true) ∧ Below w.heap.size w w' := by
  have hu90 := Try.underlying90
  have hE := encLs_le l _ hB (by decide)
  have hl := len_le_sum l
  have hsl := size_le_sum l
  have HC := Lib.hid hC
  have c1 := Lib.hid (fun W => WUint_calls v W hv)
  have c2 := Lib.hid (fun W => WInt_calls n W hn hn2)
  have c3 := Lib.hid (fun (W : World) (hb : Below w.heap.size w W) => WList_calls A c l W (Kd.C_below hC hb) (by omega))
  obtain ⟨F, hF⟩ : ∃ F : ByteArray, F = ⟨(encLs l).toArray⟩ := ⟨_, rfl⟩
  rw [← hF] at c3
  have hFs : F.size = (encLs l).length := by rw [hF]; rfl
  have hFd : F.data.toList = encLs l := by rw [hF]
  clear hF hC
  have hz : zig n < 18446744073709551616 := by unfold zig; split <;> omega
  have h10 := (encB_le v hv).1
  have h11 := (encB_le (zig n) hz).1
  have d1 := encB_list v
  have d2 := encB_list (zig n)
  obtain ⟨s1, u1, e1⟩ := uint_back v (encB v ++ encB (zig n) ++ F ++ m) (encL (zig n) ++ (encLs l ++ m.data.toList)) (by simp [hFd, d1, d2, List.append_assoc]) hv
  obtain ⟨s2, u2, e2⟩ := int_back n s1 _ e1 hn hn2
  have hR : ∀ (most : Int), MostIs l l.length most 1048576 → ∃ s' : ByteArray, listR s2 0 l.length most = (l, s', 0) ∧ s'.size = m.size := by
    intro most hmo
    obtain ⟨s', e1, e3⟩ := list_back l s2 m.data.toList most e2 (by omega) (fun x hx => ⟨by have := hsl x hx; omega, hmo.all (Nat.le_refl _) x hx⟩)
    exact ⟨s', e1, by rw [size_of_list _ _ e3, ← Lib.size_eq]⟩
  have HR := Lib.hid hR
  have z1 : s1.size ≤ 13000000 := by
    rw [size_of_list _ _ e1, List.length_append, List.length_append, ← Lib.size_eq, ← encB_size]; omega
  have z2 : s2.size ≤ 13000000 := by
    rw [size_of_list _ _ e2, List.length_append, ← Lib.size_eq]; omega
  clear hR hFd e1 e2 d1 d2
  have z0 : (encB v ++ encB (zig n) ++ F ++ m).size ≤ 13000000 := by simp only [ByteArray.size_append]; omega
  have y0 : (encB v ++ encB (zig n)).size ≤ 20 := by simp only [ByteArray.size_append]; omega
  have y1 : (encB v ++ encB (zig n) ++ F).size ≤ 12000000 := by simp only [ByteArray.size_append]; omega
  have yF : F.size ≤ 11600000 := by omega
  clear hFs hE
  generalize encB v = bv at *
  generalize encB (zig n) = bn at *
  generalize hS : bv ++ bn ++ F ++ m = S at *
  have U1 := Lib.hid (fun (g : Nat) (W : World) (h : RdIs W g S 0) => Uint_calls g S 0 W (by unfold maxLen; omega) h)
  rw [u1] at U1
  have U2 := Lib.hid (fun (g : Nat) (W : World) (h : RdIs W g s1 0) => Int_calls g s1 0 W (by unfold maxLen; omega) h)
  rw [u2] at U2
  clear u1 u2
  have HS := Lib.hid hS
  clear hS
  have H0 := Lib.hid (below_alloc (Below.refl w.heap.size w) (.cells #[.int .u64 v, .int .i64 n, .slice A l.length c, .string m] 90))
  go_enter Try.func17, Try.ntmps17
  go_wp2_with fail
  refine (shown_calls _).mono ?_
  rintro e w1 ⟨rfl, hb⟩
  have H1 := Lib.hid (bstep H0.out hb)
  clear hb H0
  go_wp2_with fail
  refine (c1.out _).mono ?_
  rintro e w2 ⟨rfl, hb⟩
  have H2 := Lib.hid (bstep H1.out hb)
  clear hb H1
  go_wp2_with fail
  refine (c2.out _).mono ?_
  rintro e w3 ⟨rfl, hb⟩
  have H3 := Lib.hid (bstep H2.out hb)
  clear hb H2
  go_wp2_with fail
  refine (c3.out _ H3.out).mono ?_
  rintro e w4 ⟨rfl, hb⟩
  have H4 := Lib.hid (bstep H3.out hb)
  clear hb H3
  go_wp2_with fail
  rw [HS.out]
  refine (Read_calls2 _ _).mono ?_
  rintro e w5 ⟨g, rfl, h1, hb, hg⟩
  have H5 := Lib.hid (bstep H4.out hb)
  have HG := Lib.hid (show w.heap.size ≤ g by have := H4.out.size; omega)
  have R1 := Lib.hid h1
  clear hb H4 hg h1
  go_wp2_with fail
  go_loopw [9, 10] (fun mo i W => ∃ (k : Nat) (x : Int), i = .int .i64 k ∧ mo = .int .i64 x ∧ k ≤ l.length ∧ MostIs l k x 1048576 ∧ W = w5) (fun _ i _ => l.length - (intOf i).toNat)
  case atStart => exact ⟨0, 0, rfl, rfl, Nat.zero_le _, MostIs.zero _ _, rfl⟩
  case round =>
    obtain ⟨k, x, rfl, rfl, hk, hM, rfl⟩ := hrel
    have HM := Lib.hid hM
    clear hM
    by_cases hlt : k < l.length
    · have hlt2 : (k : Int) < (l.length : Int) := by omega
      obtain ⟨a1, e1, x1⟩ := Kd.at_string (Kd.C_below HC.out H5.out) (k : Int) (by omega) hlt2
      subst e1
      rw [Int.toNat_natCast] at x1
      have hst := Lib.hid (fun x' h1 h2 h3 => HM.out.step (m' := x') hlt h1 h2 h3)
      have hsz := hsl _ (rd_mem l k hlt)
      generalize rdOf ByteArray.empty l (k : Int) = s at x1 hst hsz
      by_cases hgt : x < (s.size : Int)
      · go_wp2_with fail
        go_roundw
        case rel => exact ⟨k + 1, s.size, by go_num, rfl, by omega, hst.out _ (by omega) (by omega) (by omega), trivial⟩
        case measure => simp [intOf]; omega
      · go_wp2_with fail
        go_roundw
        case rel => exact ⟨k + 1, x, by go_num, rfl, by omega, hst.out _ (by omega) (by omega) HM.out.2.1, trivial⟩
        case measure => simp [intOf]; omega
    · have hke : k = l.length := by omega
      subst hke
      obtain ⟨s3, hl1, hz1⟩ := HR.out x HM.out
      have hx1 := HM.out.1
      have hx2 := HM.out.2.1
      have L1 := Lib.hid (fun (W : World) (h : RdIs W g s2 0) => List_calls g s2 0 l.length x W (by unfold maxLen; omega) (fun _ => by omega) (by omega) (by omega) (by omega) (by omega) h)
      rw [hl1] at L1
      clear hl1 HM HR
      go_wp2_with fail
      refine (U1.out _ _ R1.out).mono ?_
      rintro e w6 ⟨rfl, hr, ho⟩
      have H6 := Lib.hid (ho.toBelow H5.out HG.out H5.out.size)
      have R2 := Lib.hid hr
      clear hr ho H5 R1
      go_wp2_with fail
      refine (U2.out _ _ R2.out).mono ?_
      rintro e w7 ⟨rfl, hr, ho⟩
      have H7 := Lib.hid (ho.toBelow H6.out HG.out H6.out.size)
      have R3 := Lib.hid hr
      clear hr ho H6 R2
      go_wp2_with fail
      refine (L1.out _ R3.out).mono ?_
      rintro e w8 ⟨v1, rfl, hv1, hr, ho⟩
      have H8 := Lib.hid (ho.toBelow H7.out HG.out H7.out.size)
      have R4 := Lib.hid hr
      obtain ⟨A1, cc1, hA1, _, hC1⟩ := Kd.R_reads hv1
      subst hA1
      have S1 := Lib.hid (Same_calls A1 A cc1 c l w8 hC1 (Kd.C_below HC.out H8.out) (by omega))
      clear hv1 hr ho H7 R3 hC1
      go_wp2_with fail
      refine S1.out.mono ?_
      rintro e w9 ⟨rfl, hd⟩
      have H9 := Lib.hid (bstep H8.out hd.below)
      have R5 := Lib.hid (R4.out.below hd.below)
      clear hd H8 R4 S1
      go_wp2_with fail
      refine (Err_calls _ _ _ _ R5.out).mono ?_
      rintro e w10 ⟨rfl, rfl⟩
      go_wp2_with fail
      refine (Left_calls _ _ _ _ R5.out).mono ?_
      rintro e w10 ⟨rfl, rfl⟩
      rw [hz1]
      go_wp2_with fail
      go_ret
      exact ⟨rfl, H9.out⟩
end Go.Proofs.Ytfemjlhfgmbcmaa
