/- The walk of WireSplits. -/
import Derived.Test.YtfemjlhfgmbcmaaOa
namespace Go.Proofs.Ytfemjlhfgmbcmaa
open Go.RowKit Go.Proofs.YtfemjlhfgmbcmaaW.PrintWords Go.Proofs.YtfemjlhfgmbcmaaW.PrintLast Go.Proofs.YtfemjlhfgmbcmaaW.PrintMore

/-- `m` is at least as great as each text of the first `k`, and no more than n. -/
def MostIs (l : List ByteArray) (k : Nat) (m : Int) (n : Nat) : Prop := 0 ≤ m ∧ m ≤ n ∧ ∀ t ∈ l.take k, (t.size : Int) ≤ m
theorem MostIs.zero (l : List ByteArray) (n : Nat) : MostIs l 0 0 n := ⟨Int.le_refl _, by omega, by simp⟩
theorem MostIs.all {l : List ByteArray} {k : Nat} {m : Int} {n : Nat} (h : MostIs l k m n) (hk : l.length ≤ k) : ∀ t ∈ l, (t.size : Int) ≤ m := by
  have := h.2.2; rwa [List.take_of_length_le hk] at this
theorem MostIs.step {l : List ByteArray} {k : Nat} {m m' : Int} {n : Nat} (h : MostIs l k m n) (hk : k < l.length) (h1 : m ≤ m') (h2 : ((rdOf ByteArray.empty l (k : Int)).size : Int) ≤ m') (h3 : m' ≤ n) : MostIs l (k + 1) m' n := by
  refine ⟨by have := h.1; omega, h3, fun t ht => ?_⟩
  rw [List.take_succ_eq_append_getElem hk] at ht
  rcases List.mem_append.1 ht with ht | ht
  · have := h.2.2 t ht; omega
  · obtain rfl := List.mem_singleton.1 ht
    have e : rdOf ByteArray.empty l (k : Int) = l[k] := by
      show l.getD (k : Int).toNat ByteArray.empty = _
      rw [Int.toNat_natCast]; simp [List.getD, hk]
    rw [e] at h2; exact h2
theorem rd_mem (l : List ByteArray) (k : Nat) (hk : k < l.length) : rdOf ByteArray.empty l (k : Int) ∈ l := by
  have e : rdOf ByteArray.empty l (k : Int) = l[k] := by
    show l.getD (k : Int).toNat ByteArray.empty = _
    rw [Int.toNat_natCast]; simp [List.getD, hk]
  rw [e]; exact List.getElem_mem hk

set_option maxHeartbeats 1000000 in
set_option maxRecDepth 100000 in
theorem splits_fin (A : Option Addr) (c : Nat) (l : List ByteArray) (m g : ByteArray) (w : World) (hC : Kd.C Kd.string w A l.length l) (hB : (l.map fun s => s.size + 1).sum ≤ 1048576) (hm : m.size ≤ 1048576) (hg : g.size ≤ 1048576) :
    Calls Try.prog 8 #[.slice A l.length c, .string m, .string g] w fun e w' => e = .returned (.bool true) ∧ Below w.heap.size w w' := by
  have hE := encLs_le l _ hB (by decide)
  have hl := len_le_sum l
  have hsl := size_le_sum l
  have H0 := Lib.hid (Below.refl w.heap.size w)
  have HC := Lib.hid hC
  have c1 := Lib.hid (fun (W : World) (hb : Below w.heap.size w W) => RList_calls A c l W (Kd.C_below hC hb) (by omega))
  obtain ⟨F, hF⟩ : ∃ F : ByteArray, F = ⟨(encLs l).toArray⟩ := ⟨_, rfl⟩
  rw [← hF] at c1
  have hFs : F.size = (encLs l).length := by rw [hF]; rfl
  have hFd : F.data.toList = encLs l := by rw [hF]
  clear hF hC
  -- what List gives
  have hR : ∀ (t : ByteArray) (most : Int), MostIs l l.length most 1048576 → ∃ s' : ByteArray, listR (F ++ t) 0 l.length most = (l, s', 0) ∧ s'.size = t.size := by
    intro t most hmo
    obtain ⟨s', e1, e2⟩ := list_back l (F ++ t) t.data.toList most (by simp [hFd]) (by omega) (fun x hx => ⟨by have := hsl x hx; omega, hmo.all (Nat.le_refl _) x hx⟩)
    exact ⟨s', e1, by rw [size_of_list _ _ e2, ← Lib.size_eq]⟩
  have HR := Lib.hid hR
  clear hR hFd
  have hF1 : F.size ≤ 11534346 := by omega
  clear hFs hE
  have hS1 : (F ++ m).size ≤ 12582922 := by rw [ByteArray.size_append]; omega
  have hS2 : (F ++ g).size ≤ 12582922 := by rw [ByteArray.size_append]; omega
  go_enter Try.func8, Try.ntmps8
  go_wp2_with fail
  refine (shown_calls _).mono ?_
  rintro e w1 ⟨rfl, hb⟩
  have H1 := Lib.hid (bstep H0.out hb)
  clear hb H0
  go_wp2_with fail
  refine (c1.out _ H1.out).mono ?_
  rintro e w2 ⟨rfl, hb⟩
  have H2 := Lib.hid (bstep H1.out hb)
  clear hb H1
  go_wp2_with fail
  refine (Read_calls2 _ _).mono ?_
  rintro e w3 ⟨g1, rfl, h1, hb, hg1⟩
  have H3 := Lib.hid (bstep H2.out hb)
  have HG1 := Lib.hid (show w.heap.size ≤ g1 by have := H2.out.size; omega)
  have R1 := Lib.hid h1
  clear hb H2 hg1 h1
  go_wp2_with fail
  refine (Read_calls2 _ _).mono ?_
  rintro e w4 ⟨g2, rfl, h2, hb, hg2⟩
  have H4 := Lib.hid (bstep H3.out hb)
  have HG2 := Lib.hid (show w.heap.size ≤ g2 by have := H3.out.size; omega)
  have HN := Lib.hid (show g1 ≠ g2 by have := R1.out.lt; omega)
  have R1b := Lib.hid (R1.out.below hb)
  have R2 := Lib.hid h2
  clear hb H3 hg2 h2 R1
  go_wp2_with fail
  go_loopw [11, 12] (fun mo i W => ∃ (k : Nat) (x : Int), i = .int .i64 k ∧ mo = .int .i64 x ∧ k ≤ l.length ∧ MostIs l k x 1048576 ∧ W = w4) (fun _ i _ => l.length - (intOf i).toNat)
  case atStart => exact ⟨0, 0, rfl, rfl, Nat.zero_le _, MostIs.zero _ _, rfl⟩
  case round =>
    obtain ⟨k, x, rfl, rfl, hk, hM, rfl⟩ := hrel
    have HM := Lib.hid hM
    clear hM
    by_cases hlt : k < l.length
    · have hlt2 : (k : Int) < (l.length : Int) := by omega
      obtain ⟨a1, e1, x1⟩ := Kd.at_string (Kd.C_below HC.out H4.out) (k : Int) (by omega) hlt2
      subst e1
      rw [Int.toNat_natCast] at x1
      have hst := Lib.hid (fun x' h1 h2 h3 => HM.out.step (m' := x') hlt h1 h2 h3)
      have hsz := hsl _ (rd_mem l k hlt)
      generalize rdOf ByteArray.empty l (k : Int) = s at x1 hst hsz
      by_cases hgt : x < (s.size : Int)
      · go_wp2_with fail
        go_roundw
        case rel => exact ⟨k + 1, s.size, by go_num, rfl, by omega, hst.out _ (by omega) (by omega) (by omega), trivial⟩
        case measure => simp [intOf]; omega
      · go_wp2_with fail
        go_roundw
        case rel => exact ⟨k + 1, x, by go_num, rfl, by omega, hst.out _ (by omega) (by omega) HM.out.2.1, trivial⟩
        case measure => simp [intOf]; omega
    · have hke : k = l.length := by omega
      subst hke
      obtain ⟨s1, hl1, hz1⟩ := HR.out m x HM.out
      obtain ⟨s2, hl2, hz2⟩ := HR.out g x HM.out
      have hx1 := HM.out.1
      have hx2 := HM.out.2.1
      have L1 := Lib.hid (fun (W : World) (h : RdIs W g1 (F ++ m) 0) => List_calls g1 (F ++ m) 0 l.length x W (by unfold maxLen; omega) (fun _ => by omega) (by omega) (by omega) (by omega) (by omega) h)
      have L2 := Lib.hid (fun (W : World) (h : RdIs W g2 (F ++ g) 0) => List_calls g2 (F ++ g) 0 l.length x W (by unfold maxLen; omega) (fun _ => by omega) (by omega) (by omega) (by omega) (by omega) h)
      rw [hl1] at L1
      rw [hl2] at L2
      clear hl1 hl2 HM HR
      go_wp2_with fail
      refine (L1.out _ R1b.out).mono ?_
      rintro e w5 ⟨v1, rfl, hv1, hr1, ho⟩
      have H5 := Lib.hid (ho.toBelow H4.out HG1.out H4.out.size)
      have V1 := Lib.hid hv1
      have R1 := Lib.hid hr1
      have R2b := Lib.hid (R2.out.only ho HN.out.symm)
      obtain ⟨A1, cc1, hA1, _, _⟩ := Kd.R_reads V1.out
      subst hA1
      clear hv1 hr1 ho H4 R1b R2
      go_wp2_with fail
      refine (L2.out _ R2b.out).mono ?_
      rintro e w6 ⟨v2, rfl, hv2, hr2, ho⟩
      have H6 := Lib.hid (ho.toBelow H5.out HG2.out H5.out.size)
      have hC1 : Kd.C Kd.string w6 A1 l.length l := by
        obtain ⟨A', c', e', _, hc'⟩ := Kd.R_reads (Kd.R_step (Kd.R_types V1.out R2b.out (by decide)) (fun k hk hk2 => ho.block k hk2 hk.2))
        cases e'
        exact hc'
      obtain ⟨A2, cc2, hA2, _, hC2⟩ := Kd.R_reads hv2
      subst hA2
      have S1 := Lib.hid (Same_calls A1 A2 cc1 cc2 l w6 hC1 hC2 (by omega))
      have R1b := Lib.hid (R1.out.only ho HN.out)
      have R2 := Lib.hid hr2
      clear hv2 hr2 ho H5 R1 R2b V1 hC1 hC2
      go_wp2_with fail
      refine S1.out.mono ?_
      rintro e w7 ⟨rfl, hd⟩
      have H7 := Lib.hid (bstep H6.out hd.below)
      have R1 := Lib.hid (R1b.out.below hd.below)
      have R2b := Lib.hid (R2.out.below hd.below)
      clear hd H6 R1b R2 S1
      go_wp2_with fail
      refine (Left_calls _ _ _ _ R1.out).mono ?_
      rintro e w8 ⟨rfl, rfl⟩
      rw [hz1]
      go_wp2_with fail
      refine (Left_calls _ _ _ _ R2b.out).mono ?_
      rintro e w8 ⟨rfl, rfl⟩
      rw [hz2]
      go_wp2_with fail
      go_ret
      exact ⟨rfl, H7.out⟩
end Go.Proofs.Ytfemjlhfgmbcmaa
