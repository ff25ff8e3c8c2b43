/- The walk of FrameTurned. -/
import Derived.Test.YtfemjlhfgmbcmaaFg
namespace Go.Proofs.Ytfemjlhfgmbcmaa
open Go.RowKit Go.Proofs.YtfemjlhfgmbcmaaW.PrintWords Go.Proofs.YtfemjlhfgmbcmaaW.PrintLast Go.Proofs.YtfemjlhfgmbcmaaW.PrintMore

theorem u8nat {a b : Nat} (h : UInt8.ofNat a = UInt8.ofNat b) : a % 256 = b % 256 := by
  have := congrArg UInt8.toNat h
  rwa [UInt8.toNat_ofNat', UInt8.toNat_ofNat'] at this
theorem fourB_inj (a b : Nat) (ha : a < 4294967296) (hb : b < 4294967296) (h : (fourB a).data.toList = (fourB b).data.toList) : a = b := by
  have h1 : [UInt8.ofNat a, UInt8.ofNat (a / 256), UInt8.ofNat (a / 65536), UInt8.ofNat (a / 16777216)] = [UInt8.ofNat b, UInt8.ofNat (b / 256), UInt8.ofNat (b / 65536), UInt8.ofNat (b / 16777216)] := h
  simp only [List.cons.injEq, and_true] at h1
  obtain ⟨h1, h2, h3, h4⟩ := h1
  have e1 := u8nat h1; have e2 := u8nat h2; have e3 := u8nat h3; have e4 := u8nat h4
  omega
theorem set_ne_list {α : Type} : ∀ (l : List α) (i : Nat) (x : α) (h : i < l.length), l[i] ≠ x → l.set i x ≠ l
  | [], _, _, h, _ => by simp at h
  | a :: l, 0, x, _, h => by intro e; simp at e; exact h e.symm
  | a :: l, i + 1, x, h, hn => by
    intro e
    simp only [List.set_cons_succ, List.cons.injEq, true_and] at e
    exact set_ne_list l i x (by simpa using h) (by simpa using hn) e

/-- One byte of the sum, the kind or the load turned: no frame. -/
theorem turned (k : Nat) (t : ByteArray) (i : Nat) (x : UInt8) (s : ByteArray) (ht : t.size ≤ 65536) (hk : k < 256) (hi : i < (putB k t).size) (hp : i ≤ 4 ∨ (putB k t).size - t.size ≤ i)
    (hne : (putB k t)[i] ≠ x) (hs : s.data.toList = (putB k t).data.toList.set i x) : takeF s = (0, ⟨#[]⟩, 0, 3) := by
  have hps := putB_size k t
  have hpl := putB_list k t
  have hbl := bodyB_list k t
  have hbs := bodyB_size k t
  have h4 : (fourB (sumN (bodyB k t))).data.toList.length = 4 := rfl
  have hnl : (putB k t).data.toList[i]'(by simpa using hi) ≠ x := hne
  by_cases c1 : i < 4
  · -- the sum
    have hF : (((fourB (sumN (bodyB k t))).data.toList).set i x).length = 4 := by simpa using h4
    have e := takeF_at s (((fourB (sumN (bodyB k t))).data.toList).set i x) k t [] hF (by rw [hs, hpl, List.append_nil, List.set_append_left _ _ (by omega)]) ht hk
    rw [e, if_neg]
    intro e2
    refine set_ne_list _ i x (by omega) ?_ e2.symm
    intro e3
    apply hnl
    simp only [hpl]
    rw [List.getElem_append_left (by omega)]
    exact e3
  · have hset : s.data.toList = (fourB (sumN (bodyB k t))).data.toList ++ (bodyB k t).data.toList.set (i - 4) x := by
      rw [hs, hpl, List.set_append_right _ _ (by omega), h4]
    have hnb : (bodyB k t).data.toList[i - 4]'(by rw [← Lib.size_eq]; omega) ≠ x := by
      intro e3
      apply hnl
      simp only [hpl]
      rw [List.getElem_append_right (by omega)]
      exact e3
    have hib : i - 4 < (bodyB k t).size := by omega
    -- what the body becomes
    have key : ∀ (k' : Nat) (t' : ByteArray), k' < 256 → t'.size = t.size → (bodyB k' t').data.toList = (bodyB k t).data.toList.set (i - 4) x → takeF s = (0, ⟨#[]⟩, 0, 3) := by
      intro k' t' hk' ht' hb'
      have e := takeF_at s (fourB (sumN (bodyB k t))).data.toList k' t' [] rfl (by rw [hset, hb', List.append_nil]) (by omega) hk'
      rw [e, if_neg]
      intro e2
      have e3 := fourB_inj _ _ (sumN_lt _) (sumN_lt _) e2
      obtain ⟨p1, p2⟩ := set_split (bodyB k t) (i - 4) hib x
      exact sumN_one _ _ _ _ (bodyB k t) (bodyB k' t') p1 (by rw [hb', p2]) hnb e3.symm
    by_cases c2 : i = 4
    · refine key x.toNat t x.toNat_lt rfl ?_
      rw [bodyB_list, hbl, c2]
      simp
    · -- the load
      obtain ⟨j, hj⟩ : ∃ j, i - 4 = 1 + (encL t.size).length + j := ⟨i - 4 - (1 + (encL t.size).length), by omega⟩
      refine key k ⟨(t.data.toList.set j x).toArray⟩ hk (by show (t.data.toList.set j x).toArray.size = _; simp) ?_
      have hz : (⟨(t.data.toList.set j x).toArray⟩ : ByteArray).size = t.size := by show (t.data.toList.set j x).toArray.size = _; simp
      rw [bodyB_list, hbl, hz, hj, show 1 + (encL t.size).length + j = ((encL t.size).length + j) + 1 by omega, List.set_cons_succ, List.set_append_right _ _ (by omega)]
      simp

set_option maxHeartbeats 2000000 in
set_option maxRecDepth 100000 in
theorem turned_fin (kd pl bi : Int) (t : ByteArray) (w : World) (ht : t.size ≤ maxLen) :
    Calls Try.prog 14 #[.agg #[.int .i64 kd, .string t, .int .i64 pl, .int .i64 bi]] w fun e w' => e = .returned (.bool true) ∧ Below w.heap.size w w' := by
  unfold maxLen at ht
  have hu83 := Try.underlying83
  have H0 := Lib.hid (below_alloc (Below.refl w.heap.size w) (.cells #[.int .i64 kd, .string t, .int .i64 pl, .int .i64 bi] 83))
  by_cases c1 : (65536 : Int) < t.size
  · go_enter Try.func14, Try.ntmps14
    go_wp2_with fail
    refine (shown5_calls _).mono ?_
    rintro e w1 ⟨rfl, hb⟩
    have H1 := Lib.hid (bstep H0.out hb)
    clear hb H0
    go_wp2_with fail
    go_ret
    exact ⟨rfl, H1.out⟩
  by_cases c2 : pl < 0
  · go_enter Try.func14, Try.ntmps14
    go_wp2_with fail
    refine (shown5_calls _).mono ?_
    rintro e w1 ⟨rfl, hb⟩
    have H1 := Lib.hid (bstep H0.out hb)
    clear hb H0
    go_wp2_with fail
    go_ret
    exact ⟨rfl, H1.out⟩
  by_cases c3 : bi < 0
  · go_enter Try.func14, Try.ntmps14
    go_wp2_with fail
    refine (shown5_calls _).mono ?_
    rintro e w1 ⟨rfl, hb⟩
    have H1 := Lib.hid (bstep H0.out hb)
    clear hb H0
    go_wp2_with fail
    go_ret
    exact ⟨rfl, H1.out⟩
  by_cases c4 : 7 < bi
  · go_enter Try.func14, Try.ntmps14
    go_wp2_with fail
    refine (shown5_calls _).mono ?_
    rintro e w1 ⟨rfl, hb⟩
    have H1 := Lib.hid (bstep H0.out hb)
    clear hb H0
    go_wp2_with fail
    go_ret
    exact ⟨rfl, H1.out⟩
  obtain ⟨a, rfl⟩ := Int.eq_ofNat_of_zero_le (show 0 ≤ pl by omega)
  obtain ⟨m, rfl⟩ := Int.eq_ofNat_of_zero_le (show 0 ≤ bi by omega)
  obtain ⟨k, hk⟩ := Int.eq_ofNat_of_zero_le (show 0 ≤ kd % 256 by omega)
  have hk2 : k < 256 := by omega
  have hw8 : IntKind.u8.wrap kd = (k : Int) := by rw [IntKind.wrap_u8]; exact hk
  have C1 := Lib.hid (fun W => Put_calls k t W (by unfold maxLen; omega))
  have hpr : putR k t = (putB k t, 0) := by unfold putR; rw [if_neg (by omega)]
  rw [hpr] at C1
  have hps := putB_size k t
  have hpl := encL_pos t.size
  have hl10 := encL_le10 t.size (by omega)
  have d1 : decide ((65536 : Int) < t.size) = false := by simp; omega
  have d2 : decide ((a : Int) < 0) = false := by simp
  have d3 : decide ((m : Int) < 0) = false := by simp
  have d4 : decide ((7 : Int) < m) = false := by simp; omega
  have d5 : decide (((putB k t).size : Int) < 6 + (t.size : Int)) = false := by simp; omega
  by_cases c5 : (putB k t).size ≤ a
  · generalize putB k t = P at *
    clear hpr hk
    have d6 : ((P.size : Int) ≤ (a : Int)) := by omega
    go_enter Try.func14, Try.ntmps14
    go_wp2_with fail
    refine (shown5_calls _).mono ?_
    rintro e w1 ⟨rfl, hb⟩
    have H1 := Lib.hid (bstep H0.out hb)
    clear hb H0
    go_wp2_with fail
    refine (C1.out _).mono ?_
    rintro e w2 ⟨rfl, hb⟩
    have H2 := Lib.hid (bstep H1.out hb)
    clear hb H1
    go_wp2_with fail
    go_ret
    exact ⟨rfl, H2.out⟩
  have d6 : decide ((putB k t).size ≤ a) = false := by simp; omega
  by_cases c6 : 4 < a ∧ a < (putB k t).size - t.size
  · generalize putB k t = P at *
    clear hpr hk
    have d7 : (4 : Int) < a := by omega
    have d8 : (a : Int) < (P.size : Int) - (t.size : Int) := by omega
    go_enter Try.func14, Try.ntmps14
    go_wp2_with fail
    refine (shown5_calls _).mono ?_
    rintro e w1 ⟨rfl, hb⟩
    have H1 := Lib.hid (bstep H0.out hb)
    clear hb H0
    go_wp2_with fail
    refine (C1.out _).mono ?_
    rintro e w2 ⟨rfl, hb⟩
    have H2 := Lib.hid (bstep H1.out hb)
    clear hb H1
    go_wp2_with fail
    go_ret
    exact ⟨rfl, H2.out⟩
  have ha : a < (putB k t).size := by omega
  obtain ⟨x, hx⟩ : ∃ x, x = 2 ^ m := ⟨_, rfl⟩
  have hx2 : x < 256 := by rw [hx]; exact Nat.lt_of_le_of_lt (Nat.pow_le_pow_right (by decide) (show m ≤ 7 by omega)) (by decide)
  have hx0 : x ≠ 0 := by have := Nat.two_pow_pos m; omega
  have hsh : (2 : Int) ^ m % 256 = (x : Int) := by
    have : (2 : Int) ^ m = (x : Int) := by rw [hx, Int.natCast_pow]; rfl
    rw [this]; omega
  have hu8 := turn_nat (putB k t)[a] x hx2
  have hne := turn_ne (putB k t)[a] x hx2 hx0
  generalize UInt8.ofNat ((putB k t)[a].toNat ^^^ x) = nb at hu8 hne
  have htk := turned k t a nb ⟨((putB k t).data.toList.set a nb).toArray⟩ (by omega) hk2 ha (by omega) hne (by simp)
  have D2 := Lib.hid (fun W => Take_calls ⟨((putB k t).data.toList.set a nb).toArray⟩ W (by unfold maxLen; show ((putB k t).data.toList.set a nb).toArray.size ≤ _; simp; have : (putB k t).data.size = (putB k t).size := rfl; omega))
  rw [htk] at D2
  have hcv := fun W => print_bytes (P := Try.prog) 9 84 5 Try.underlying9 Try.underlying84 Try.underlying5 (putB k t) W
  have hl : ((putB k t).data.toList.set a nb).length = (putB k t).size := by simp
  have hlt : a < (putB k t).data.toList.length := by simpa using ha
  have hq0 : ((putB k t).size : Int) ≤ 70000 := by omega
  have hq1 : (t.size : Int) ≤ ((putB k t).size : Int) := by omega
  have d7 : (4 : Int) < a → decide ((a : Int) < ((putB k t).size : Int) - (t.size : Int)) = false := fun h => by simp; omega
  generalize putB k t = P at *
  clear hpr hk htk hne hx hx0 hps hpl hl10
  have hs2 := Lib.hid (fun (W : World) => ((BytesAt.new W P).set a nb).string P.size (grownCap W P.size 0 5) hl)
  have HC := Lib.hid (fun (W : World) => (BytesAt.new W P).cell a hlt)
  have HF := Lib.hid (fun (W : World) => (BytesAt.new W P).frozen a hlt)
  have e4 : (a : Int) < P.size := by omega
  have hb1 := Lib.hid (fun (W : World) (h : Below w.heap.size w W) => below_set (g := W.heap.size) (j := a) (v := .int .u8 (nb.toNat : Int)) (bytes_below h h.size 5 P) h.size)
  by_cases c7 : (4 : Int) < a
  · have d8 := d7 c7
    clear d7
    go_enter Try.func14, Try.ntmps14
    go_wp2_with fail
    refine (shown5_calls _).mono ?_
    rintro e w1 ⟨rfl, hb⟩
    have H1 := Lib.hid (bstep H0.out hb)
    clear hb H0
    go_wp2_with fail
    refine (C1.out _).mono ?_
    rintro e w2 ⟨rfl, hb⟩
    have H2 := Lib.hid (bstep H1.out hb)
    have k0 := HC.out w2
    have k1 := HF.out w2
    have k2 := hs2.out w2
    change _ = some (Value.int .u8 ((P[a].toNat : Nat) : Int)) at k0
    clear hb H1
    have H3 := Lib.hid (hb1.out w2 H2.out)
    clear H2
    go_wp2_with fail
    refine (D2.out _).mono ?_
    rintro e w3 ⟨rfl, hb⟩
    have H4 := Lib.hid (bstep H3.out hb)
    clear hb H3
    go_wp2_with fail
    go_ret
    exact ⟨rfl, H4.out⟩
  · clear d7
    have d9 : decide ((4 : Int) < a) = false := by simp; omega
    have d10 : decide (4 < a) = false := by simp; omega
    go_enter Try.func14, Try.ntmps14
    go_wp2_with fail
    refine (shown5_calls _).mono ?_
    rintro e w1 ⟨rfl, hb⟩
    have H1 := Lib.hid (bstep H0.out hb)
    clear hb H0
    go_wp2_with fail
    refine (C1.out _).mono ?_
    rintro e w2 ⟨rfl, hb⟩
    have H2 := Lib.hid (bstep H1.out hb)
    have k0 := HC.out w2
    have k1 := HF.out w2
    have k2 := hs2.out w2
    change _ = some (Value.int .u8 ((P[a].toNat : Nat) : Int)) at k0
    clear hb H1
    have H3 := Lib.hid (hb1.out w2 H2.out)
    clear H2
    go_wp2_with fail
    refine (D2.out _).mono ?_
    rintro e w3 ⟨rfl, hb⟩
    have H4 := Lib.hid (bstep H3.out hb)
    clear hb H3
    go_wp2_with fail
    go_ret
    exact ⟨rfl, H4.out⟩
end Go.Proofs.Ytfemjlhfgmbcmaa
