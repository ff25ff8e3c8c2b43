/- The walks of a frame's making. -/
import Derived.Test.YtfemjlhfgmbcmaaFb
import Derived.Deep.RegionHeld3
namespace Go.Proofs.Ytfemjlhfgmbcmaa
open Go.RowKit Go.Proofs.YtfemjlhfgmbcmaaW.PrintWords Go.Proofs.YtfemjlhfgmbcmaaW.PrintLast Go.Proofs.YtfemjlhfgmbcmaaW.PrintMore

def fourB (v : Nat) : ByteArray := ⟨#[UInt8.ofNat v, UInt8.ofNat (v / 256), UInt8.ofNat (v / 65536), UInt8.ofNat (v / 16777216)]⟩
theorem fourB_size (v : Nat) : (fourB v).size = 4 := rfl

theorem conv4 (w : World) (a b c d : Int) : (convert 84 9 (.slice (some ⟨w.heap.size, 0, none⟩) 4 4)).run Try.prog (w.alloc (.cells #[.int .u8 a, .int .u8 b, .int .u8 c, .int .u8 d] 5)) = .ok (.string (strOfNums [a, b, c, d])) (w.alloc (.cells #[.int .u8 a, .int .u8 b, .int .u8 c, .int .u8 d] 5)) := by
  refine run_convert_bytes_arg (P := Try.prog) _ 84 5 Try.underlying84 Try.underlying5 _ 0 4 4 [a, b, c, d] rfl (fun i hi => ?_) 9 Try.underlying9
  obtain ⟨W, hW⟩ : ∃ W, W = w.alloc (.cells #[.int .u8 a, .int .u8 b, .int .u8 c, .int .u8 d] 5) := ⟨_, rfl⟩
  have hx : W.heap[w.heap.size]? = some (.cells #[.int .u8 a, .int .u8 b, .int .u8 c, .int .u8 d] 5 (0, 0)) := by rw [hW]; exact heap_alloc_new w _
  rw [← hW]
  match i, hi with
  | 0, _ => simp [World.cell?, hx]
  | 1, _ => simp [World.cell?, hx]
  | 2, _ => simp [World.cell?, hx]
  | 3, _ => simp [World.cell?, hx]
theorem conv1_b {w w' : World} {a : Int} (hb : Below (w.alloc (.cells #[.int .u8 a] 5)).heap.size (w.alloc (.cells #[.int .u8 a] 5)) w') : (convert 84 9 (.slice (some ⟨w.heap.size, 0, none⟩) 1 1)).run Try.prog w' = .ok (.string (strOfNums [a])) w' := by
  refine run_convert_bytes_arg (P := Try.prog) _ 84 5 Try.underlying84 Try.underlying5 _ 0 1 1 [a] rfl (fun i hi => ?_) 9 Try.underlying9
  have hn := heap_alloc_new w (.cells #[.int .u8 a] 5)
  have hx := (hb.block w.heap.size (by simp)).trans hn
  match i, hi with
  | 0, _ => simp [World.cell?, hx]
theorem conv1_d (w : World) (a : Int) : (convert 84 9 (.slice (some ⟨w.heap.size, 0, none⟩) 1 1)).run Try.prog (w.alloc (.cells #[.int .u8 a] 5)).drew = .ok (.string (strOfNums [a])) (w.alloc (.cells #[.int .u8 a] 5)).drew := conv1_b (w := w) (a := a) (below_drew1 (Below.refl _ _))
theorem conv1 (w : World) (a : Int) : (convert 84 9 (.slice (some ⟨w.heap.size, 0, none⟩) 1 1)).run Try.prog (w.alloc (.cells #[.int .u8 a] 5)) = .ok (.string (strOfNums [a])) (w.alloc (.cells #[.int .u8 a] 5)) := conv1_b (w := w) (a := a) (Below.refl _ _)
theorem u8_ext {a b : Nat} (h : a % 256 = b % 256) : UInt8.ofNat a = UInt8.ofNat b := by
  apply UInt8.toNat_inj.1; rw [UInt8.toNat_ofNat', UInt8.toNat_ofNat']; exact h
theorem four_str (v : Nat) : strOfNums [(v : Int) % 256, (v : Int) / 256 % 256, (v : Int) / 65536 % 256, (v : Int) / 16777216] = fourB v := by
  unfold strOfNums fourB
  simp only [List.map_cons, List.map_nil]
  rw [u8_ext (a := ((v : Int) % 256).toNat) (b := v) (by omega), u8_ext (a := ((v : Int) / 256 % 256).toNat) (b := v / 256) (by omega),
    u8_ext (a := ((v : Int) / 65536 % 256).toNat) (b := v / 65536) (by omega), u8_ext (a := ((v : Int) / 16777216).toNat) (b := v / 16777216) (by omega)]

set_option maxRecDepth 100000 in
theorem four_calls (v : Nat) (w : World) (hv : v < 4294967296) :
    Calls Try.prog 98 #[.int .u32 v] w fun e w' => e = .returned (.string (fourB v)) ∧ Below w.heap.size w w' := by
  have hc := conv4 w ((v : Int) % 256) ((v : Int) / 256 % 256) ((v : Int) / 65536 % 256) ((v : Int) / 16777216)
  rw [four_str] at hc
  go_enter Try.func98, Try.ntmps98
  go_wp2_with fail
  go_ret
  exact ⟨rfl, below_alloc (Below.refl _ _) _⟩

set_option maxRecDepth 100000 in
theorem refFour_calls (v : Nat) (w : World) (hv : v < 4294967296) :
    Calls Try.prog 99 #[.int .u32 v] w fun e w' => e = .returned (.string (fourB v)) ∧ Below w.heap.size w w' := by
  have hc := conv4 w ((v : Int) % 256) ((v : Int) / 256 % 256) ((v : Int) / 65536 % 256) ((v : Int) / 16777216)
  rw [four_str] at hc
  go_enter Try.func99, Try.ntmps99
  go_wp2_with fail
  go_ret
  exact ⟨rfl, below_alloc (Below.refl _ _) _⟩

theorem refSum_b (s : ByteArray) (w : World) (hs : s.size ≤ maxLen) : Calls Try.prog 64 #[.string s] w fun e w' => e = .returned (.int .u32 (sumN s)) ∧ Below w.heap.size w w' :=
  (refSum_calls s w hs).mono fun _ _ h => ⟨h.1, by rw [← h.2]; exact Below.refl _ _⟩

/-- A frame's bytes behind its sum. -/
def bodyB (k : Nat) (t : ByteArray) : ByteArray := ⟨#[UInt8.ofNat k]⟩ ++ (encB t.size ++ t)
def putB (k : Nat) (t : ByteArray) : ByteArray := fourB (sumN (bodyB k t)) ++ bodyB k t
def putR (k : Nat) (t : ByteArray) : ByteArray × Nat := if 65536 < t.size then (⟨#[]⟩, 13) else (putB k t, 0)

set_option maxRecDepth 100000 in
theorem Put_calls (k : Nat) (t : ByteArray) (w : World) (ht : t.size ≤ maxLen) :
    Calls Try.prog 61 #[.int .u8 k, .string t] w fun e w' => e = .returned (.tuple #[.string (putR k t).1, .int .i64 (putR k t).2]) ∧ Below w.heap.size w w' := by
  unfold maxLen at ht
  by_cases h : 65536 < t.size
  · rw [putR, if_pos h]
    have h2 : (65536 : Int) < (t.size : Int) := by omega
    have H0 := Lib.hid (Below.refl w.heap.size w)
    go_enter Try.func61, Try.ntmps61
    go_wp2_with fail
    go_ret2
    exact ⟨rfl, H0.out⟩
  · rw [putR, if_neg h]
    have h2 : ¬ (65536 : Int) < (t.size : Int) := by omega
    obtain ⟨X, hX⟩ : ∃ X, X = strOfNums [(k : Int)] := ⟨_, rfl⟩
    obtain ⟨Y, hY⟩ : ∃ Y, Y = encB t.size ++ t := ⟨_, rfl⟩
    have hXs : X.size = 1 := by rw [hX]; rfl
    have h10 := (encB_le t.size (by omega)).1
    have hYs : Y.size ≤ 65546 := by rw [hY, ByteArray.size_append]; omega
    have hXY : X ++ Y = bodyB k t := by rw [hX, hY]; rfl
    have q1 := Lib.hid (fun W => conv1 W (k : Int))
    have q2 := Lib.hid (fun W => conv1_d W (k : Int))
    have q3 := Lib.hid (fun (W W' : World) (hb : Below (W.alloc (.cells #[.int .u8 (k : Int)] 5)).heap.size (W.alloc (.cells #[.int .u8 (k : Int)] 5)) W') => conv1_b hb)
    have q4 := Lib.hid (fun (W W' : World) (hb : Below (W.alloc (.cells #[.int .u8 (k : Int)] 5)).drew.heap.size (W.alloc (.cells #[.int .u8 (k : Int)] 5)).drew W') => conv1_b ((below_drew1 (Below.refl _ _)).trans hb))
    have C1 := Lib.hid (fun W => WText_calls t W (by omega))
    rw [← hX] at q1 q2 q3 q4
    rw [← hY] at C1
    have hpe : putB k t = fourB (sumN (bodyB k t)) ++ bodyB k t := rfl
    rw [hpe]
    obtain ⟨B, hB⟩ : ∃ B, B = bodyB k t := ⟨_, rfl⟩
    rw [← hB] at hXY ⊢
    have hBs : B.size ≤ 65547 := by rw [← hXY, ByteArray.size_append]; omega
    clear hX hY hpe hB
    have C2 := Lib.hid (fun W => Sum_calls B W (by unfold maxLen; omega))
    have C3 := Lib.hid (fun W => four_calls (sumN B) W (sumN_lt _))
    have hFs := fourB_size (sumN B)
    generalize fourB (sumN B) = F at C3 hFs ⊢
    have hq2 := q2.out w
    have H0 := Lib.hid (Below.refl w.heap.size w)
    have H1 := Lib.hid (below_alloc (Below.refl w.heap.size w) (.cells #[.int .u8 (k : Int)] 5))
    have H2 := Lib.hid (below_drew1 H0.out)
    have H3 := Lib.hid (below_drew1 H1.out)
    go_enter Try.func61, Try.ntmps61
    go_wp2_with fail
    go_region_with (go_at_call 28; refine (C1.out _).mono ?_; rintro e w' ⟨rfl, hb⟩; have hq1 := q1.out w'; have hq2 := q2.out w'; (first | (have hq3 := q3.out _ _ hb) | (have hq4 := q4.out _ _ hb) | skip); (first | (have HZ := Lib.hid (bstep H0.out hb)) | (have HZ := Lib.hid (bstep H1.out hb)) | (have HZ := Lib.hid (bstep H2.out hb)) | (have HZ := Lib.hid (bstep H3.out hb))))
    all_goals
      go_wp2_with fail
      refine (C2.out _).mono ?_
      rintro e w2 ⟨rfl, hb2⟩
      first
        | (have HY := Lib.hid (bstep HZ.out hb2))
        | (have HY := Lib.hid (bstep (below_alloc HZ.out _) hb2))
        | (have HY := Lib.hid (bstep (below_drew1 (below_alloc HZ.out _)) hb2))
      clear hb hb2 HZ
      go_wp2_with fail
      refine (C3.out _).mono ?_
      rintro e w3 ⟨rfl, hb2⟩
      have HX := Lib.hid (bstep HY.out hb2)
      clear hb2 HY
      go_wp2_with fail
      go_ret2
      exact ⟨rfl, HX.out⟩
set_option maxRecDepth 100000 in
theorem refPut_calls (k : Nat) (t : ByteArray) (w : World) (ht : t.size ≤ maxLen) :
    Calls Try.prog 62 #[.int .u8 k, .string t] w fun e w' => e = .returned (.tuple #[.string (putR k t).1, .int .i64 (putR k t).2]) ∧ Below w.heap.size w w' := by
  unfold maxLen at ht
  by_cases h : 65536 < t.size
  · rw [putR, if_pos h]
    have h2 : (65536 : Int) < (t.size : Int) := by omega
    have H0 := Lib.hid (Below.refl w.heap.size w)
    go_enter Try.func62, Try.ntmps62
    go_wp2_with fail
    go_ret2
    exact ⟨rfl, H0.out⟩
  · rw [putR, if_neg h]
    have h2 : ¬ (65536 : Int) < (t.size : Int) := by omega
    obtain ⟨X, hX⟩ : ∃ X, X = strOfNums [(k : Int)] := ⟨_, rfl⟩
    obtain ⟨Y, hY⟩ : ∃ Y, Y = encB t.size ++ t := ⟨_, rfl⟩
    have hXs : X.size = 1 := by rw [hX]; rfl
    have h10 := (encB_le t.size (by omega)).1
    have hYs : Y.size ≤ 65546 := by rw [hY, ByteArray.size_append]; omega
    have hXY : X ++ Y = bodyB k t := by rw [hX, hY]; rfl
    have q1 := Lib.hid (fun W => conv1 W (k : Int))
    have q2 := Lib.hid (fun W => conv1_d W (k : Int))
    have q3 := Lib.hid (fun (W W' : World) (hb : Below (W.alloc (.cells #[.int .u8 (k : Int)] 5)).heap.size (W.alloc (.cells #[.int .u8 (k : Int)] 5)) W') => conv1_b hb)
    have q4 := Lib.hid (fun (W W' : World) (hb : Below (W.alloc (.cells #[.int .u8 (k : Int)] 5)).drew.heap.size (W.alloc (.cells #[.int .u8 (k : Int)] 5)).drew W') => conv1_b ((below_drew1 (Below.refl _ _)).trans hb))
    have C1 := Lib.hid (fun W => RText_calls t W (by omega))
    rw [← hX] at q1 q2 q3 q4
    rw [← hY] at C1
    have hpe : putB k t = fourB (sumN (bodyB k t)) ++ bodyB k t := rfl
    rw [hpe]
    obtain ⟨B, hB⟩ : ∃ B, B = bodyB k t := ⟨_, rfl⟩
    rw [← hB] at hXY ⊢
    have hBs : B.size ≤ 65547 := by rw [← hXY, ByteArray.size_append]; omega
    clear hX hY hpe hB
    have C2 := Lib.hid (fun W => refSum_b B W (by unfold maxLen; omega))
    have C3 := Lib.hid (fun W => refFour_calls (sumN B) W (sumN_lt _))
    have hFs := fourB_size (sumN B)
    generalize fourB (sumN B) = F at C3 hFs ⊢
    have hq2 := q2.out w
    have H0 := Lib.hid (Below.refl w.heap.size w)
    have H1 := Lib.hid (below_alloc (Below.refl w.heap.size w) (.cells #[.int .u8 (k : Int)] 5))
    have H2 := Lib.hid (below_drew1 H0.out)
    have H3 := Lib.hid (below_drew1 H1.out)
    go_enter Try.func62, Try.ntmps62
    go_wp2_with fail
    go_region_with (go_at_call 46; refine (C1.out _).mono ?_; rintro e w' ⟨rfl, hb⟩; have hq1 := q1.out w'; have hq2 := q2.out w'; (first | (have hq3 := q3.out _ _ hb) | (have hq4 := q4.out _ _ hb) | skip); (first | (have HZ := Lib.hid (bstep H0.out hb)) | (have HZ := Lib.hid (bstep H1.out hb)) | (have HZ := Lib.hid (bstep H2.out hb)) | (have HZ := Lib.hid (bstep H3.out hb))))
    all_goals
      go_wp2_with fail
      refine (C2.out _).mono ?_
      rintro e w2 ⟨rfl, hb2⟩
      first
        | (have HY := Lib.hid (bstep HZ.out hb2))
        | (have HY := Lib.hid (bstep (below_alloc HZ.out _) hb2))
        | (have HY := Lib.hid (bstep (below_drew1 (below_alloc HZ.out _)) hb2))
      clear hb hb2 HZ
      go_wp2_with fail
      refine (C3.out _).mono ?_
      rintro e w3 ⟨rfl, hb2⟩
      have HX := Lib.hid (bstep HY.out hb2)
      clear hb2 HY
      go_wp2_with fail
      go_ret2
      exact ⟨rfl, HX.out⟩
end Go.Proofs.Ytfemjlhfgmbcmaa
