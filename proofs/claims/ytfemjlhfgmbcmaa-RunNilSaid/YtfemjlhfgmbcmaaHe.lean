/- The contracts of wire.Uint, Int, Text as total functions of bytes. Laid by gen_he.py; the walk of Uint is the print's. -/
import Derived.Test.YtfemjlhfgmbcmaaProg
import Derived.Below
import Derived.Deep.Draws
import Derived.Deep.AppendLies
import Derived.Maps.AppendAt
import Derived.OwnWalk
import Derived.Laws.BytesArg
import Derived.Laws.MakeOwn
import Derived.Laws.OwnMore
import Derived.Deep.OwnRows
import Derived.Tactics
import Derived.Lib.ConvBytes
import Derived.Laws.Slices
import Derived.WalkKit
import Derived.KernelRfl
import Derived.RowKit3
import Derived.Deep.LoopGhost
import Derived.Deep.QuietTactic
import Derived.BigQuiet
import Derived.WideLaws
import Derived.Deep.DeepCutAuto
import Derived.Deep.CutBlock
import Derived.Deep.RegionHeld3
import Derived.Laws.Rows
import Derived.Lib.AppendStr
import Derived.ArgAppend
import Derived.Laws.IdiomCopy
import Derived.OrdersHeld
import Derived.Laws.BitsLemmas
import Derived.RowKit
import Derived.Test.YtfemjlhfgmbcmaaWWords
import Derived.Test.YtfemjlhfgmbcmaaWLast
import Derived.Test.YtfemjlhfgmbcmaaWTab
import Derived.Test.YtfemjlhfgmbcmaaWFour
import Derived.Test.YtfemjlhfgmbcmaaWQPut
import Derived.Test.YtfemjlhfgmbcmaaWApart
import Derived.Test.YtfemjlhfgmbcmaaWArr
import Derived.Test.YtfemjlhfgmbcmaaWZeros
import Derived.Test.YtfemjlhfgmbcmaaWFoot
import Derived.Test.YtfemjlhfgmbcmaaWKept
import Derived.Test.YtfemjlhfgmbcmaaWShare
import Derived.Test.YtfemjlhfgmbcmaaWN
import Derived.Test.YtfemjlhfgmbcmaaWFootNe
import Derived.Test.YtfemjlhfgmbcmaaWAt
import Derived.Test.YtfemjlhfgmbcmaaWEqStruct
import Derived.Test.YtfemjlhfgmbcmaaWRepsOne
import Derived.Test.YtfemjlhfgmbcmaaWInv
import Derived.Test.YtfemjlhfgmbcmaaWInvWords
import Derived.Test.YtfemjlhfgmbcmaaWGuard
import Derived.Test.YtfemjlhfgmbcmaaWNEv
import Derived.Test.YtfemjlhfgmbcmaaWMore
import Derived.Test.YtfemjlhfgmbcmaaHd
namespace Go.Proofs.Ytfemjlhfgmbcmaa
open Go.RowKit Go.Proofs.YtfemjlhfgmbcmaaW.PrintWords Go.Proofs.YtfemjlhfgmbcmaaW.PrintLast Go.Proofs.YtfemjlhfgmbcmaaW.PrintMore
set_option linter.unusedVariables false
set_option linter.unusedSimpArgs false
theorem info5 : (Try.prog.info? 5).map (fun i => (i.zero, i.size, i.bytes)) = some (some (.int .u8 0), 1, 1) := by kernel_rfl
namespace HU
/-! ### wire_Uint: function 26 -/
def wire_Uint.l0 : Nat → Int → List Int → Option (ByteArray)
  | 0, _, _ => none
  | k + 1, x0, x3 => if x0 > 127 then (if x3.length < 140737488355328 then (wire_Uint.l0 k (x0 / 128) (x3 ++ [Go.bits .or .u8 ((x0) % 256) 128])) else (none)) else (if x3.length < 140737488355328 then (some (strOfNums (x3 ++ [(x0) % 256]))) else (none))
def wire_Uint.f (k : Nat) (a0 : Int) : Option (ByteArray) := wire_Uint.l0 k a0 ([] : List Int)
theorem wire_Uint.mono_l : ∀ k, (∀ y0 y1, LeO (wire_Uint.l0 k y0 y1) (wire_Uint.l0 (k + 1) y0 y1))
  | 0 => fun _ _ r h => by simp [wire_Uint.l0] at h
  | k + 1 => by
    have ih0 := wire_Uint.mono_l k
    · intro y0 y1
      unfold wire_Uint.l0
      repeat' first
      | (with_reducible exact ih0 _ _)
      | (with_reducible exact LeO.refl _)
      | (with_reducible exact LeO.none _)
      | (with_reducible refine LeO.ite ?_ ?_)
      | (with_reducible refine LeO.bind ?_ (fun _ => ?_))
      | exact ih0 _ _
      | exact LeO.none _
      | refine LeO.ite ?_ ?_
      | refine LeO.bind ?_ (fun _ => ?_)
theorem wire_Uint.mono : ∀ a0 k, LeO (wire_Uint.f k a0) (wire_Uint.f (k + 1) a0) := by
  intro a0 k
  have ih0 := wire_Uint.mono_l k
  unfold wire_Uint.f
  repeat' first
      | (with_reducible exact ih0 _ _)
      | (with_reducible exact LeO.refl _)
      | (with_reducible exact LeO.none _)
      | (with_reducible refine LeO.ite ?_ ?_)
      | (with_reducible refine LeO.bind ?_ (fun _ => ?_))
      | exact ih0 _ _
      | exact LeO.none _
      | refine LeO.ite ?_ ?_
      | refine LeO.bind ?_ (fun _ => ?_)
set_option maxHeartbeats 8000000 in
set_option maxRecDepth 100000 in
theorem wire_Uint.calls (k : Nat) (a0 : Int) (r : ByteArray) (w : World) (h : wire_Uint.f k a0 = some r) :
    Calls Try.prog 26 #[.int .u64 a0] w fun e w' => e = .returned (.string r) ∧ Below w.heap.size w w' := by
  have HB := Aside0.mk (Below.refl w.heap.size w)
  have H : (wire_Uint.l0 k a0 ([] : List Int)) = some r := h
  clear h
  have H' := Aside0.mk H
  clear H
  go_enter Try.func26, Try.ntmps26
  go_wp2
  go_loopg [0, 3] k (fun kq v0 v3 w' => ∃ (x0_1 : Int) (x3_1 : List Int), v0 = .int .u64 x0_1 ∧ Aside0 (wire_Uint.l0 kq x0_1 x3_1 = some r) ∧ Aside0 (kq ≤ k) ∧ Aside0 (Kd.R (Kd.int .u8) 5 w' w.heap.size (fun _ => True) v3 x3_1) ∧ Aside0 (Below w.heap.size w w'))
  case atStart => exact ⟨(a0), (([] : List Int)), (by first | rfl | (simp; done) | (simp [*]; done)), H', ⟨Nat.le_refl _⟩, ⟨by first | exact Kd.R_nil _ _ _ _ _ | exact Kd.N_nil _ _ _ _ _ | exact Kd.V_nil _ _ _ _ _ | exact Kd.Q_nil _ _ _ _ _ | exact Kd.S_nil _ _ _ _ _⟩, ⟨by repeat (first | (with_reducible first | exact HB.out | apply below_alloc | apply pw_below_drewN | apply below_drew1) | exact HB.out)⟩⟩
  case round =>
    clear H'
    obtain ⟨x0_1, x3_1, rfl, HA, HK1, HO_3, HB⟩ := hrel
    cases gk with
    | zero => exact absurd HA.out (by simp [wire_Uint.l0])
    | succ k1 =>
      have H := HA.out
      clear HA
      simp only [wire_Uint.l0] at H
      by_cases c2 : x0_1 > 127
      · rw [if_pos c2] at H
        have c2b0 : decide (127 < x0_1) = true := decide_eq_true c2
        clear c2
        by_cases c3 : x3_1.length < 140737488355328
        · rw [if_pos c3] at H
          have LMc3 := Aside0.mk c3
          clear c3
          obtain ⟨y101, hy101⟩ : ∃ y_ : List Int, y_ = (x3_1 ++ [Go.bits .or .u8 ((x0_1) % 256) 128]) := ⟨_, rfl⟩
          replace H : (wire_Uint.l0 k1 (x0_1 / 128) y101) = some r := by first | (rw [hy101]; with_reducible exact H) | (have H2_ := (Option.bind_some _ _).symm.trans H; rw [hy101]; with_reducible exact H2_) | (have H2_ := (Option.bind_some _ _).symm.trans H; with_reducible exact H2_) | with_reducible exact H | (rw [hy101]; exact H) | exact H
          have Ny101 := Aside0.mk hy101
          clear hy101
          have H' := Aside0.mk H
          clear H
          go_wp2_with (first | ((with_reducible refine gate_builtin (b := .append) (xs := #[.tmp 6, .tmp 10]) rfl ?_); at_builtin; refine Kd.R_append (Kd.int .u8) (w0 := w) w.heap.size rfl (.tmp 6) (.tmp 10) 84 5 (.int .u8 0) 1 rfl Try.underlying84 info5 rfl (by decide) (by omega) u3 x3_1 (Go.bits .or .u8 ((x0_1) % 256) 128) [.int .u8 (Go.bits .or .u8 ((x0_1) % 256) 128)] (fun _ => True) (fun _ => False) rfl rfl ?aP (fun _ hk => hk.elim) ?aF ?aO ?aB ?aS ?aL ?_; (case aP => exact rfl); (case aB => exact (by repeat (first | (with_reducible first | exact HB.out | apply below_alloc | apply pw_below_drewN | apply below_drew1) | exact HB.out))); (case aF => exact (fun _ _ => trivial)); (case aO => exact (by (with_reducible repeat (first | apply Kd.R_alloc | apply Kd.R_drewN | apply Kd.R_drew)); exact HO_3.out)); (case aS => exact (below_size (by repeat (first | (with_reducible first | exact HB.out | apply below_alloc | apply pw_below_drewN | apply below_drew1) | exact HB.out)))); (case aL => have := LMc3.out; omega); intro v102 w4 ho hb hg hat; rw [← Ny101.out] at ho; have n0_ := Aside0.mk (hb); have n1_ := Aside0.mk (ho); clear HB; clear HO_3; have HB := n0_; have HO103 := n1_; clear n0_ n1_; clear ho hb hg hat))
          go_roundg k1
          case measure => have := HK1.out; omega
          case rel => exact ⟨(x0_1 / 128), (y101), (by first | rfl | (simp; done) | (simp [*]; done)), H', ⟨by have := HK1.out; omega⟩, ⟨by (with_reducible repeat (first | apply Kd.R_alloc | apply Kd.R_drewN | apply Kd.R_drew)); exact HO103.out⟩, ⟨by repeat (first | (with_reducible first | exact HB.out | apply below_alloc | apply pw_below_drewN | apply below_drew1) | exact HB.out)⟩⟩
        · rw [if_neg c3] at H
          exact absurd H (by simp)
      · rw [if_neg c2] at H
        have c2b0 : decide (127 < x0_1) = false := decide_eq_false c2
        clear c2
        by_cases c5 : x3_1.length < 140737488355328
        · rw [if_pos c5] at H
          have LMc5 := Aside0.mk c5
          clear c5
          obtain ⟨y104, hy104⟩ : ∃ y_ : List Int, y_ = (x3_1 ++ [(x0_1) % 256]) := ⟨_, rfl⟩
          replace H : (some (strOfNums y104)) = some r := by first | (rw [hy104]; with_reducible exact H) | (have H2_ := (Option.bind_some _ _).symm.trans H; rw [hy104]; with_reducible exact H2_) | (have H2_ := (Option.bind_some _ _).symm.trans H; with_reducible exact H2_) | with_reducible exact H | (rw [hy104]; exact H) | exact H
          have Ny104 := Aside0.mk hy104
          clear hy104
          obtain rfl := Option.some.inj H
          go_wp2_with (first | ((with_reducible refine gate_builtin (b := .append) (xs := #[.tmp 14, .tmp 17]) rfl ?_); at_builtin; refine Kd.R_append (Kd.int .u8) (w0 := w) w.heap.size rfl (.tmp 14) (.tmp 17) 84 5 (.int .u8 0) 1 rfl Try.underlying84 info5 rfl (by decide) (by omega) u3 x3_1 ((x0_1) % 256) [.int .u8 ((x0_1) % 256)] (fun _ => True) (fun _ => False) rfl rfl ?aP (fun _ hk => hk.elim) ?aF ?aO ?aB ?aS ?aL ?_; (case aP => exact rfl); (case aB => exact (by repeat (first | (with_reducible first | exact HB.out | apply below_alloc | apply pw_below_drewN | apply below_drew1) | exact HB.out))); (case aF => exact (fun _ _ => trivial)); (case aO => exact (by (with_reducible repeat (first | apply Kd.R_alloc | apply Kd.R_drewN | apply Kd.R_drew)); exact HO_3.out)); (case aS => exact (below_size (by repeat (first | (with_reducible first | exact HB.out | apply below_alloc | apply pw_below_drewN | apply below_drew1) | exact HB.out)))); (case aL => have := LMc5.out; omega); intro v105 w6 ho hb hg hat; rw [← Ny104.out] at ho; have n0_ := Aside0.mk (hb); have n1_ := Aside0.mk (ho); clear HB; clear HO_3; have HB := n0_; have HO106 := n1_; clear n0_ n1_; clear ho hb hg hat; have hcv7 := own_string (P := Try.prog) Try.underlying84 Try.underlying5 Try.underlying9 (Kd.own_of_R HO106.out)))
          go_ret
          exact ⟨by first | rfl | (simp [errW_none, errW_some] <;> rfl) | (simp [*, errW_none, errW_some] <;> rfl), by repeat (first | (with_reducible first | exact HB.out | apply below_alloc | apply pw_below_drewN | apply below_drew1) | exact HB.out)⟩
        · rw [if_neg c5] at H
          exact absurd H (by simp)


end HU
open HU
/-- A number's bytes. -/
def encL (v : Nat) : List UInt8 := if h : v < 128 then [UInt8.ofNat v] else UInt8.ofNat (v % 128 + 128) :: encL (v / 128)
  termination_by v
  decreasing_by omega
def encB (v : Nat) : ByteArray := ⟨(encL v).toArray⟩
theorem encL_small {v : Nat} (h : v < 128) : encL v = [UInt8.ofNat v] := by rw [encL, dif_pos h]
theorem encL_big {v : Nat} (h : ¬ v < 128) : encL v = UInt8.ofNat (v % 128 + 128) :: encL (v / 128) := by rw [encL, dif_neg h]

theorem strNums_map (l : List UInt8) : strOfNums (l.map fun b => (b.toNat : Int)) = ⟨l.toArray⟩ := by
  unfold strOfNums
  congr 2
  rw [List.map_map]
  conv => rhs; rw [← List.map_id l]
  congr 1
  funext b
  simp

theorem or128 (n : Nat) : Go.bits .or .u8 ((n : Int) % 256) 128 = ((n % 128 + 128 : Nat) : Int) := by
  have e : ((n : Int) % 256) = ((n % 256 : Nat) : Int) := by omega
  rw [e, show (128 : Int) = ((128 : Nat) : Int) from rfl, (bits_nat .u8 8 (by decide) wraps_u8 (n % 256) 128 (by omega) (by decide)).2]
  congr 1
  have h1 : n % 256 = 2 ^ 7 * (n / 128 % 2) + n % 128 := by omega
  have hlt : n % 128 < 2 ^ 7 := by omega
  rw [h1, Nat.two_pow_add_eq_or_of_lt hlt]
  have h3 : n % 128 + 128 = 2 ^ 7 * 1 + n % 128 := by omega
  rw [h3, Nat.two_pow_add_eq_or_of_lt hlt]
  have : n / 128 % 2 = 0 ∨ n / 128 % 2 = 1 := by omega
  rcases this with h | h
  · rw [h]; simp [Nat.or_comm]
  · rw [h]
    simp only [Nat.mul_one]
    rw [Nat.or_comm, ← Nat.or_assoc, Nat.or_self]

theorem uint_l0 : ∀ (d : Nat) (v : Nat) (acc : List UInt8) (k : Nat), v < 128 ^ (d + 1) → d < k → acc.length + d < 100 →
    wire_Uint.l0 k (v : Int) (acc.map fun b => (b.toNat : Int)) = some ⟨(acc ++ encL v).toArray⟩
  | d, v, acc, k, hv, hk, ha => by
    obtain ⟨k, rfl⟩ : ∃ m, k = m + 1 := ⟨k - 1, by omega⟩
    simp only [wire_Uint.l0]
    have hl : (acc.map fun b => (b.toNat : Int)).length < 140737488355328 := by simp; omega
    by_cases h : v < 128
    · rw [if_neg (by omega), if_pos hl, encL_small h]
      have e : (acc.map fun b => (b.toNat : Int)) ++ [(v : Int) % 256] = (acc ++ [UInt8.ofNat v]).map fun b => (b.toNat : Int) := by
        rw [List.map_append]; congr 1
      rw [e, strNums_map]
    · rw [if_pos (by omega), if_pos hl, encL_big h, or128]
      obtain ⟨d, rfl⟩ : ∃ m, d = m + 1 := ⟨d - 1, by
        have : d ≠ 0 := by rintro rfl; simp at hv; omega
        omega⟩
      have e : (acc.map fun b => (b.toNat : Int)) ++ [((v % 128 + 128 : Nat) : Int)] = (acc ++ [UInt8.ofNat (v % 128 + 128)]).map fun b => (b.toNat : Int) := by
        rw [List.map_append]; congr 1
        simp only [List.map_cons, List.map_nil, UInt8.toNat_ofNat']
        congr 1
        omega
      rw [e, show (v : Int) / 128 = ((v / 128 : Nat) : Int) from rfl, uint_l0 d (v / 128) _ k (by
        rw [Nat.div_lt_iff_lt_mul (by decide)]; rw [Nat.pow_succ] at hv; exact hv) (by omega) (by simp; omega)]
      simp
theorem uint_f (v : Nat) (hv : v < 18446744073709551616) : wire_Uint.f 12 (v : Int) = some (encB v) := by
  have := uint_l0 9 v [] 12 (by have : 18446744073709551616 ≤ 128 ^ 10 := by decide
                                omega) (by omega) (by simp)
  simpa [wire_Uint.f, encB] using this

theorem WUint_calls (v : Nat) (w : World) (hv : v < 18446744073709551616) :
    Calls Try.prog 26 #[.int .u64 v] w fun e w' => e = .returned (.string (encB v)) ∧ Below w.heap.size w w' :=
  wire_Uint.calls 12 v (encB v) w (uint_f v hv)

/-- A number with a sign as one without. -/
def zig (n : Int) : Nat := if 0 ≤ n then (2 * n).toNat else (-2 * n - 1).toNat
theorem zig_lt (n : Int) (h : -9223372036854775808 ≤ n) (h2 : n ≤ 9223372036854775807) : zig n < 18446744073709551616 := by unfold zig; split <;> omega
theorem xor_u64_0 (x : Int) (h0 : 0 ≤ x) (h1 : x < 18446744073709551616) : bits .xor .u64 x 0 = x := by
  obtain ⟨a, rfl⟩ := Int.eq_ofNat_of_zero_le h0
  have := bits_xor_u64_nat a 0 (by omega) (by decide)
  simpa using this
theorem xor_u64_m1 (x : Int) (h0 : 0 ≤ x) (h1 : x < 18446744073709551616) : bits .xor .u64 x 18446744073709551615 = 18446744073709551615 - x := by
  obtain ⟨a, rfl⟩ := Int.eq_ofNat_of_zero_le h0
  show IntKind.u64.wrap ((BitVec.ofInt 64 (a : Int) ^^^ BitVec.ofInt 64 (18446744073709551615 : Int)).toNat : Int) = _
  have h2 : (BitVec.ofInt 64 (a : Int)).toNat = a := by
    rw [BitVec.ofInt_natCast, BitVec.toNat_ofNat]; exact Nat.mod_eq_of_lt (by omega)
  rw [show BitVec.ofInt 64 (18446744073709551615 : Int) = BitVec.allOnes 64 by decide, BitVec.xor_allOnes, BitVec.toNat_not, h2, IntKind.wrap_u64]
  omega
theorem zig_bits (n : Int) (h : -9223372036854775808 ≤ n) (h2 : n ≤ 9223372036854775807) :
    bits .xor .u64 (IntKind.u64.wrap (IntKind.u64.wrap n * 2)) (IntKind.u64.wrap (n / 9223372036854775808)) = (zig n : Int) := by
  simp only [IntKind.wrap_u64]
  unfold zig
  by_cases hn : 0 ≤ n
  · rw [if_pos hn, show n / 9223372036854775808 % 18446744073709551616 = 0 by omega, xor_u64_0 _ (by omega) (by omega)]
    omega
  · rw [if_neg hn, show n / 9223372036854775808 % 18446744073709551616 = 18446744073709551615 by omega, xor_u64_m1 _ (by omega) (by omega)]
    omega
theorem WInt_calls (n : Int) (w : World) (h : -9223372036854775808 ≤ n) (h2 : n ≤ 9223372036854775807) :
    Calls Try.prog 27 #[.int .i64 n] w fun e w' => e = .returned (.string (encB (zig n))) ∧ Below w.heap.size w w' := by
  have hz := zig_lt n h h2
  have HZ := Lib.hid (zig_bits n h h2)
  go_enter Try.func27, Try.ntmps27
  go_wp2_with (go_at_call 26; rw [HZ.out]; refine (WUint_calls (zig n) _ hz).mono ?_; rintro e w' ⟨rfl, hb⟩)
  go_ret
  exact ⟨rfl, hb⟩
theorem encL_len : ∀ (d v : Nat), v < 128 ^ (d + 1) → (encL v).length ≤ d + 1 ∧ 1 ≤ (encL v).length
  | d, v, hv => by
    by_cases h : v < 128
    · rw [encL_small h]; simp
    · rw [encL_big h]
      obtain ⟨d, rfl⟩ : ∃ m, d = m + 1 := ⟨d - 1, by
        have : d ≠ 0 := by rintro rfl; simp at hv; omega
        omega⟩
      have := encL_len d (v / 128) (by rw [Nat.div_lt_iff_lt_mul (by decide)]; rw [Nat.pow_succ] at hv; exact hv)
      simp only [List.length_cons]; omega
theorem encB_size (v : Nat) : (encB v).size = (encL v).length := by simp [encB, ByteArray.size]
theorem encB_le (v : Nat) (h : v < 18446744073709551616) : (encB v).size ≤ 10 ∧ 1 ≤ (encB v).size := by
  rw [encB_size]
  exact encL_len 9 v (by have : 18446744073709551616 ≤ 128 ^ 10 := by decide
                         omega)
theorem WText_calls (s : ByteArray) (w : World) (hs : s.size ≤ 9223372036854775700) :
    Calls Try.prog 28 #[.string s] w fun e w' => e = .returned (.string (encB s.size ++ s)) ∧ Below w.heap.size w w' := by
  have HU := fun w' => WUint_calls s.size w' (by omega)
  have hb := (encB_le s.size (by omega)).1
  generalize encB s.size = b at HU hb ⊢
  have HU2 := Lib.hid HU
  clear HU
  have hz : b.size + s.size ≤ 9223372036854775807 := by omega
  go_enter Try.func28, Try.ntmps28
  go_wp2_with (go_at_call 26; refine (HU2.out _).mono ?_; rintro e w' ⟨rfl, hb⟩)
  go_ret
  exact ⟨rfl, hb⟩

end Go.Proofs.Ytfemjlhfgmbcmaa
