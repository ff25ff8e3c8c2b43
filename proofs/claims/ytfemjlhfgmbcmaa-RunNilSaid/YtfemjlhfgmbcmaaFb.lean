/- The walks of the check sums. -/
import Derived.Test.YtfemjlhfgmbcmaaFa
import Derived.Test.YtfemjlhfgmbcmaaMa
namespace Go.Proofs.Ytfemjlhfgmbcmaa
open Go.RowKit Go.Proofs.YtfemjlhfgmbcmaaW.PrintWords Go.Proofs.YtfemjlhfgmbcmaaW.PrintLast Go.Proofs.YtfemjlhfgmbcmaaW.PrintMore

theorem crc1_odd (c : Nat) (h : c % 2 = 1) : crc1 c = (c / 2) ^^^ poly := by unfold crc1; rw [h, Nat.one_mul]
theorem crc1_ev (c : Nat) (h : c % 2 = 0) : crc1 c = c / 2 := by unfold crc1; rw [h, Nat.zero_mul, Nat.xor_zero]

theorem wraps_u32 (n : Int) (h₀ : 0 ≤ n) (h₁ : n < 2 ^ 32) : IntKind.u32.wrap n = n := by rw [IntKind.wrap_u32]; omega
theorem xor_nat (k : IntKind) (j : Nat) (hj : j ≤ k.bits) (hk : ∀ n : Int, 0 ≤ n → n < 2 ^ j → k.wrap n = n) (a b : Nat) (ha : a < 2 ^ j) (hb : b < 2 ^ j) : bits .xor k a b = ((a ^^^ b : Nat) : Int) := by
  have hp : 2 ^ j ≤ 2 ^ k.bits := Nat.pow_le_pow_right (by decide) hj
  have ha' : a % 2 ^ k.bits = a := Nat.mod_eq_of_lt (Nat.lt_of_lt_of_le ha hp)
  have hb' : b % 2 ^ k.bits = b := Nat.mod_eq_of_lt (Nat.lt_of_lt_of_le hb hp)
  simp only [bits, BitVec.ofInt_natCast, BitVec.toNat_xor, BitVec.toNat_ofNat, ha', hb']
  exact hk _ (Int.natCast_nonneg _) (by exact_mod_cast Nat.xor_lt_two_pow ha hb)
theorem xor_u32 (a b : Nat) (ha : a < 4294967296) (hb : b < 4294967296) : bits .xor .u32 (a : Int) (b : Int) = ((a ^^^ b : Nat) : Int) := xor_nat .u32 32 (by decide) wraps_u32 a b ha hb
theorem xor_poly (y : Nat) (hy : y < 4294967296) (h : y % 2 = 1) : bits .xor .u32 ((y : Int) / 2) 3988292384 = ((crc1 y : Nat) : Int) := by
  have := xor_u32 (y / 2) 3988292384 (by omega) (by decide)
  rw [crc1_odd y h]
  rw [Int.natCast_ediv] at this
  exact this
set_option maxRecDepth 100000 in
theorem refSum_calls (s : ByteArray) (w : World) (hs : s.size ≤ maxLen) :
    Calls Try.prog 64 #[.string s] w fun e w' => e = .returned (.int .u32 (sumN s)) ∧ w = w' := by
  unfold maxLen at hs
  obtain ⟨R, hR⟩ : ∃ R, R = crcL 4294967295 s.data.toList := ⟨_, rfl⟩
  have hRl : R < 4294967296 := by rw [hR]; exact crcL_lt _ _ (by decide)
  have hS : sumN s = 4294967295 - R := by rw [hR]; rfl
  rw [hS]
  have HR := Lib.hid hR.symm
  clear hR hS
  go_enter Try.func64, Try.ntmps64
  go_wp2_with fail
  go_loopw [3, 4] (fun c i W => ∃ (k x : Nat), i = .int .i64 k ∧ c = .int .u32 x ∧ k ≤ s.size ∧ x < 4294967296 ∧ Hid (crcL x (s.data.toList.drop k) = R) ∧ W = w) (fun _ i _ => s.size - (intOf i).toNat)
  case atStart => exact ⟨0, 4294967295, rfl, rfl, Nat.zero_le _, by decide, HR.out, rfl⟩
  case round =>
    obtain ⟨k, x, rfl, rfl, hk, hx, HN, rfl⟩ := hrel
    clear HR
    by_cases hlt : k < s.size
    · have hN : crcL (crcK 8 (x ^^^ s[k].toNat)) (s.data.toList.drop (k + 1)) = R := by
        rw [← HN.out, drop_at s k hlt]; rfl
      have HN2 := Lib.hid hN
      have hb := s[k].toNat_lt
      have hxl := xor_byte_lt x _ hx hb
      have hxe := xor_u32 x s[k].toNat hx (by omega)
      clear hN HN
      generalize hz : x ^^^ s[k].toNat = z at hxl hxe HN2
      go_wp2_with fail
      go_loopw [3, 5] (fun c i W => ∃ (j y : Nat), i = .int .i64 j ∧ c = .int .u32 y ∧ j ≤ 8 ∧ y < 4294967296 ∧ Hid (crcK (8 - j) y = crcK 8 z) ∧ W = wr) (fun _ i _ => 8 - (intOf i).toNat)
      case atStart => exact ⟨0, z, rfl, rfl, by decide, hxl, rfl, rfl⟩
      case round =>
        obtain ⟨j, y, rfl, rfl, hj, hy, HC, rfl⟩ := hrel
        clear hxe
        by_cases hj8 : j < 8
        · have hC : crcK (8 - (j + 1)) (crc1 y) = crcK 8 z := by
            rw [← HC.out, show 8 - j = (8 - (j + 1)) + 1 by omega]; rfl
          have HC2 := Lib.hid hC
          have hl1 := crc1_lt y hy
          clear hC HC
          have e1 : Int.tmod (y : Int) 2 = ((y % 2 : Nat) : Int) := by rw [Int.tmod_eq_emod_of_nonneg (by omega)]; omega
          by_cases hp : y % 2 = 1
          · have hq := xor_poly y hy hp
            rw [hp] at e1
            go_wp2_with fail
            go_roundw
            case rel => exact ⟨j + 1, crc1 y, by go_num, rfl, by omega, hl1, HC2.out, trivial⟩
            case measure => simp [intOf]; omega
          · have hp0 : y % 2 = 0 := by omega
            have hq : ((y : Int) / 2) = ((crc1 y : Nat) : Int) := by rw [crc1_ev y hp0, Int.natCast_ediv]; rfl
            rw [hp0] at e1
            have HQ := Lib.hid hq
            clear hq
            go_wp2_with fail
            go_roundw
            case rel => exact ⟨j + 1, crc1 y, by go_num, congrArg _ HQ.out, by omega, hl1, HC2.out, trivial⟩
            case measure => simp [intOf]; omega
        · have hje : y = crcK 8 z := by rw [← HC.out, show 8 - j = 0 by omega]; rfl
          clear HC
          go_wp2_with fail
          go_roundw
          case rel => exact ⟨k + 1, y, by go_num, rfl, by omega, hy, hje ▸ HN2.out, trivial⟩
          case measure => simp [intOf]; omega
    · have hN : x = R := by rw [← HN.out, List.drop_of_length_le (by simp; omega)]; rfl
      subst hN
      go_wp2_with fail
      go_ret
      exact ⟨show Ending.returned (.int .u32 (4294967295 - (x : Int))) = .returned (.int .u32 ((4294967295 - x : Nat) : Int)) by rw [Int.ofNat_sub (by omega)]; rfl, rfl⟩

theorem xor_polyI (y : Nat) (hy : y < 4294967296) : bits .xor .u32 ((y : Int) / 2) (bits .and .u32 (IntKind.u32.wrap (-(bits .and .u32 (y : Int) 1))) 3988292384) = ((crc1 y : Nat) : Int) := by
  have ha : bits .and .u32 (y : Int) 1 = (y : Int) % 2 := by
    have := bits_mask .u32 32 (by decide) wraps_u32 1 (by decide) (y : Int) (by omega) (by omega)
    simpa using this
  rw [ha]
  by_cases h : y % 2 = 1
  · rw [show (y : Int) % 2 = 1 by omega, show bits .and .u32 (IntKind.u32.wrap (-1)) 3988292384 = 3988292384 by decide]
    exact xor_poly y hy h
  · rw [show (y : Int) % 2 = 0 by omega, show bits .and .u32 (IntKind.u32.wrap (-0)) 3988292384 = ((0 : Nat) : Int) by decide]
    have := xor_u32 (y / 2) 0 (by omega) (by decide)
    rw [Nat.xor_zero, Int.natCast_ediv] at this
    rw [crc1_ev y (by omega), Int.natCast_ediv]
    exact this

theorem not_u32 (x : Nat) (hx : x < 4294967296) : bits .xor .u32 4294967295 (x : Int) = ((4294967295 - x : Nat) : Int) := by
  show IntKind.u32.wrap ((BitVec.ofInt 32 (4294967295 : Int) ^^^ BitVec.ofInt 32 (x : Int)).toNat : Int) = _
  have h2 : (BitVec.ofInt 32 (x : Int)).toNat = x := by
    rw [BitVec.ofInt_natCast, BitVec.toNat_ofNat]; exact Nat.mod_eq_of_lt (by omega)
  rw [show BitVec.ofInt 32 (4294967295 : Int) = BitVec.allOnes 32 by decide, BitVec.allOnes_xor, BitVec.toNat_not, h2, IntKind.wrap_u32]
  omega

def TblIs (W : World) (g k : Nat) : Prop := ∃ cs : Array Value, W.heap[g]? = some (.cells cs 155 (0, 0)) ∧ cs.size = 256 ∧ ∀ j, j < 256 → cs[j]? = some (.int .u32 ((if j < k then crc8 j else 0 : Nat) : Int))
theorem TblIs.cell {W : World} {g k : Nat} (h : TblIs W g k) (j : Nat) (hj : j < 256) : W.cell? ⟨g, j, none⟩ = some (.int .u32 ((if j < k then crc8 j else 0 : Nat) : Int)) := by
  obtain ⟨cs, h1, h2, h3⟩ := h
  have := h3 j hj
  simp [World.cell?, h1, this]
theorem TblIs.frozen {W : World} {g k : Nat} (h : TblIs W g k) (j : Nat) : W.frozen? ⟨g, j, none⟩ = false := by
  obtain ⟨cs, h1, h2, h3⟩ := h
  simp [World.frozen?, h1]
theorem TblIs.lt {W : World} {g k : Nat} (h : TblIs W g k) : g < W.heap.size := by
  obtain ⟨cs, h1, _⟩ := h
  exact (Array.getElem?_eq_some_iff.1 h1).1

set_option maxRecDepth 100000 in
theorem fill_calls (g i : Nat) (w : World) (hi : i < 256) (h : TblIs w g i) :
    Calls Try.prog 100 #[.int .i64 i, .pointer (some ⟨g, 0, none⟩)] w fun e w' => e = .returned (.tuple #[]) ∧ w' = w.setCell ⟨g, i, none⟩ (.int .u32 (crc8 i)) := by
  have h0 := h.cell i hi
  have f0 := h.frozen i
  clear h
  go_enter Try.func100, Try.ntmps100
  go_wp2_with fail
  go_loopw [3, 6] (fun c i' W => ∃ (j y : Nat), i' = .int .i64 j ∧ c = .int .u32 y ∧ j ≤ 8 ∧ y < 4294967296 ∧ Hid (crcK (8 - j) y = crc8 i) ∧ W = w) (fun _ i' _ => 8 - (intOf i').toNat)
  case atStart => exact ⟨0, i, rfl, by go_num, by decide, by omega, rfl, rfl⟩
  case round =>
    obtain ⟨j, y, rfl, rfl, hj, hy, HC, rfl⟩ := hrel
    by_cases hj8 : j < 8
    · have hC : crcK (8 - (j + 1)) (crc1 y) = crc8 i := by
        rw [← HC.out, show 8 - j = (8 - (j + 1)) + 1 by omega]; rfl
      have HC2 := Lib.hid hC
      have hl1 := crc1_lt y hy
      have hq := Lib.hid (xor_polyI y hy)
      clear hC HC
      go_wp2_with fail
      go_roundw
      case rel => exact ⟨j + 1, crc1 y, by go_num, congrArg _ hq.out, by omega, hl1, HC2.out, trivial⟩
      case measure => simp [intOf]; omega
    · have hje : y = crc8 i := by rw [← HC.out, show 8 - j = 0 by omega]; rfl
      subst hje
      clear HC
      go_wp2_with fail
      go_end0
      exact ⟨rfl, rfl⟩

theorem TblIs.fill {W : World} {g k : Nat} (h : TblIs W g k) (hk : k < 256) : TblIs (W.setCell ⟨g, k, none⟩ (.int .u32 (crc8 k))) g (k + 1) := by
  obtain ⟨cs, h1, h2, h3⟩ := h
  refine ⟨cs.setIfInBounds k (.int .u32 (crc8 k)), ?_, by simp [h2], fun j hj => ?_⟩
  · have hg := (Array.getElem?_eq_some_iff.1 h1).1
    have ha : W.heap[g] = .cells cs 155 (0, 0) := by rw [Array.getElem?_eq_getElem hg] at h1; exact Option.some.inj h1
    show (W.heap.modify g _)[g]? = _
    rw [Array.getElem?_eq_getElem (by simpa using hg), Array.getElem_modify_self, ha]
    rfl
  · rw [Array.getElem?_setIfInBounds]
    by_cases he : k = j
    · subst he
      rw [if_pos rfl, if_pos (by omega), if_pos (by omega)]
    · rw [if_neg he, h3 j hj]
      by_cases hl : j < k
      · rw [if_pos hl, if_pos (by omega)]
      · rw [if_neg hl, if_neg (by omega)]
theorem zero155 : Try.zeroCells155 = Array.replicate 256 (.int .u32 0) := by kernel_rfl
theorem TblIs.new (W : World) : TblIs (W.alloc (.cells Try.zeroCells155 155)) W.heap.size 0 :=
  ⟨_, heap_alloc_new W _, by rw [zero155]; simp, fun j hj => by rw [zero155, Array.getElem?_replicate, if_pos hj]; rfl⟩
theorem table_step (x b q m : Nat) (hq : q = x % 256) (hm : m = q ^^^ b) (hb : b < 256) (hx : x < 4294967296) : bits .xor .u32 ((x : Int) / 256) ((crc8 m : Nat) : Int) = ((crc8 (x ^^^ b) : Nat) : Int) := by
  have hm2 : m < 256 := by rw [hm]; exact Nat.xor_lt_two_pow (n := 8) (by omega) (by omega)
  have := xor_u32 (x / 256) (crc8 m) (by omega) (crcK_lt 8 m (by omega))
  rw [Int.natCast_ediv] at this
  rw [crc8_table, ← hq, ← hm]
  exact this

set_option maxRecDepth 100000 in
theorem Sum_calls (s : ByteArray) (w : World) (hs : s.size ≤ maxLen) :
    Calls Try.prog 63 #[.string s] w fun e w' => e = .returned (.int .u32 (sumN s)) ∧ Below w.heap.size w w' := by
  unfold maxLen at hs
  obtain ⟨R, hR⟩ : ∃ R, R = crcL 4294967295 s.data.toList := ⟨_, rfl⟩
  have hRl : R < 4294967296 := by rw [hR]; exact crcL_lt _ _ (by decide)
  have hS : sumN s = 4294967295 - R := by rw [hR]; rfl
  rw [hS]
  have HR := Lib.hid hR.symm
  clear hR hS
  have HT := Lib.hid (TblIs.new w)
  have HB := Lib.hid (below_alloc (Below.refl w.heap.size w) (.cells Try.zeroCells155 155))
  go_enter Try.func63, Try.ntmps63
  go_wp2_with fail
  obtain ⟨g, hg⟩ : ∃ g, w.heap.size = g := ⟨_, rfl⟩
  rw [hg] at HT ⊢
  generalize hW : w.alloc (Obj.cells Try.zeroCells155 155) = W0 at HT HB ⊢
  go_loopw [9] (fun i W => ∃ k : Nat, i = .int .i64 k ∧ k ≤ 256 ∧ TblIs W g k ∧ Below w.heap.size w W) (fun i _ => 256 - (intOf i).toNat)
  case atStart => exact ⟨0, rfl, by decide, HT.out, HB.out⟩
  case round =>
    obtain ⟨k, rfl, hk, ht, hb⟩ := hrel
    clear HT HB hW
    have HT := Lib.hid ht
    have HB := Lib.hid hb
    clear ht hb
    by_cases hlt : k < 256
    · go_wp2_with fail
      refine (fill_calls g k wr hlt HT.out).mono ?_
      rintro e w' ⟨rfl, rfl⟩
      go_wp2_with fail
      go_roundw
      case rel => exact ⟨k + 1, by go_num, by omega, HT.out.fill hlt, below_set HB.out (by show w.heap.size ≤ g; omega)⟩
      case measure => simp [intOf]; omega
    · obtain rfl : k = 256 := by omega
      go_wp2_with fail
      go_loopw [6, 18] (fun c i W => ∃ (k x : Nat), i = .int .i64 k ∧ c = .int .u32 x ∧ k ≤ s.size ∧ x < 4294967296 ∧ Hid (crcL x (s.data.toList.drop k) = R) ∧ W = wr) (fun _ i _ => s.size - (intOf i).toNat)
      case atStart => exact ⟨0, 4294967295, rfl, rfl, Nat.zero_le _, by decide, HR.out, rfl⟩
      case round =>
        obtain ⟨k, x, rfl, rfl, hk, hx, HN, rfl⟩ := hrel
        clear HR
        by_cases hlt : k < s.size
        · have hN : crcL (crc8 (x ^^^ s[k].toNat)) (s.data.toList.drop (k + 1)) = R := by
            rw [← HN.out, drop_at s k hlt]; rfl
          have HN2 := Lib.hid hN
          have hb := s[k].toNat_lt
          have HX := Lib.hid (crcK_lt 8 _ (xor_byte_lt x _ hx hb))
          obtain ⟨q, hq⟩ : ∃ q, q = x % 256 := ⟨_, rfl⟩
          have hq2 : q < 256 := by omega
          have hw : IntKind.u8.wrap (x : Int) = (q : Int) := by rw [IntKind.wrap_u8]; omega
          obtain ⟨m, hm⟩ : ∃ m, m = q ^^^ s[k].toNat := ⟨_, rfl⟩
          have hm2 : m < 256 := by rw [hm]; exact Nat.xor_lt_two_pow (n := 8) (by omega) (by omega)
          have hx8 : bits .xor .u8 (q : Int) ((s[k].toNat : Nat) : Int) = (m : Int) := by rw [hm]; exact xor_nat .u8 8 (by decide) wraps_u8 q _ (by omega) (by omega)
          have hc := HT.out.cell m hm2
          rw [if_pos hm2] at hc
          have hst := Lib.hid (table_step x _ q m hq hm hb hx)
          have hm3 : (m : Int) < 256 := by omega
          clear hN HN hq hm
          go_wp2_with fail
          go_roundw
          case rel => exact ⟨k + 1, _, by go_num, congrArg _ hst.out, by omega, HX.out, HN2.out, trivial⟩
          case measure => simp [intOf]; omega
        · have hN : x = R := by rw [← HN.out, List.drop_of_length_le (by simp; omega)]; rfl
          subst hN
          clear HN
          go_wp2_with fail
          go_ret
          exact ⟨show Ending.returned (.int .u32 (bits .xor .u32 4294967295 (x : Int))) = _ by rw [not_u32 x hx], by rw [← hg]; exact HB.out⟩
end Go.Proofs.Ytfemjlhfgmbcmaa
