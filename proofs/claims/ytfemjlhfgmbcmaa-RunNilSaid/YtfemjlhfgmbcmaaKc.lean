/- The contracts of the reference's Uint, Int, Text, List as total functions of bytes. Laid by gen_kc.py; the walk of Uint is the print's. -/
import Derived.Test.YtfemjlhfgmbcmaaKb
import Derived.Lib.ConvBytes
namespace Go.Proofs.Ytfemjlhfgmbcmaa
open Go.RowKit Go.Proofs.YtfemjlhfgmbcmaaW.PrintWords Go.Proofs.YtfemjlhfgmbcmaaW.PrintLast Go.Proofs.YtfemjlhfgmbcmaaW.PrintMore
set_option linter.unusedVariables false
set_option linter.unusedSimpArgs false
namespace HU
/-! ### wherryref01_Uint: function 44 -/
def wherryref01_Uint.l0 : Nat → Int → ByteArray → Option (ByteArray)
  | 0, _, _ => none
  | k + 1, x0, x3 => if x0 ≥ 128 then ((some (([(IntKind.u64.wrap (128 + (Int.tmod x0 128))) % 256] : List Int) : List Int)).bind fun y116 => (if x3.size + (strOfNums y116).size ≤ 9223372036854775807 then (wherryref01_Uint.l0 k (IntKind.u64.wrap (Int.tdiv x0 128)) (x3 ++ (strOfNums y116))) else (none))) else ((some (([(x0) % 256] : List Int) : List Int)).bind fun y119 => (if x3.size + (strOfNums y119).size ≤ 9223372036854775807 then (some (x3 ++ (strOfNums y119))) else (none)))
def wherryref01_Uint.f (k : Nat) (a0 : Int) : Option (ByteArray) := wherryref01_Uint.l0 k a0 (⟨#[]⟩ : ByteArray)
theorem wherryref01_Uint.mono_l : ∀ k, (∀ y0 y1, LeO (wherryref01_Uint.l0 k y0 y1) (wherryref01_Uint.l0 (k + 1) y0 y1))
  | 0 => fun _ _ r h => by simp [wherryref01_Uint.l0] at h
  | k + 1 => by
    have ih0 := wherryref01_Uint.mono_l k
    · intro y0 y1
      unfold wherryref01_Uint.l0
      repeat' first
      | (with_reducible exact ih0 _ _)
      | (with_reducible exact LeO.refl _)
      | (with_reducible exact LeO.none _)
      | (with_reducible refine LeO.ite ?_ ?_)
      | (with_reducible refine LeO.bind ?_ (fun _ => ?_))
      | exact ih0 _ _
      | exact LeO.none _
      | refine LeO.ite ?_ ?_
      | refine LeO.bind ?_ (fun _ => ?_)
theorem wherryref01_Uint.mono : ∀ a0 k, LeO (wherryref01_Uint.f k a0) (wherryref01_Uint.f (k + 1) a0) := by
  intro a0 k
  have ih0 := wherryref01_Uint.mono_l k
  unfold wherryref01_Uint.f
  repeat' first
      | (with_reducible exact ih0 _ _)
      | (with_reducible exact LeO.refl _)
      | (with_reducible exact LeO.none _)
      | (with_reducible refine LeO.ite ?_ ?_)
      | (with_reducible refine LeO.bind ?_ (fun _ => ?_))
      | exact ih0 _ _
      | exact LeO.none _
      | refine LeO.ite ?_ ?_
      | refine LeO.bind ?_ (fun _ => ?_)
set_option maxHeartbeats 8000000 in
set_option maxRecDepth 100000 in
theorem wherryref01_Uint.calls (k : Nat) (a0 : Int) (r : ByteArray) (w : World) (h : wherryref01_Uint.f k a0 = some r) :
    Calls Try.prog 44 #[.int .u64 a0] w fun e w' => e = .returned (.string r) ∧ Below w.heap.size w w' := by
  have HB := Aside0.mk (Below.refl w.heap.size w)
  have H : (wherryref01_Uint.l0 k a0 (⟨#[]⟩ : ByteArray)) = some r := h
  clear h
  have H' := Aside0.mk H
  clear H
  go_enter Try.func44, Try.ntmps44
  go_wp2
  go_loopg [0, 3] k (fun kq v0 v3 w' => ∃ (x0_1 : Int) (x3_1 : ByteArray), v0 = .int .u64 x0_1 ∧ v3 = .string x3_1 ∧ Aside0 (wherryref01_Uint.l0 kq x0_1 x3_1 = some r) ∧ Aside0 (kq ≤ k) ∧ Aside0 (Below w.heap.size w w'))
  case atStart => exact ⟨(a0), ((⟨#[]⟩ : ByteArray)), (by first | rfl | (simp; done) | (simp [*]; done)), (by first | rfl | (simp; done) | (simp [*]; done)), H', ⟨Nat.le_refl _⟩, ⟨by repeat (first | (with_reducible first | exact HB.out | apply below_alloc | apply pw_below_drewN | apply below_drew1) | exact HB.out)⟩⟩
  case round =>
    clear H'
    obtain ⟨x0_1, x3_1, rfl, rfl, HA, HK1, HB⟩ := hrel
    cases gk with
    | zero => exact absurd HA.out (by simp [wherryref01_Uint.l0])
    | succ k1 =>
      have H := HA.out
      clear HA
      simp only [wherryref01_Uint.l0] at H
      by_cases c2 : x0_1 ≥ 128
      · rw [if_pos c2] at H
        have c2b0 : decide (128 ≤ x0_1) = true := decide_eq_true c2
        clear c2
        obtain ⟨y116, hy116⟩ : ∃ y_ : List Int, y_ = (([(IntKind.u64.wrap (128 + (Int.tmod x0_1 128))) % 256] : List Int)) := ⟨_, rfl⟩
        replace H : (if x3_1.size + (strOfNums y116).size ≤ 9223372036854775807 then (wherryref01_Uint.l0 k1 (IntKind.u64.wrap (Int.tdiv x0_1 128)) (x3_1 ++ (strOfNums y116))) else (none)) = some r := by first | (rw [hy116]; with_reducible exact H) | (have H2_ := (Option.bind_some _ _).symm.trans H; rw [hy116]; with_reducible exact H2_) | (have H2_ := (Option.bind_some _ _).symm.trans H; with_reducible exact H2_) | with_reducible exact H | (rw [hy116]; exact H) | exact H
        have Ny116 := Aside0.mk hy116
        clear hy116
        by_cases c3 : x3_1.size + (strOfNums y116).size ≤ 9223372036854775807
        · rw [if_pos c3] at H
          have c3b0 := eq_true c3
          have c3b1 : decide (x3_1.size + (strOfNums y116).size ≤ 9223372036854775807) = true := decide_eq_true c3
          try have c3b2 : (9223372036854775807 < x3_1.size + (strOfNums y116).size) = False := eq_false (Nat.not_lt.2 c3)
          have H' := Aside0.mk H
          clear H
          go_wp2_with (first | ((with_reducible refine gate_dst (N := 11) rfl ?_); refine Kd.R_lit (Kd.int .u8) _ 5 ?hg (N := 11) ?hd (xs := ([(IntKind.u64.wrap (128 + (Int.tmod x0_1 128))) % 256] : List Int)) (inner := [.int .u8 ((IntKind.u64.wrap (128 + (Int.tmod x0_1 128))) % 256)]) (ok := fun _ => True) (okp := fun _ => True) ?hr ?hp (fun _ hk => hk) trivial (Below.refl _ _) (Nat.le_refl _) (by simp) ?_; (case hd => rfl); (case hg => rfl); (case hr => first | (go_simp; done) | (go_simp; rfl)); (case hp => exact (Reps.one (show Kd.M (Kd.int .u8) _ _ _ ((IntKind.u64.wrap (128 + (Int.tmod x0_1 128))) % 256) [.int .u8 ((IntKind.u64.wrap (128 + (Int.tmod x0_1 128))) % 256)] from rfl) (Reps.none _ _))); intro v117 w4 ho5 hb hg_ hnew_; clear hg_ hnew_; (first | rw [← Ny116.out] at ho5 | (simp only [Int.reduceToNat] at ho5; rw [← Ny116.out] at ho5)); have n0_ := Aside0.mk (Kd.R_lower ho5 (below_size (by repeat (first | (with_reducible first | exact HB.out | apply below_alloc | apply pw_below_drewN | apply below_drew1) | exact HB.out)))); have n1_ := Aside0.mk (below_step (by repeat (first | (with_reducible first | exact HB.out | apply below_alloc | apply pw_below_drewN | apply below_drew1) | exact HB.out)) hb); clear HB; have HO118 := n0_; have HB := n1_; clear n0_ n1_; clear hb ho5; have hcv6 := own_string (P := Try.prog) Try.underlying84 Try.underlying5 Try.underlying9 (Kd.own_of_R HO118.out)))
          go_roundg k1
          case measure => have := HK1.out; omega
          case rel => exact ⟨(IntKind.u64.wrap (Int.tdiv x0_1 128)), (x3_1 ++ (strOfNums y116)), (by first | rfl | (simp; done) | (simp [*]; done)), (by first | rfl | (simp; done) | (simp [*]; done)), H', ⟨by have := HK1.out; omega⟩, ⟨by repeat (first | (with_reducible first | exact HB.out | apply below_alloc | apply pw_below_drewN | apply below_drew1) | exact HB.out)⟩⟩
        · rw [if_neg c3] at H
          exact absurd H (by simp)
      · rw [if_neg c2] at H
        have c2b0 : decide (128 ≤ x0_1) = false := decide_eq_false c2
        clear c2
        obtain ⟨y119, hy119⟩ : ∃ y_ : List Int, y_ = (([(x0_1) % 256] : List Int)) := ⟨_, rfl⟩
        replace H : (if x3_1.size + (strOfNums y119).size ≤ 9223372036854775807 then (some (x3_1 ++ (strOfNums y119))) else (none)) = some r := by first | (rw [hy119]; with_reducible exact H) | (have H2_ := (Option.bind_some _ _).symm.trans H; rw [hy119]; with_reducible exact H2_) | (have H2_ := (Option.bind_some _ _).symm.trans H; with_reducible exact H2_) | with_reducible exact H | (rw [hy119]; exact H) | exact H
        have Ny119 := Aside0.mk hy119
        clear hy119
        by_cases c7 : x3_1.size + (strOfNums y119).size ≤ 9223372036854775807
        · rw [if_pos c7] at H
          have c7b0 := eq_true c7
          have c7b1 : decide (x3_1.size + (strOfNums y119).size ≤ 9223372036854775807) = true := decide_eq_true c7
          try have c7b2 : (9223372036854775807 < x3_1.size + (strOfNums y119).size) = False := eq_false (Nat.not_lt.2 c7)
          obtain rfl := Option.some.inj H
          go_wp2_with (first | ((with_reducible refine gate_dst (N := 19) rfl ?_); refine Kd.R_lit (Kd.int .u8) _ 5 ?hg (N := 19) ?hd (xs := ([(x0_1) % 256] : List Int)) (inner := [.int .u8 ((x0_1) % 256)]) (ok := fun _ => True) (okp := fun _ => True) ?hr ?hp (fun _ hk => hk) trivial (Below.refl _ _) (Nat.le_refl _) (by simp) ?_; (case hd => rfl); (case hg => rfl); (case hr => first | (go_simp; done) | (go_simp; rfl)); (case hp => exact (Reps.one (show Kd.M (Kd.int .u8) _ _ _ ((x0_1) % 256) [.int .u8 ((x0_1) % 256)] from rfl) (Reps.none _ _))); intro v120 w8 ho9 hb hg_ hnew_; clear hg_ hnew_; (first | rw [← Ny119.out] at ho9 | (simp only [Int.reduceToNat] at ho9; rw [← Ny119.out] at ho9)); have n0_ := Aside0.mk (Kd.R_lower ho9 (below_size (by repeat (first | (with_reducible first | exact HB.out | apply below_alloc | apply pw_below_drewN | apply below_drew1) | exact HB.out)))); have n1_ := Aside0.mk (below_step (by repeat (first | (with_reducible first | exact HB.out | apply below_alloc | apply pw_below_drewN | apply below_drew1) | exact HB.out)) hb); clear HB; have HO121 := n0_; have HB := n1_; clear n0_ n1_; clear hb ho9; have hcv10 := own_string (P := Try.prog) Try.underlying84 Try.underlying5 Try.underlying9 (Kd.own_of_R HO121.out)))
          go_ret
          exact ⟨by first | rfl | (simp [errW_none, errW_some] <;> rfl) | (simp [*, errW_none, errW_some] <;> rfl), by repeat (first | (with_reducible first | exact HB.out | apply below_alloc | apply pw_below_drewN | apply below_drew1) | exact HB.out)⟩
        · rw [if_neg c7] at H
          exact absurd H (by simp)


end HU
open HU
theorem strOfNums_one (n : Nat) : strOfNums ([(n : Int)] : List Int) = ⟨#[UInt8.ofNat n]⟩ := rfl
theorem str_one_size (b : UInt8) : (⟨#[b]⟩ : ByteArray).size = 1 := rfl
theorem ofNat_mod (n : Nat) : UInt8.ofNat (n % 256) = UInt8.ofNat n := by
  apply UInt8.toNat_inj.1; simp
theorem encB_small {v : Nat} (h : v < 128) : encB v = ⟨#[UInt8.ofNat v]⟩ := by unfold encB; rw [encL_small h]
theorem encB_big {v : Nat} (h : ¬ v < 128) : encB v = ⟨#[UInt8.ofNat (v % 128 + 128)]⟩ ++ encB (v / 128) := by
  unfold encB; rw [encL_big h]
  apply ByteArray.ext
  simp [ByteArray.data_append]
theorem ba_assoc (a b c : ByteArray) : a ++ (b ++ c) = a ++ b ++ c := by
  apply ByteArray.ext
  simp [ByteArray.data_append]

theorem ruint_l0 : ∀ (d : Nat) (v : Nat) (acc : ByteArray) (k : Nat), v < 128 ^ (d + 1) → v < 18446744073709551616 → d < k → acc.size + d < 100 →
    wherryref01_Uint.l0 k (v : Int) acc = some (acc ++ encB v)
  | d, v, acc, k, hv, hv2, hk, ha => by
    obtain ⟨k, rfl⟩ : ∃ m, k = m + 1 := ⟨k - 1, by omega⟩
    rw [wherryref01_Uint.l0]
    by_cases h : v < 128
    · rw [if_neg (by omega), Option.bind_some, show ((v : Int) % 256) = ((v : Nat) : Int) by omega, strOfNums_one, str_one_size, if_pos (by omega), encB_small h]
    · have e1 : IntKind.u64.wrap (128 + Int.tmod (v : Int) 128) % 256 = ((v % 128 + 128 : Nat) : Int) := by
        rw [show Int.tmod (v : Int) 128 = ((v % 128 : Nat) : Int) from rfl, wraps_u64 _ (by omega) (by omega)]; omega
      have e2 : IntKind.u64.wrap (Int.tdiv (v : Int) 128) = ((v / 128 : Nat) : Int) := by
        rw [show Int.tdiv (v : Int) 128 = ((v / 128 : Nat) : Int) from rfl, wraps_u64 _ (by omega) (by omega)]
      rw [if_pos (by omega), Option.bind_some, e1, e2, strOfNums_one, str_one_size, if_pos (by omega)]
      obtain ⟨d, rfl⟩ : ∃ m, d = m + 1 := ⟨d - 1, by
        have : d ≠ 0 := by rintro rfl; simp at hv; omega
        omega⟩
      rw [ruint_l0 d (v / 128) _ k (by rw [Nat.div_lt_iff_lt_mul (by decide)]; rw [Nat.pow_succ] at hv; exact hv) (by omega) (by omega) (by rw [ByteArray.size_append, str_one_size]; omega)]
      rw [encB_big h, ba_assoc]
theorem ruint_f (v : Nat) (hv : v < 18446744073709551616) : wherryref01_Uint.f 12 (v : Int) = some (encB v) := by
  have := ruint_l0 9 v ⟨#[]⟩ 12 (by have : 18446744073709551616 ≤ 128 ^ 10 := by decide
                                    omega) hv (by omega) (by decide)
  unfold wherryref01_Uint.f
  rw [this]
  congr 1

theorem RUint_calls (v : Nat) (w : World) (hv : v < 18446744073709551616) :
    Calls Try.prog 44 #[.int .u64 v] w fun e w' => e = .returned (.string (encB v)) ∧ Below w.heap.size w w' :=
  wherryref01_Uint.calls 12 v (encB v) w (ruint_f v hv)
theorem RInt_calls (n : Int) (w : World) (h : -9223372036854775808 ≤ n) (h2 : n ≤ 9223372036854775807) :
    Calls Try.prog 45 #[.int .i64 n] w fun e w' => e = .returned (.string (encB (zig n))) ∧ Below w.heap.size w w' := by
  have hz := zig_lt n h h2
  have HU := Lib.hid (fun W => RUint_calls (zig n) W hz)
  by_cases hn : 0 ≤ n
  · have e : (zig n : Int) = 2 * n := by unfold zig; rw [if_pos hn]; omega
    generalize encB (zig n) = b at HU
    rw [e] at HU
    clear e hz
    go_enter Try.func45, Try.ntmps45
    go_wp2_with (go_at_call 44; refine (HU.out _).mono ?_; rintro e w' ⟨rfl, hb⟩)
    go_ret
    exact ⟨rfl, hb⟩
  · have e : (zig n : Int) = 2 * -(n + 1) + 1 := by unfold zig; rw [if_neg hn]; omega
    generalize encB (zig n) = b at HU
    rw [e] at HU
    clear e hz
    have hn2 : n < 0 := by omega
    clear hn
    go_enter Try.func45, Try.ntmps45
    go_wp2_with (go_at_call 44; refine (HU.out _).mono ?_; rintro e w' ⟨rfl, hb⟩)
    go_ret
    exact ⟨rfl, hb⟩
theorem RText_calls (s : ByteArray) (w : World) (hs : s.size ≤ 9223372036854775700) :
    Calls Try.prog 46 #[.string s] w fun e w' => e = .returned (.string (encB s.size ++ s)) ∧ Below w.heap.size w w' := by
  have HU := fun w' => RUint_calls s.size w' (by omega)
  have hb := (encB_le s.size (by omega)).1
  generalize encB s.size = b at HU hb ⊢
  have HU2 := Lib.hid HU
  clear HU
  have hz : b.size + s.size ≤ 9223372036854775807 := by omega
  go_enter Try.func46, Try.ntmps46
  go_wp2_with (go_at_call 44; refine (HU2.out _).mono ?_; rintro e w' ⟨rfl, hb⟩)
  go_ret
  exact ⟨rfl, hb⟩

/-- A row of bytes of one's own, made of a text: behind its cells the model keeps a mark. -/
def OwnsM (w : World) (base : Nat) (v : Value) (n : Nat) (xs : List Value) : Prop :=
  xs.length = n ∧ ((v = .slice none 0 0 ∧ n = 0) ∨
   ∃ g cap cur fz, v = .slice (some ⟨g, 0, none⟩) n cap ∧ base ≤ g ∧ w.heap[g]? = some (.cells cur 5 fz) ∧ (fz.2 = 0 ∨ cur.size ≤ fz.1) ∧ n ≤ cap ∧ cap ≤ maxLen ∧ cur.size = cap ∧ cur.toList.take n = xs)
theorem OwnsM.move {w w1 : World} {base n : Nat} {v : Value} {xs : List Value} (h : OwnsM w base v n xs) (hm : ∀ k, k < w.heap.size → w1.heap[k]? = w.heap[k]?) : OwnsM w1 base v n xs := by
  refine ⟨h.1, ?_⟩
  rcases h.2 with hn | ⟨g, cap, cur, fz, rfl, hb, hg, rest⟩
  · exact .inl hn
  · exact .inr ⟨g, cap, cur, fz, rfl, hb, (hm g (Array.getElem?_eq_some_iff.1 hg).1).trans hg, rest⟩
theorem OwnsM.base_le {w : World} {base n : Nat} {v : Value} {xs : List Value} (h : OwnsM w base v n xs) (k : Nat) (hk : v.ownBlock = some k) : base ≤ k := by
  rcases h.2 with ⟨rfl, _⟩ | ⟨g, cap, cur, fz, rfl, hb, _⟩
  · simp [Value.ownBlock] at hk
  · simp [Value.ownBlock] at hk; omega
theorem OwnsM.lower {w : World} {base base' n : Nat} {v : Value} {xs : List Value} (h : OwnsM w base v n xs) (hb : base' ≤ base) : OwnsM w base' v n xs := by
  refine ⟨h.1, ?_⟩
  rcases h.2 with hn | ⟨g, cap, cur, fz, rfl, h1, rest⟩
  · exact .inl hn
  · exact .inr ⟨g, cap, cur, fz, rfl, by omega, rest⟩
theorem OwnsM.cells {w : World} {base n : Nat} {v : Value} {xs : List Value} (h : OwnsM w base v n xs) {g : Nat} (hg : v.ownBlock = some g) : ∀ j u, xs[j]? = some u → w.cell? ((⟨g, 0, none⟩ : Addr).add j) = some u := by
  intro j u hu
  rcases h.2 with ⟨rfl, _⟩ | ⟨g', cap, cur, fz, rfl, _, hgg, _, _, _, _, htake⟩
  · simp [Value.ownBlock] at hg
  · simp [Value.ownBlock] at hg
    subst hg
    have hadd : (⟨g', 0, none⟩ : Addr).add j = ⟨g', j, none⟩ := by unfold Addr.add; split <;> simp_all
    rw [hadd, cell_of_row w g' j cur 5 fz hgg]
    rw [← htake, List.getElem?_take] at hu
    split at hu
    · simpa using hu
    · cases hu
theorem OwnsM.slice_ {w : World} {base n : Nat} {v : Value} {xs : List Value} (h : OwnsM w base v n xs) : ∃ ao cap, v = .slice ao n cap := by
  rcases h.2 with ⟨hv, h0⟩ | ⟨g, cap, cur, fz, hv, _⟩
  · exact ⟨none, 0, by rw [hv, h0]⟩
  · exact ⟨_, _, hv⟩

theorem storeCells_M (P : Program) (g o : Nat) (t : TypeId) (fz : Nat × Nat) : ∀ (vs : List Value) (i : Nat) (cur : Array Value) (w : World), w.heap[g]? = some (.cells cur t fz) → (fz.2 = 0 ∨ cur.size ≤ fz.1) → o + i + vs.length ≤ cur.size → (∀ v ∈ vs, v.oneCell' = true) →
    (storeCells ⟨g, o, none⟩ vs i).run P w = .ok () (w.setRow g (cur.toList.take (o + i) ++ vs ++ cur.toList.drop (o + i + vs.length)).toArray)
  | [], i, cur, w, hg, _, _, _ => by
    simp only [storeCells, List.append_nil, List.length_nil, Nat.add_zero, List.take_append_drop, Array.toArray_toList]
    rw [setRow_self w g cur t fz hg]
    rfl
  | v :: rest, i, cur, w, hg, hfz, hl, h1 => by
    have hi : o + i < cur.size := by simp at hl; omega
    have hadd : (⟨g, o, none⟩ : Addr).add i = ⟨g, o + i, none⟩ := by unfold Addr.add; split <;> simp_all
    have hcell : w.cell? ⟨g, o + i, none⟩ = some cur[o + i] := by simp [World.cell?, hg, hi]
    have hfro : w.frozen? ⟨g, o + i, none⟩ = false := by
      obtain ⟨lo, hi'⟩ := fz
      simp only [World.frozen?, hg, Bool.and_eq_false_iff, decide_eq_false_iff_not]
      simp only at hfz
      omega
    have hst : (store ((⟨g, o, none⟩ : Addr).add i) v).run P w = .ok () (w.setRow g (cur.setIfInBounds (o + i) v)) := by
      rw [hadd, run_store P w _ v _ (h1 v (by simp)), hcell]
      simp [hfro, setCell_eq_setRow w g (o + i) cur t fz v hg]
    have ih := storeCells_M P g o t fz rest (i + 1) (cur.setIfInBounds (o + i) v) (w.setRow g (cur.setIfInBounds (o + i) v)) (setRow_heap w g cur _ t _ hg) (by simpa using hfz) (by simp at hl ⊢; omega) (fun x hx => h1 x (by simp [hx]))
    simp only [storeCells, Sem.run_bind, hst, Result.andThen_ok, ih, setRow_setRow]
    congr 3
    have e := list_seg_step cur.toList (o + i) v rest (by simp at hl ⊢; omega)
    simpa [Array.toList_setIfInBounds, Nat.add_assoc] using e

section
variable {P : Program} (w : World)
theorem append_room_M (t u ty : TypeId) (i : TypeInfo) (ht : P.underlying t = some (.slice 5)) (hu : P.underlying u = some .string) (hi : P.info? 5 = some i) (hs1 : i.size = 1)
    (g sLen sCap : Nat) (cur : Array Value) (fz : Nat × Nat) (hg : w.heap[g]? = some (.cells cur 5 fz)) (hfz : fz.2 = 0 ∨ cur.size ≤ fz.1) (s : ByteArray)
    (hroom : sLen + s.size ≤ sCap) (hfit : sLen + s.size ≤ cur.size) :
    (Builtin.append_ #[t, u] ty #[.slice (some ⟨g, 0, none⟩) sLen sCap, .string s]).run P w =
      .ok (.slice (some ⟨g, 0, none⟩) (sLen + s.size) sCap) (w.setRow g (cur.toList.take sLen ++ Lib.strCells s ++ cur.toList.drop (sLen + s.size)).toArray) := by
  have hf := Lib.run_firstCells_string (P := P) w 1 s
  have hst := storeCells_M P g sLen 5 fz (Lib.strCells s) 0 cur w hg hfz (by simpa [Lib.strCells_length] using hfit) (Lib.strCells_oneCell s)
  simp only [Nat.add_zero, Lib.strCells_length] at hst
  simp [Builtin.append_, run_underlying ht, run_underlying hu, sizeOf, typeInfo, hi, hs1, Builtin.lenOf, hroom, hf, Addr.add_lit, hst]

theorem append_own_M (base : Nat) (t u ty : TypeId) (i : TypeInfo) (ht : P.underlying t = some (.slice 5)) (hu : P.underlying u = some .string) (hi : P.info? 5 = some i) (hz : i.zero = some (.int .u8 0))
    (hsize : i.size = 1) (hby : i.bytes = 1) (v : Value) (n : Nat) (xs : List Value) (hown : OwnsM w base v n xs) (s : ByteArray) (hbytes : n + s.size ≤ 140737488355328) (hbase : base ≤ w.heap.size) :
    ∃ v' w', (Builtin.append_ #[t, u] ty #[v, .string s]).run P w = .ok v' w' ∧ OwnsM w' base v' (n + s.size) (xs ++ Lib.strCells s) ∧ w.grownBy w' v.ownBlock ∧
      (v'.ownBlock = v.ownBlock ∨ ∃ b, v'.ownBlock = some b ∧ w.heap.size ≤ b) := by
  have h63 : n + s.size ≤ maxLen := by simp only [maxLen]; omega
  have hxl : xs.length = n := hown.1
  have hlen : (xs ++ Lib.strCells s).length = n + s.size := by rw [List.length_append, hxl, Lib.strCells_length]
  rcases hown.2 with ⟨rfl, rfl⟩ | ⟨g, cap, cur, fz, rfl, hbg, hg, hfz, hnc, hcm, hcs, htake⟩
  · obtain ⟨v', w', hr, h2, h3, h4⟩ := append_str_at (P := P) w base t u ty 5 i ht hu hi hz hsize hby (.slice none 0 0) 0 xs ⟨by simpa using hxl, .inl ⟨rfl, rfl⟩⟩ s hbytes hbase
    refine ⟨v', w', hr, ⟨hlen, ?_⟩, h3, h4⟩
    rcases h2.2 with hn | ⟨g, cap, cur, hv, hb, hg, h5, h6, h7, h8⟩
    · exact .inl hn
    · exact .inr ⟨g, cap, cur, (0, 0), hv, hb, hg, .inl rfl, h5, h6, by simpa using h7, by simpa using h8⟩
  · by_cases hroom : n + s.size ≤ cap
    · have hr := append_room_M (P := P) w t u ty i ht hu hi hsize g n cap cur fz hg hfz s hroom (by omega)
      have hsz : (cur.toList.take n ++ Lib.strCells s ++ cur.toList.drop (n + s.size)).toArray.size = cur.size := by
        simp only [List.size_toArray, List.length_append, List.length_take, List.length_drop, Array.length_toList, Lib.strCells_length]
        omega
      refine ⟨_, _, hr, ⟨hlen, .inr ⟨g, cap, _, fz, rfl, hbg, setRow_heap w g cur _ 5 _ hg, by rw [hsz]; exact hfz, hroom, hcm, by rw [hsz]; exact hcs, ?_⟩⟩, ⟨rfl, rfl, rfl, by simp, fun k _ hk => setRow_other w g k _ (fun e => hk (by simp [Value.ownBlock, e]))⟩, .inl rfl⟩
      rw [htake, ← hlen]
      exact List.take_left
    · have holds : ∀ j u, xs[j]? = some u → w.cell? ((⟨g, 0, none⟩ : Addr).add j) = some u := hown.cells (g := g) rfl
      have hr := Lib.run_append_grow_string (P := P) w t u ty 5 i (.int .u8 0) ht hu hi hz ⟨g, 0, none⟩ n cap xs (by rw [hsize]; simpa using hxl) holds s (by omega) (by simp only [maxLen] at h63; omega) (by rw [hby]; exact growslice_fits (by omega) (by omega))
      have hge := grownCap_ge w (n + s.size) cap 5
      have hcm2 : grownCap w (n + s.size) cap 5 ≤ maxLen := grownCap_le_maxLen w (n + s.size) cap 5 h63
      refine ⟨_, _, hr, ⟨hlen, .inr ⟨w.heap.size, _, _, (0, 0), rfl, hbase, heap_alloc_new w.drew _, .inl rfl, hge, hcm2, ?_, ?_⟩⟩, ⟨rfl, rfl, rfl, by simp, fun k hk _ => Below.heap_alloc w.drew _ k hk⟩, .inr ⟨w.heap.size, rfl, Nat.le_refl _⟩⟩
      · have hz1 : (Value.int IntKind.u8 0).cells.size = 1 := rfl
        simp only [Array.size_append, List.size_toArray, size_zeroCells, hz1, hxl, Lib.strCells_length]
        omega
      · simp only [Array.toList_append, List.append_assoc]
        rw [← List.append_assoc, ← hlen]
        exact List.take_left
theorem wpList_append_M {ops : Array Oper} {rest : List Oper} {o : Oper} {a : Act} {Q : Exit → Act → World → Prop} (hgd : o.guard = none) (sl x : Operand) (t u : TypeId)
    (ho : o.op = .call { callee := .builtin .append, args := #[sl, x], argTypes := #[t, u] })
    (base : Nat) (ht : P.underlying t = some (.slice 5)) (hu : P.underlying u = some .string) (hinfo : (P.info? 5).map (fun i => (i.zero, i.size, i.bytes)) = some (some (.int .u8 0), 1, 1))
    (v : Value) (n : Nat) (xs : List Value) (hs : a.eval sl = v) (hown : OwnsM w base v n xs) (s : ByteArray) (hx : a.eval x = .string s)
    (hbytes : n + s.size ≤ 140737488355328) (hbase : base ≤ w.heap.size)
    (h : ∀ v' w', OwnsM w' base v' (n + s.size) (xs ++ Lib.strCells s) → w.grownBy w' v.ownBlock → (v'.ownBlock = v.ownBlock ∨ ∃ b, v'.ownBlock = some b ∧ w.heap.size ≤ b) → wpList P ops Q rest (a.put o.dst v') w') : wpList P ops Q (o :: rest) a w := by
  obtain ⟨i, hi, hzz⟩ := Option.map_eq_some_iff.1 hinfo
  simp only [Prod.mk.injEq] at hzz
  obtain ⟨hz, hsize, hby⟩ := hzz
  refine wpList_plain hgd fun K hK => ?_
  obtain ⟨v', w', hr, h2, h3, h4⟩ := append_own_M (P := P) w base t u o.type i ht hu hi hz hsize hby v n xs hown s hbytes hbase
  unfold Oper.wp execOp
  simp only [ho, resolve, invoke, builtin, Sem.run_bind, Sem.run_pure, Result.andThen_ok, List.map_toArray, List.map_cons, List.map_nil, hs, hx, hr]
  exact hK _ _ (h v' w' h2 h3 h4)
end
theorem OwnsM.new (W : World) (s : ByteArray) (hs : s.size ≤ 9223372036854775807) : OwnsM (Lib.bytesWorld W 5 s) W.heap.size (.slice (some ⟨W.heap.size, 0, none⟩) s.size (grownCap W s.size 0 5)) s.size (Lib.strCells s) := by
  have hge := grownCap_ge W s.size 0 5
  have hcm : grownCap W s.size 0 5 ≤ maxLen := grownCap_le_maxLen W s.size 0 5 (by simp only [maxLen]; omega)
  refine ⟨Lib.strCells_length s, .inr ⟨W.heap.size, _, _, _, rfl, Nat.le_refl _, Lib.bytesWorld_at_new W 5 s, .inr (Nat.le_refl _), hge, hcm, ?_, ?_⟩⟩
  · have h1 : s.data.size = s.size := rfl
    simp only [Lib.bytesCells, Array.size_append, Array.size_map, Array.size_replicate]
    omega
  · have h1 : (Lib.strCells s).length = s.size := Lib.strCells_length s
    have h2 : (s.data.map fun b => Value.int .u8 b.toNat).toList = Lib.strCells s := by simp [Lib.strCells]
    simp only [Lib.bytesCells, Array.toList_append]
    rw [h2, List.take_append_of_le_length (by omega), List.take_of_length_le (by omega)]

theorem OwnsM.string {W : World} {base n : Nat} {v : Value} {l : List UInt8} (h : OwnsM W base v n (Lib.byteCells l)) (hn : n ≤ 9223372036854775807) :
    (convert 84 9 v).run Try.prog W = .ok (.string ⟨l.toArray⟩) W := by
  obtain ⟨ao, cap, rfl⟩ := h.slice_
  have hl : l.length = n := by have := h.1; rwa [Lib.byteCells_length] at this
  have := string_of_reads (P := Try.prog) (w := W) (src := 84) (dst := 9) (e := 5) (A := ao) (n := n) (c := cap) (xs := l.map fun b => (b.toNat : Int)) Try.underlying84 Try.underlying5 Try.underlying9 ⟨by simpa using hl, hn, fun h0 => ?_⟩
  · rw [this, strNums_map]
  · rcases h.2 with ⟨_, h1⟩ | ⟨g, cap2, cur, fz, hv, _⟩
    · omega
    · injection hv with e1 _ _
      subst e1
      refine ⟨⟨g, 0, none⟩, rfl, fun j hj => ?_⟩
      have := h.cells (g := g) rfl j (.int .u8 ((l[j]'(by omega)).toNat)) (by simp [Lib.byteCells, show j < l.length by omega])
      rw [this]
      simp [List.getD_eq_getElem?_getD, show j < l.length by omega]

set_option maxHeartbeats 1000000 in
set_option maxRecDepth 100000 in
theorem RList_calls (A : Option Addr) (c : Nat) (l : List ByteArray) (w : World) (hr : Kd.C Kd.string w A l.length l) (hsz : (encLs l).length ≤ 140737488355328) :
    Calls Try.prog 48 #[.slice A l.length c] w fun e w' => e = .returned (.string ⟨(encLs l).toArray⟩) ∧ Below w.heap.size w w' := by
  have hn : l.length ≤ 140737488355328 := by
    have := encTs_len l
    simp only [encLs, List.length_append] at hsz
    omega
  have hsz2 : (encL l.length).length + (encTs l).length ≤ 140737488355328 := by simpa [encLs] using hsz
  have HR := Lib.hid hr
  have HU := Lib.hid (fun W => RUint_calls l.length W (by omega))
  have kb := fun (W : World) => print_bytes (P := Try.prog) 9 84 5 Try.underlying9 Try.underlying84 Try.underlying5 (encB l.length) W
  have hes := encB_le l.length (by omega)
  have HD := Lib.hid (show Lib.strCells (encB l.length) = Lib.byteCells (encL l.length) by simp [Lib.strCells, Lib.byteCells, encB])
  have HES := Lib.hid (encB_size l.length)
  clear hr hsz
  obtain ⟨F, hF⟩ : ∃ F : List UInt8, F = encLs l := ⟨_, rfl⟩
  rw [← hF]
  have HF := Lib.hid hF
  clear hF
  go_enter Try.func48, Try.ntmps48
  go_wp2_with fail
  refine (HU.out _).mono ?_
  rintro e w1 ⟨rfl, hb1⟩
  have HB1 := Lib.hid hb1
  clear hb1 HU
  go_wp2_with fail
  clear kb
  have HO := OwnsM.new w1 (encB l.length) (by omega)
  rw [HD.out] at HO
  have HO1 := Lib.hid HO
  have HBS := Lib.hid HB1.out.size
  have HB2 := Lib.hid (bytes_below HB1.out HB1.out.size 5 (encB l.length))
  clear HO HB1
  go_loopw [3, 4] (fun v i W => ∃ k : Nat, k ≤ l.length ∧ i = .int .i64 k ∧ OwnsM W w.heap.size v (encL l.length ++ encTs (l.take k)).length (Lib.byteCells (encL l.length ++ encTs (l.take k))) ∧ Below w.heap.size w W) (fun _ i _ => l.length - (intOf i).toNat)
  case atStart => exact ⟨0, Nat.zero_le _, rfl, by rw [List.take_zero, show encTs [] = [] from rfl, List.append_nil, ← HES.out]; exact HO1.out.lower HBS.out, HB2.out⟩
  case round =>
    obtain ⟨k, hk, rfl, ho, hb⟩ := hrel
    have HO := Lib.hid ho
    have HB := Lib.hid hb
    clear ho hb HO1 HB2
    by_cases hlt : k < l.length
    · obtain ⟨ad, cs, hA, _, hK, hcell⟩ := Kd.C_get HR.out ⟨#[]⟩ (k : Int) (by omega) (by omega)
      subst hA
      have hs : l.getD (k : Int).toNat ⟨#[]⟩ = l[k] := by simp [List.getD, hlt]
      rw [hs] at hK
      obtain rfl : cs = [.string l[k]] := hK
      have c0 := hcell 0 _ rfl
      have hlen := encTs_take_le l (k + 1)
      rw [take_succ_get l k hlt, encTs_snoc, List.length_append, encT_len] at hlen
      have hsn : encTs (l.take (k + 1)) = encTs (l.take k) ++ encT l[k] := by rw [take_succ_get l k hlt, encTs_snoc]
      have HSN := Lib.hid hsn
      have hsz3 : l[k].size ≤ 140737488355328 := by
        have := encT_data l[k]
        have h1 : (encB l[k].size ++ l[k]).size = (encB l[k].size).size + l[k].size := by rw [ByteArray.size_append]
        omega
      have c1 : wr.cell? (ad.add k) = some (.string l[k]) := by
        have : w.cell? (ad.add ((k : Int).toNat * 1 + 0)) = some (.string l[k]) := c0
        rw [Int.toNat_natCast, Nat.mul_one, Nat.add_zero] at this
        have hb := HB.out
        exact (hb.cell (p := ad.add k) (World.block_lt_of_cell? w _ this)).trans this
      have HT := Lib.hid (fun W => RText_calls l[k] W (by omega))
      have HEN := Lib.hid (encT_data l[k])
      have HLE := Lib.hid hlen
      clear hs hcell c0 hlen hsn
      go_wp2_with fail
      refine (HT.out _).mono ?_
      rintro e w3 ⟨rfl, hb3⟩
      have HO2 := Lib.hid (HO.out.move (fun k hk => hb3.block k hk))
      have HB3 := Lib.hid (HB.out.trans (hb3.mono HB.out.size))
      clear hb3 HO HB
      go_wp2_with (at_builtin; refine wpList_append_M _ rfl _ _ 84 9 rfl w.heap.size Try.underlying84 Try.underlying9 infoB _ _ _ rfl HO2.out _ rfl ?c4 ?c5 ?_)
      case c4 => have := HLE.out; simp only [List.length_append]; omega
      case c5 => exact HB3.out.size
      intro v' w4 hown' hgrow _
      have HO3 := Lib.hid hown'
      have HB4 := Lib.hid (HB3.out.grown hgrow HB3.out.size (fun k hk => HO2.out.base_le k hk))
      obtain ⟨ao, cap, rfl⟩ := hown'.slice_
      clear hown' hgrow HO2 HB3
      go_wp2_with fail
      go_roundw
      case rel => exact ⟨k + 1, by omega, by go_num, by
        have e1 : (encL l.length ++ encTs (l.take (k + 1))).length = (encL l.length ++ encTs (l.take k)).length + (encB l[k].size ++ l[k]).size := by rw [HSN.out, ← List.append_assoc, List.length_append, encT_len]
        have e2 : Lib.byteCells (encL l.length ++ encTs (l.take (k + 1))) = Lib.byteCells (encL l.length ++ encTs (l.take k)) ++ Lib.strCells (encB l[k].size ++ l[k]) := by rw [HSN.out, ← List.append_assoc, Lib.byteCells_append, Lib.strCells_eq, HEN.out]
        rw [e1, e2, List.length_append, ByteArray.size_append]; exact HO3.out, HB4.out⟩
      case measure => simp [intOf]; omega
    · have hfin : encL l.length ++ encTs (l.take k) = F := by
        rw [HF.out, List.take_of_length_le (by omega)]; rfl
      rw [hfin] at HO
      have hFl : F.length ≤ 9223372036854775807 := by
        rw [HF.out]; simp only [encLs, List.length_append]; omega
      obtain ⟨ao, cap, hv⟩ := HO.out.slice_
      subst hv
      have hcv := HO.out.string hFl
      clear hfin
      go_wp2_with fail
      go_ret
      exact ⟨rfl, HB.out⟩

end Go.Proofs.Ytfemjlhfgmbcmaa
