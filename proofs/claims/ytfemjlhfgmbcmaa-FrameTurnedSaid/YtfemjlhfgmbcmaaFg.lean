/- The walk of FrameSums; a text as a row of bytes, one of them turned. -/
import Derived.Test.YtfemjlhfgmbcmaaFf
namespace Go.Proofs.Ytfemjlhfgmbcmaa
open Go.RowKit Go.Proofs.YtfemjlhfgmbcmaaW.PrintWords Go.Proofs.YtfemjlhfgmbcmaaW.PrintLast Go.Proofs.YtfemjlhfgmbcmaaW.PrintMore

def BytesAt (W : World) (g : Nat) (l : List UInt8) : Prop := ∃ (cs : Array Value) (m : Nat), W.heap[g]? = some (.cells cs 5 (m, m + 1)) ∧ l.length ≤ m ∧ ∀ j (hj : j < l.length), cs[j]? = some (.int .u8 (l[j].toNat : Int))
theorem BytesAt.cell {W : World} {g : Nat} {l : List UInt8} (h : BytesAt W g l) (j : Nat) (hj : j < l.length) : W.cell? ⟨g, j, none⟩ = some (.int .u8 (l[j].toNat : Int)) := by
  obtain ⟨cs, m, h1, h2, h3⟩ := h
  have := h3 j hj
  simp [World.cell?, h1, this]
theorem BytesAt.frozen {W : World} {g : Nat} {l : List UInt8} (h : BytesAt W g l) (j : Nat) (hj : j < l.length) : W.frozen? ⟨g, j, none⟩ = false := by
  obtain ⟨cs, m, h1, h2, h3⟩ := h
  simp [World.frozen?, h1]
  omega
theorem BytesAt.new (W : World) (s : ByteArray) : BytesAt (Lib.bytesWorld W 5 s) W.heap.size s.data.toList := by
  refine ⟨_, _, Lib.bytesWorld_at_new W 5 s, ?_, fun j hj => ?_⟩
  · simp only [Lib.bytesCells, Array.size_append, Array.size_map, Array.length_toList]; omega
  · have hj2 : j < s.data.size := by simpa using hj
    simp only [Lib.bytesCells]
    rw [Array.getElem?_append_left (by simpa using hj2), Array.getElem?_map, Array.getElem?_eq_getElem hj2]
    simp
theorem BytesAt.below {W W' : World} {g : Nat} {l : List UInt8} (h : BytesAt W g l) (hb : Below W.heap.size W W') : BytesAt W' g l := by
  obtain ⟨cs, m, h1, h2, h3⟩ := h
  exact ⟨cs, m, (hb.block g (Array.getElem?_eq_some_iff.1 h1).1).trans h1, h2, h3⟩
theorem BytesAt.set {W : World} {g : Nat} {l : List UInt8} (h : BytesAt W g l) (i : Nat) (x : UInt8) : BytesAt (W.setCell ⟨g, i, none⟩ (.int .u8 (x.toNat : Int))) g (l.set i x) := by
  obtain ⟨cs, m, h1, h2, h3⟩ := h
  refine ⟨cs.setIfInBounds i (.int .u8 (x.toNat : Int)), m, ?_, by simpa using h2, fun j hj => ?_⟩
  · have hg := (Array.getElem?_eq_some_iff.1 h1).1
    have ha : W.heap[g] = .cells cs 5 (m, m + 1) := by rw [Array.getElem?_eq_getElem hg] at h1; exact Option.some.inj h1
    show (W.heap.modify g _)[g]? = _
    rw [Array.getElem?_eq_getElem (by simpa using hg), Array.getElem_modify_self, ha]
    rfl
  · have hj2 : j < l.length := by simpa using hj
    have hc := h3 j hj2
    have hjs := (Array.getElem?_eq_some_iff.1 hc).1
    rw [Array.getElem?_setIfInBounds]
    by_cases he : i = j
    · subst he
      rw [if_pos rfl, if_pos hjs]
      simp
    · rw [if_neg he, hc]
      simp [List.getElem_set, he]
theorem BytesAt.string {W : World} {g : Nat} {l : List UInt8} (h : BytesAt W g l) (n cap : Nat) (hn : l.length = n) : (convert 84 9 (.slice (some ⟨g, 0, none⟩) n cap)).run Try.prog W = .ok (.string ⟨l.toArray⟩) W := by
  subst hn
  refine run_convert_bytes_back (P := Try.prog) W 84 9 5 ⟨g, 0, none⟩ cap l Try.underlying84 Try.underlying5 Try.underlying9 (fun j hj => ?_)
  have ha : (⟨g, 0, none⟩ : Addr).add j = ⟨g, j, none⟩ := by unfold Addr.add; split <;> simp_all
  rw [ha]
  exact h.cell j hj
theorem set_split (s : ByteArray) (a : Nat) (h : a < s.size) (x : UInt8) : s.data.toList = s.data.toList.take a ++ s[a] :: s.data.toList.drop (a + 1) ∧ s.data.toList.set a x = s.data.toList.take a ++ x :: s.data.toList.drop (a + 1) := by
  constructor
  · rw [← drop_at s a h, List.take_append_drop]
  · rw [List.set_eq_take_append_cons_drop, if_pos (by simpa using h)]
theorem turn_ne (b : UInt8) (x : Nat) (hx : x < 256) (h0 : x ≠ 0) : b ≠ UInt8.ofNat (b.toNat ^^^ x) := by
  intro e
  have hb := b.toNat_lt
  have := congrArg UInt8.toNat e
  rw [UInt8.toNat_ofNat', Nat.mod_eq_of_lt (Nat.xor_lt_two_pow (n := 8) hb hx)] at this
  have h2 : b.toNat ^^^ 0 = b.toNat ^^^ x := by rw [Nat.xor_zero]; exact this
  exact h0 (xcl h2).symm
theorem turn_nat (b : UInt8) (x : Nat) (hx : x < 256) : bits .xor .u8 ((b.toNat : Nat) : Int) (x : Int) = (((UInt8.ofNat (b.toNat ^^^ x)).toNat : Nat) : Int) := by
  have hb := b.toNat_lt
  rw [xor_nat .u8 8 (by decide) wraps_u8 _ _ hb hx, UInt8.toNat_ofNat', Nat.mod_eq_of_lt (Nat.xor_lt_two_pow (n := 8) hb hx)]

set_option maxHeartbeats 1000000 in
set_option maxRecDepth 100000 in
theorem sums_fin (s : ByteArray) (pl bv : Int) (w : World) (hs : s.size ≤ maxLen) :
    Calls Try.prog 15 #[.string s, .int .i64 pl, .int .i64 bv] w fun e w' => e = .returned (.bool true) ∧ Below w.heap.size w w' := by
  unfold maxLen at hs
  have H0 := Lib.hid (Below.refl w.heap.size w)
  by_cases c1 : pl < 0
  · go_enter Try.func15, Try.ntmps15
    go_wp2_with fail
    refine (shown5_calls _).mono ?_
    rintro e w1 ⟨rfl, hb⟩
    have H1 := Lib.hid (bstep H0.out hb)
    clear hb H0
    go_wp2_with fail
    go_ret
    exact ⟨rfl, H1.out⟩
  obtain ⟨a, rfl⟩ := Int.eq_ofNat_of_zero_le (show 0 ≤ pl by omega)
  by_cases c2 : (s.size : Int) ≤ (a : Int)
  · go_enter Try.func15, Try.ntmps15
    go_wp2_with fail
    refine (shown5_calls _).mono ?_
    rintro e w1 ⟨rfl, hb⟩
    have H1 := Lib.hid (bstep H0.out hb)
    clear hb H0
    go_wp2_with fail
    go_ret
    exact ⟨rfl, H1.out⟩
  by_cases c3 : bv.tmod 256 = 0
  · go_enter Try.func15, Try.ntmps15
    go_wp2_with fail
    refine (shown5_calls _).mono ?_
    rintro e w1 ⟨rfl, hb⟩
    have H1 := Lib.hid (bstep H0.out hb)
    clear hb H0
    go_wp2_with fail
    go_ret
    exact ⟨rfl, H1.out⟩
  have c3b : (bv.tmod 256 == 0) = false := by simpa using c3
  by_cases c4 : (100000 : Int) < s.size
  · clear c3
    go_enter Try.func15, Try.ntmps15
    go_wp2_with fail
    refine (shown5_calls _).mono ?_
    rintro e w1 ⟨rfl, hb⟩
    have H1 := Lib.hid (bstep H0.out hb)
    clear hb H0
    go_wp2_with fail
    go_ret
    exact ⟨rfl, H1.out⟩
  have hcv := fun W => print_bytes (P := Try.prog) 9 84 5 Try.underlying9 Try.underlying84 Try.underlying5 s W
  obtain ⟨x, hx⟩ := Int.eq_ofNat_of_zero_le (show 0 ≤ bv % 256 by omega)
  have hx2 : x < 256 := by omega
  have hx0 : x ≠ 0 := by
    rintro rfl
    exact c3 (Int.tmod_eq_zero_of_dvd (Int.dvd_of_emod_eq_zero hx))
  have ha : a < s.size := by omega
  have hw8 : IntKind.u8.wrap bv = (x : Int) := by rw [IntKind.wrap_u8]; exact hx
  have hu8 := turn_nat s[a] x hx2
  have hne := turn_ne s[a] x hx2 hx0
  generalize UInt8.ofNat (s[a].toNat ^^^ x) = nb at hu8 hne
  obtain ⟨p1, p2⟩ := set_split s a ha nb
  have hsum := sumN_one _ _ _ _ s ⟨(s.data.toList.set a nb).toArray⟩ p1 (by simpa using p2) hne
  have hcell : (s.data.toList)[a]'(by simpa using ha) = s[a] := rfl
  have D1 := Lib.hid (fun W => Sum_calls s W (by unfold maxLen; omega))
  have D2 := Lib.hid (fun W => Sum_calls ⟨(s.data.toList.set a nb).toArray⟩ W (by unfold maxLen; show (s.data.toList.set a nb).toArray.size ≤ _; simp; have : s.data.size = s.size := rfl; omega))
  have D3 := Lib.hid (fun W => refSum_b s W (by unfold maxLen; omega))
  generalize sumN s = X at hsum D1 D3
  have hl : (s.data.toList.set a nb).length = s.size := by simp
  have HT := Lib.hid (fun (W W' : World) (hb : Below ((Lib.bytesWorld W 5 s).setCell ⟨W.heap.size, a, none⟩ (.int .u8 (nb.toNat : Int))).heap.size ((Lib.bytesWorld W 5 s).setCell ⟨W.heap.size, a, none⟩ (.int .u8 (nb.toNat : Int))) W') => (((BytesAt.new W s).set a nb).below hb).string s.size (grownCap W s.size 0 5) hl)
  generalize sumN ⟨(s.data.toList.set a nb).toArray⟩ = Y at hsum D2
  have hXY : ((X : Int) != (Y : Int)) = true := by simpa using fun e => hsum (by omega)
  have hlt : a < s.data.toList.length := by simpa using ha
  have HC := Lib.hid (fun (W : World) => (BytesAt.new W s).cell a hlt)
  have HF := Lib.hid (fun (W : World) => (BytesAt.new W s).frozen a hlt)
  have e1 : decide ((a : Int) < 0) = false := by simp
  have e2 : decide (s.size ≤ a) = false := by simp; omega
  have e3 : decide ((100000 : Int) < s.size) = false := by simp; omega
  have e4 : (a : Int) < s.size := by omega
  have hb1 := Lib.hid (fun (W : World) (h : Below w.heap.size w W) => below_set (g := W.heap.size) (j := a) (v := .int .u8 (nb.toNat : Int)) (bytes_below h h.size 5 s) h.size)
  clear c3 hx hsum p1 p2 hne hcell
  go_enter Try.func15, Try.ntmps15
  go_wp2_with fail
  refine (shown5_calls _).mono ?_
  rintro e w1 ⟨rfl, hb⟩
  have H1 := Lib.hid (bstep H0.out hb)
  have k0 := HC.out w1
  have k1 := HF.out w1
  change _ = some (Value.int .u8 ((s[a].toNat : Nat) : Int)) at k0
  clear hb H0
  have H2 := Lib.hid (hb1.out w1 H1.out)
  go_wp2_with fail
  clear hcv
  refine (D1.out _).mono ?_
  rintro e w2 ⟨rfl, hb⟩
  have H3 := Lib.hid (bstep H2.out hb)
  have hs2 := HT.out w1 w2 hb
  clear hb H2 H1 k0 k1
  go_wp2_with fail
  refine (D2.out _).mono ?_
  rintro e w3 ⟨rfl, hb⟩
  have H4 := Lib.hid (bstep H3.out hb)
  clear hb H3 hs2
  go_wp2_with fail
  refine (D3.out _).mono ?_
  rintro e w4 ⟨rfl, hb⟩
  have H5 := Lib.hid (bstep H4.out hb)
  clear hb H4
  go_wp2_with fail
  go_ret
  exact ⟨rfl, H5.out⟩
end Go.Proofs.Ytfemjlhfgmbcmaa
