/- wire.List: its walk. -/
import Derived.Test.YtfemjlhfgmbcmaaKa
namespace Go.Proofs.Ytfemjlhfgmbcmaa
open Go.RowKit Go.Proofs.YtfemjlhfgmbcmaaW.PrintWords Go.Proofs.YtfemjlhfgmbcmaaW.PrintLast Go.Proofs.YtfemjlhfgmbcmaaW.PrintMore

/-- A text's bytes, a list's. -/
def encT (s : ByteArray) : List UInt8 := encL s.size ++ s.data.toList
def encTs (l : List ByteArray) : List UInt8 := l.flatMap encT
def encLs (l : List ByteArray) : List UInt8 := encL l.length ++ encTs l
theorem encTs_snoc (l : List ByteArray) (s : ByteArray) : encTs (l ++ [s]) = encTs l ++ encT s := by simp [encTs]
theorem encT_data (s : ByteArray) : (encB s.size ++ s).data.toList = encT s := by simp [encT, encB]
theorem encT_len (s : ByteArray) : (encT s).length = (encB s.size ++ s).size := by rw [← encT_data]; exact (Lib.size_eq _).symm
theorem encTs_take_le (l : List ByteArray) (k : Nat) : (encTs (l.take k)).length ≤ (encTs l).length := by
  have : encTs l = encTs (l.take k) ++ encTs (l.drop k) := by simp only [encTs]; rw [← List.flatMap_append, List.take_append_drop]
  rw [this, List.length_append]; omega
theorem encL_pos (v : Nat) : 1 ≤ (encL v).length := by
  by_cases h : v < 128
  · rw [encL_small h]; simp
  · rw [encL_big h]; simp
theorem encTs_len : ∀ (l : List ByteArray), l.length ≤ (encTs l).length
  | [] => by simp
  | s :: l => by
    have := encTs_len l
    have h2 := encL_pos s.size
    simp only [encTs, List.flatMap_cons, List.length_append, List.length_cons, encT] at this ⊢
    omega
theorem take_succ_get (l : List ByteArray) (k : Nat) (h : k < l.length) : l.take (k + 1) = l.take k ++ [l[k]] := by
  rw [List.take_succ_eq_append_getElem h]
theorem lies128 : liesAt Try.prog Try.prog.depth 128 ((#[Value.pointer none, Value.slice none 0 0] : Array Value).size / Try.prog.cellsOf 128) 0 128 1 = true := by kernel_rfl

/-- A builder at the head of a block of its own. -/
structure BdOne (w0 : World) (b : Nat) (p : Value) (l : List UInt8) (W : World) : Prop where
  own : ∃ v, W.heap[b]? = some (.cells #[p, v] 128 (0, 0)) ∧ W.ownsRow w0.heap.size 5 1 v l.length (Lib.byteCells l)
  below : Below w0.heap.size w0 W
  lo : w0.heap.size ≤ b

theorem BdOne.write {w0 : World} {b : Nat} {p : Value} {l : List UInt8} {W : World} (h : BdOne w0 b p l W) (hp : p = .pointer none ∨ p = .pointer (some ⟨b, 0, none⟩)) (s : ByteArray) (hl : l.length + s.size ≤ 140737488355328) :
    Calls Try.prog 91 #[.pointer (some ⟨b, 0, none⟩), .string s] W fun e w' => e = .returned (.tuple #[.int .i64 s.size, .nilIface]) ∧ BdOne w0 b (.pointer (some ⟨b, 0, none⟩)) (l ++ s.data.toList) w' := by
  obtain ⟨⟨v, hb, ho⟩, hB, hlo⟩ := h
  refine (BWrite b 0 128 #[p, v] s w0.heap.size l.length v (Lib.byteCells l) W hb (by rcases hp with rfl | rfl <;> simp) rfl (by decide) ho hl hB.size lies128).mono ?_
  rintro e w' ⟨rfl, v', h1, h2, _, h4⟩
  refine ⟨rfl, ⟨v', h1, ?_⟩, ?_, hlo⟩
  · rw [Lib.byteCells_append, ← Lib.strCells_eq]
    have : (l ++ s.data.toList).length = l.length + s.size := by rw [List.length_append, ← Lib.size_eq]
    rw [this]; exact h2
  · exact h4.toBelow hB (fun k hk => by rcases hk with rfl | hk; exact hlo; exact own_base ho k hk) hB.size

theorem BdOne.move {w0 : World} {b : Nat} {p : Value} {l : List UInt8} {W W1 : World} (h : BdOne w0 b p l W) (hb : Below W.heap.size W W1) : BdOne w0 b p l W1 := by
  obtain ⟨⟨v, h1, h2⟩, h3, h4⟩ := h
  exact ⟨⟨v, (hb.block b (blk_lt h1)).trans h1, own_move h2 (fun k hk => hb.block k (own_lt h2 k hk))⟩, h3.trans (hb.mono h3.size), h4⟩

set_option maxRecDepth 100000 in
theorem WList_calls (A : Option Addr) (c : Nat) (l : List ByteArray) (w : World) (hr : Kd.C Kd.string w A l.length l) (hsz : (encLs l).length ≤ 140737488355328) :
    Calls Try.prog 47 #[.slice A l.length c] w fun e w' => e = .returned (.string ⟨(encLs l).toArray⟩) ∧ Below w.heap.size w w' := by
  have hn : l.length ≤ 140737488355328 := by
    have := encTs_len l
    simp only [encLs, List.length_append] at hsz
    omega
  have hsz2 : (encL l.length).length + (encTs l).length ≤ 140737488355328 := by simpa [encLs] using hsz
  have HR := Lib.hid hr
  have HU := Lib.hid (fun W => WUint_calls l.length W (by omega))
  have h0 : BdOne w w.heap.size (.pointer none) [] (w.alloc (.cells #[.pointer none, .slice none 0 0] 128)) :=
    ⟨⟨_, heap_alloc_new _ _, World.ownsRow_nil _ _ _ _⟩, (Below.refl _ _).alloc (Nat.le_refl _) _, Nat.le_refl _⟩
  have H0 := Lib.hid h0
  obtain ⟨b, hb⟩ : ∃ b, b = w.heap.size := ⟨_, rfl⟩
  clear hr h0 hsz
  obtain ⟨F, hF⟩ : ∃ F : List UInt8, F = encLs l := ⟨_, rfl⟩
  rw [← hF]
  have HF := Lib.hid hF
  clear hF
  go_enter Try.func47, Try.ntmps47
  go_wp2_with fail
  refine (HU.out _).mono ?_
  rintro e w1 ⟨rfl, hb1⟩
  have H1 := Lib.hid (H0.out.move hb1)
  rw [← hb] at H1 ⊢
  have HBE := Lib.hid hb
  clear hb hb1 H0 HU
  go_wp2_with fail
  refine (H1.out.write (.inl rfl) _ (by rw [encB_size]; simp only [List.length_nil]; omega)).mono ?_
  rintro e w2 ⟨rfl, h2⟩
  have H2 := Lib.hid h2
  clear h2 H1
  go_wp2_with fail
  rw [List.nil_append, show (encB l.length).data.toList = encL l.length by simp [encB]] at H2
  go_loopw [13] (fun i W => ∃ k : Nat, k ≤ l.length ∧ i = .int .i64 k ∧ BdOne w b (.pointer (some ⟨b, 0, none⟩)) (encL l.length ++ encTs (l.take k)) W) (fun i _ => l.length - (intOf i).toNat)
  case atStart => exact ⟨0, Nat.zero_le _, rfl, by simpa [encTs] using H2.out⟩
  case round =>
    obtain ⟨k, hk, rfl, h3⟩ := hrel
    have H3 := Lib.hid h3
    clear h3 H2
    by_cases hlt : k < l.length
    · obtain ⟨ad, cs, hA, _, hK, hcell⟩ := Kd.C_get HR.out ⟨#[]⟩ (k : Int) (by omega) (by omega)
      subst hA
      have hs : l.getD (k : Int).toNat ⟨#[]⟩ = l[k] := by simp [List.getD, hlt]
      rw [hs] at hK
      obtain rfl : cs = [.string l[k]] := hK
      have c0 := hcell 0 _ rfl
      have hlen := encTs_take_le l (k + 1)
      rw [take_succ_get l k hlt, encTs_snoc, List.length_append, encT_len] at hlen
      have hsn : encTs (l.take (k + 1)) = encTs (l.take k) ++ encT l[k] := by rw [take_succ_get l k hlt, encTs_snoc]
      have HSN := Lib.hid hsn
      have hsz3 : l[k].size ≤ 140737488355328 := by
        have := encT_data l[k]
        have h1 : (encB l[k].size ++ l[k]).size = (encB l[k].size).size + l[k].size := by rw [ByteArray.size_append]
        omega
      have c1 : wr.cell? (ad.add k) = some (.string l[k]) := by
        have : w.cell? (ad.add ((k : Int).toNat * 1 + 0)) = some (.string l[k]) := c0
        rw [Int.toNat_natCast, Nat.mul_one, Nat.add_zero] at this
        have hb := H3.out.below
        exact (hb.cell (p := ad.add k) (World.block_lt_of_cell? w _ this)).trans this
      have HT := Lib.hid (fun W => WText_calls l[k] W (by omega))
      have HEN := Lib.hid (encT_data l[k])
      have HLE := Lib.hid hlen
      clear hs hcell c0 hlen hsn
      go_wp2_with fail
      refine (HT.out _).mono ?_
      rintro e w3 ⟨rfl, hb3⟩
      have H4 := Lib.hid (H3.out.move hb3)
      clear hb3 H3
      go_wp2_with fail
      refine (H4.out.write (.inr rfl) _ (by have := HLE.out; simp only [List.length_append]; omega)).mono ?_
      rintro e w4 ⟨rfl, h5⟩
      have H5 := Lib.hid h5
      clear h5 H4
      go_wp2_with fail
      go_roundw
      case rel => exact ⟨k + 1, by omega, by go_num, by rw [HSN.out, ← List.append_assoc, ← HEN.out]; exact H5.out⟩
      case measure => simp [intOf]; omega
    · have hfin : encL l.length ++ encTs (l.take k) = F := by
        rw [HF.out, List.take_of_length_le (by omega)]; rfl
      rw [hfin] at H3
      have HB := H3.out.below
      obtain ⟨v, hv1, hv2⟩ := H3.out.own
      have HS := Lib.hid (BString b 0 128 #[.pointer (some ⟨b, 0, none⟩), v] w.heap.size v F wr hv1 rfl hv2)
      have HV := Lib.hid hv2
      have HBH := Lib.hid HB
      clear hfin hv1 hv2 HB
      go_wp2_with fail
      refine HS.out.mono ?_
      rintro e w3 ⟨rfl, ho⟩
      have HO := Lib.hid ho
      clear ho
      go_wp2_with fail
      go_ret
      exact ⟨rfl, HO.out.toBelow HBH.out (fun k hk => own_base HV.out k hk) HBH.out.size⟩
end Go.Proofs.Ytfemjlhfgmbcmaa
