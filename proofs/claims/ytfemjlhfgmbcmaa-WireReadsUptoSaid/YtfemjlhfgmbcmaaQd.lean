/- The reader and the reference's, side by side, and a box of three numbers. Laid by gen_qd.py (this session's own program). -/
import Derived.Test.YtfemjlhfgmbcmaaQc
namespace Go.Proofs.Ytfemjlhfgmbcmaa
open Go.RowKit Go.Proofs.YtfemjlhfgmbcmaaW.PrintWords Go.Proofs.YtfemjlhfgmbcmaaW.PrintLast Go.Proofs.YtfemjlhfgmbcmaaW.PrintMore

def BoxIs (W : World) (b : Nat) (x0 x1 x2 : Int) : Prop := W.heap[b]? = some (.cells #[.int .i64 x0, .int .i64 x1, .int .i64 x2] 68 (0, 0))
structure Two (w0 W : World) (g h b : Nat) (s : ByteArray) (e : Int) (s' : ByteArray) (e' : Int) (x0 x1 x2 : Int) : Prop where
  r : RdIs W g s e
  q : RfIs W h s' e'
  bx : BoxIs W b x0 x1 x2
  low : Below w0.heap.size w0 W
  hg : w0.heap.size ≤ g
  hh : w0.heap.size ≤ h
namespace Two
variable {w0 W W' : World} {g h b : Nat} {s s' : ByteArray} {e e' : Int} {x0 x1 x2 : Int}
theorem ne (t : Two w0 W g h b s e s' e' x0 x1 x2) : g ≠ h := by
  rintro rfl
  have h1 := t.r; have h2 := t.q
  unfold RdIs at h1; unfold RfIs at h2
  rw [h1] at h2
  injection h2 with h2; injection h2 with _ h2; exact absurd h2 (by decide)
theorem nb (t : Two w0 W g h b s e s' e' x0 x1 x2) : b ≠ g := by
  rintro rfl
  have h1 := t.r; have h2 := t.bx
  unfold RdIs at h1; unfold BoxIs at h2
  rw [h1] at h2
  injection h2 with h2; injection h2 with _ h2; exact absurd h2 (by decide)
theorem nb' (t : Two w0 W g h b s e s' e' x0 x1 x2) : b ≠ h := by
  rintro rfl
  have h1 := t.q; have h2 := t.bx
  unfold RfIs at h1; unfold BoxIs at h2
  rw [h1] at h2
  injection h2 with h2; injection h2 with _ h2; exact absurd h2 (by decide)
theorem lt (t : Two w0 W g h b s e s' e' x0 x1 x2) : b < W.heap.size := (Array.getElem?_eq_some_iff.1 t.bx).1
theorem onG (t : Two w0 W g h b s e s' e' x0 x1 x2) {s1 : ByteArray} {e1 : Int} (hr : RdIs W' g s1 e1) (ho : Only g W W') : Two w0 W' g h b s1 e1 s' e' x0 x1 x2 :=
  ⟨hr, ho.blk t.q t.ne.symm, ho.blk t.bx t.nb, ho.toBelow t.low t.hg t.low.size, t.hg, t.hh⟩
theorem onH (t : Two w0 W g h b s e s' e' x0 x1 x2) {s1 : ByteArray} {e1 : Int} (hr : RfIs W' h s1 e1) (ho : Only h W W') : Two w0 W' g h b s e s1 e1 x0 x1 x2 :=
  ⟨ho.blk t.r t.ne, hr, ho.blk t.bx t.nb', ho.toBelow t.low t.hh t.low.size, t.hg, t.hh⟩
theorem below (t : Two w0 W g h b s e s' e' x0 x1 x2) (hb : Below W.heap.size W W') : Two w0 W' g h b s e s' e' x0 x1 x2 :=
  ⟨t.r.below hb, t.q.below hb, (hb.block b t.lt).trans t.bx, t.low.trans (hb.mono t.low.size), t.hg, t.hh⟩
theorem b0 (t : Two w0 W g h b s e s' e' x0 x1 x2) : W.cell? ⟨b, 0, none⟩ = some (.int .i64 x0) := by have := t.bx; unfold BoxIs at this; simp [World.cell?, this]
theorem b1 (t : Two w0 W g h b s e s' e' x0 x1 x2) : W.cell? ⟨b, 1, none⟩ = some (.int .i64 x1) := by have := t.bx; unfold BoxIs at this; simp [World.cell?, this]
theorem b2 (t : Two w0 W g h b s e s' e' x0 x1 x2) : W.cell? ⟨b, 2, none⟩ = some (.int .i64 x2) := by have := t.bx; unfold BoxIs at this; simp [World.cell?, this]
end Two

/-- A list of texts in memory that belongs to neither reader. -/
def RowIs (w0 W : World) (g h : Nat) (v : Value) (l : List ByteArray) : Prop := Kd.R Kd.string 9 W w0.heap.size (fun k => k ≠ g ∧ k ≠ h) v l
theorem row_of {w0 W W' : World} {g h b : Nat} {s s' : ByteArray} {e e' : Int} {x0 x1 x2 : Int} (t : Two w0 W' g h b s e s' e' x0 x1 x2) (hs : w0.heap.size ≤ W.heap.size) {v : Value} {l : List ByteArray} (hr : Kd.R Kd.string 9 W' W.heap.size (fun _ => True) v l) : RowIs w0 W' g h v l :=
  Kd.R_mono (Kd.R_lower (Kd.R_types (Kd.R_types hr t.r (by decide)) t.q (by decide)) hs) (fun _ hk => ⟨hk.1.2, hk.2⟩)

theorem Uint_two {w0 W : World} {g h b : Nat} {s s' : ByteArray} {e e' : Int} {x0 x1 x2 : Int} (t : Two w0 W g h b s e s' e' x0 x1 x2) (hs : s.size ≤ 1048576) : Calls Try.prog 30 #[.pointer (some ⟨g, 0, none⟩)] W fun x W' => x = .returned (.int .u64 (uintR s e).1) ∧ Two w0 W' g h b (uintR s e).2.1 (uintR s e).2.2 s' e' x0 x1 x2 :=
  (Uint_calls g s e W (by unfold maxLen; omega) t.r).mono fun _ _ h => ⟨h.1, t.onG h.2.1 h.2.2⟩
theorem refUint_two {w0 W : World} {g h b : Nat} {s s' : ByteArray} {e e' : Int} {x0 x1 x2 : Int} (t : Two w0 W g h b s e s' e' x0 x1 x2) (hs : s'.size ≤ 1048576) : Calls Try.prog 51 #[.pointer (some ⟨h, 0, none⟩)] W fun x W' => x = .returned (.int .u64 (uintR s' e').1) ∧ Two w0 W' g h b s e (uintR s' e').2.1 (uintR s' e').2.2 x0 x1 x2 :=
  (refUint_calls h s' e' W (by unfold maxLen; omega) t.q).mono fun _ _ h => ⟨h.1, t.onH h.2.1 h.2.2⟩

theorem Int_two {w0 W : World} {g h b : Nat} {s s' : ByteArray} {e e' : Int} {x0 x1 x2 : Int} (t : Two w0 W g h b s e s' e' x0 x1 x2) (hs : s.size ≤ 1048576) : Calls Try.prog 52 #[.pointer (some ⟨g, 0, none⟩)] W fun x W' => x = .returned (.int .i64 (intR s e).1) ∧ Two w0 W' g h b (intR s e).2.1 (intR s e).2.2 s' e' x0 x1 x2 :=
  (Int_calls g s e W (by unfold maxLen; omega) t.r).mono fun _ _ h => ⟨h.1, t.onG h.2.1 h.2.2⟩
theorem refInt_two {w0 W : World} {g h b : Nat} {s s' : ByteArray} {e e' : Int} {x0 x1 x2 : Int} (t : Two w0 W g h b s e s' e' x0 x1 x2) (hs : s'.size ≤ 1048576) : Calls Try.prog 53 #[.pointer (some ⟨h, 0, none⟩)] W fun x W' => x = .returned (.int .i64 (intR s' e').1) ∧ Two w0 W' g h b s e (intR s' e').2.1 (intR s' e').2.2 x0 x1 x2 :=
  (refInt_calls h s' e' W (by unfold maxLen; omega) t.q).mono fun _ _ h => ⟨h.1, t.onH h.2.1 h.2.2⟩

theorem Byte_two {w0 W : World} {g h b : Nat} {s s' : ByteArray} {e e' : Int} {x0 x1 x2 : Int} (t : Two w0 W g h b s e s' e' x0 x1 x2) : Calls Try.prog 54 #[.pointer (some ⟨g, 0, none⟩)] W fun x W' => x = .returned (.int .u8 (byteR s e).1) ∧ Two w0 W' g h b (byteR s e).2.1 (byteR s e).2.2 s' e' x0 x1 x2 :=
  (Byte_calls g s e W t.r).mono fun _ _ h => ⟨h.1, t.onG h.2.1 h.2.2⟩
theorem refByte_two {w0 W : World} {g h b : Nat} {s s' : ByteArray} {e e' : Int} {x0 x1 x2 : Int} (t : Two w0 W g h b s e s' e' x0 x1 x2) : Calls Try.prog 55 #[.pointer (some ⟨h, 0, none⟩)] W fun x W' => x = .returned (.int .u8 (byteR s' e').1) ∧ Two w0 W' g h b s e (byteR s' e').2.1 (byteR s' e').2.2 x0 x1 x2 :=
  (refByte_calls h s' e' W t.q).mono fun _ _ h => ⟨h.1, t.onH h.2.1 h.2.2⟩

theorem Text_two {most : Int} {w0 W : World} {g h b : Nat} {s s' : ByteArray} {e e' : Int} {x0 x1 x2 : Int} (t : Two w0 W g h b s e s' e' x0 x1 x2) (hs : s.size ≤ 1048576) (hm : -9223372036854775808 ≤ most) (hm2 : most ≤ 9223372036854775807) : Calls Try.prog 33 #[.pointer (some ⟨g, 0, none⟩), .int .i64 most] W fun x W' => x = .returned (.string (textR s e most).1) ∧ Two w0 W' g h b (textR s e most).2.1 (textR s e most).2.2 s' e' x0 x1 x2 :=
  (Text_calls g s e most W (by unfold maxLen; omega) hm hm2 t.r).mono fun _ _ h => ⟨h.1, t.onG h.2.1 h.2.2⟩
theorem refText_two {most : Int} {w0 W : World} {g h b : Nat} {s s' : ByteArray} {e e' : Int} {x0 x1 x2 : Int} (t : Two w0 W g h b s e s' e' x0 x1 x2) (hs : s'.size ≤ 1048576) (hm : -9223372036854775808 ≤ most) (hm2 : most ≤ 9223372036854775807) : Calls Try.prog 56 #[.pointer (some ⟨h, 0, none⟩), .int .i64 most] W fun x W' => x = .returned (.string (textR s' e' most).1) ∧ Two w0 W' g h b s e (textR s' e' most).2.1 (textR s' e' most).2.2 x0 x1 x2 :=
  (refText_calls h s' e' most W (by unfold maxLen; omega) hm hm2 t.q).mono fun _ _ h => ⟨h.1, t.onH h.2.1 h.2.2⟩

theorem List_two {many most : Int} {w0 W : World} {g h b : Nat} {s s' : ByteArray} {e e' : Int} {x0 x1 x2 : Int} (t : Two w0 W g h b s e s' e' x0 x1 x2) (hs : s.size ≤ 1048576) (hn : -9223372036854775808 ≤ many) (hn2 : many ≤ 9223372036854775807) (hm : -9223372036854775808 ≤ most) (hm2 : most ≤ 9223372036854775807) : Calls Try.prog 49 #[.pointer (some ⟨g, 0, none⟩), .int .i64 many, .int .i64 most] W fun x W' => ∃ v, x = .returned v ∧ Two w0 W' g h b (listR s e many most).2.1 (listR s e many most).2.2 s' e' x0 x1 x2 ∧ RowIs w0 W' g h v (listR s e many most).1 :=
  (List_calls g s e many most W (by unfold maxLen; omega) (fun _ => by omega) hn hn2 hm hm2 t.r).mono fun _ _ ⟨v, h1, h2, h3, h4⟩ => ⟨v, h1, t.onG h3 h4, row_of (t.onG h3 h4) t.low.size h2⟩
theorem refList_two {many most : Int} {w0 W : World} {g h b : Nat} {s s' : ByteArray} {e e' : Int} {x0 x1 x2 : Int} (t : Two w0 W g h b s e s' e' x0 x1 x2) (hs : s'.size ≤ 1048576) (hn : -9223372036854775808 ≤ many) (hn2 : many ≤ 9223372036854775807) (hm : -9223372036854775808 ≤ most) (hm2 : most ≤ 9223372036854775807) : Calls Try.prog 57 #[.pointer (some ⟨h, 0, none⟩), .int .i64 many, .int .i64 most] W fun x W' => ∃ v, x = .returned v ∧ Two w0 W' g h b s e (listR s' e' many most).2.1 (listR s' e' many most).2.2 x0 x1 x2 ∧ RowIs w0 W' g h v (listR s' e' many most).1 :=
  (refList_calls h s' e' many most W (by omega) hn hn2 hm hm2 t.q).mono fun _ _ ⟨v, h1, h2, h3, h4⟩ => ⟨v, h1, t.onH h3 h4, row_of (t.onH h3 h4) t.low.size h2⟩
theorem List_two2 {many most : Int} {v0 : Value} {l0 : List ByteArray} {w0 W : World} {g h b : Nat} {s s' : ByteArray} {e e' : Int} {x0 x1 x2 : Int} (t : Two w0 W g h b s e s' e' x0 x1 x2) (hr : RowIs w0 W g h v0 l0) (hs : s.size ≤ 1048576) (hn : -9223372036854775808 ≤ many) (hn2 : many ≤ 9223372036854775807) (hm : -9223372036854775808 ≤ most) (hm2 : most ≤ 9223372036854775807) : Calls Try.prog 49 #[.pointer (some ⟨g, 0, none⟩), .int .i64 many, .int .i64 most] W fun x W' => ∃ v, x = .returned v ∧ Two w0 W' g h b (listR s e many most).2.1 (listR s e many most).2.2 s' e' x0 x1 x2 ∧ RowIs w0 W' g h v (listR s e many most).1 ∧ RowIs w0 W' g h v0 l0 :=
  (List_calls g s e many most W (by unfold maxLen; omega) (fun _ => by omega) hn hn2 hm hm2 t.r).mono fun _ _ ⟨v, h1, h2, h3, h4⟩ => ⟨v, h1, t.onG h3 h4, row_of (t.onG h3 h4) t.low.size h2, Kd.R_step hr (fun k hk hk2 => h4.block k hk2 hk.1)⟩
theorem refList_two2 {many most : Int} {v0 : Value} {l0 : List ByteArray} {w0 W : World} {g h b : Nat} {s s' : ByteArray} {e e' : Int} {x0 x1 x2 : Int} (t : Two w0 W g h b s e s' e' x0 x1 x2) (hr : RowIs w0 W g h v0 l0) (hs : s'.size ≤ 1048576) (hn : -9223372036854775808 ≤ many) (hn2 : many ≤ 9223372036854775807) (hm : -9223372036854775808 ≤ most) (hm2 : most ≤ 9223372036854775807) : Calls Try.prog 57 #[.pointer (some ⟨h, 0, none⟩), .int .i64 many, .int .i64 most] W fun x W' => ∃ v, x = .returned v ∧ Two w0 W' g h b s e (listR s' e' many most).2.1 (listR s' e' many most).2.2 x0 x1 x2 ∧ RowIs w0 W' g h v (listR s' e' many most).1 ∧ RowIs w0 W' g h v0 l0 :=
  (refList_calls h s' e' many most W (by omega) hn hn2 hm hm2 t.q).mono fun _ _ ⟨v, h1, h2, h3, h4⟩ => ⟨v, h1, t.onH h3 h4, row_of (t.onH h3 h4) t.low.size h2, Kd.R_step hr (fun k hk hk2 => h4.block k hk2 hk.2)⟩
theorem Same_two {v1 v2 : Value} {l : List ByteArray} {w0 W : World} {g h b : Nat} {s s' : ByteArray} {e e' : Int} {x0 x1 x2 : Int} (t : Two w0 W g h b s e s' e' x0 x1 x2) (h1 : RowIs w0 W g h v1 l) (h2 : RowIs w0 W g h v2 l) (hn : l.length ≤ 9223372036854775807) : Calls Try.prog 50 #[v1, v2] W fun x W' => x = .returned (.bool true) ∧ Two w0 W' g h b s e s' e' x0 x1 x2 := by
  obtain ⟨A, c, rfl, _, hA⟩ := Kd.R_reads h1
  obtain ⟨A2, c2, rfl, _, hA2⟩ := Kd.R_reads h2
  exact (Same_calls A A2 c c2 l W hA hA2 hn).mono fun _ _ h => ⟨h.1, t.below h.2.below⟩
theorem textsF_len (most : Int) : ∀ (k : Nat) (l : List ByteArray) (s : ByteArray) (e : Int), (textsF most k l s e).1.length ≤ l.length + s.size + 1
  | 0, l, s, e => by simp only [textsF]; omega
  | k + 1, l, s, e => by
    by_cases he : e = 0
    · subst he
      rw [textsF, if_pos rfl]
      rcases textR_size s most with ⟨h1, h2⟩ | ⟨h1, h2⟩
      · have := textsF_len most k (l ++ [(textR s 0 most).1]) (textR s 0 most).2.1 (textR s 0 most).2.2
        simp only [List.length_append, List.length_singleton] at this
        omega
      · rw [textsF_no _ _ _ _ _ h1]
        simp only [List.length_append, List.length_singleton]
        omega
    · rw [textsF_no _ _ _ _ _ he]; show l.length ≤ _; omega
theorem listR_len (s : ByteArray) (e many most : Int) (hs : s.size ≤ 1048576) : (listR s e many most).1.length ≤ 9223372036854775807 := by
  have h := fun T : Int × ByteArray × Int => textsF_len most T.1.toNat [] T.2.1 T.2.2
  obtain ⟨v, _, _, hsz, _⟩ := listT_facts s e many
  unfold listR
  generalize takeR (0 : Int) s e (list0 s many) = T at hsz
  have := h T
  dsimp only
  split
  · simp only [List.length_nil] at this; omega
  · show 0 ≤ _; omega
theorem listR_size (s : ByteArray) (e many most : Int) : (listR s e many most).2.1.size ≤ s.size := by
  have h : ∀ (k : Nat) (l : List ByteArray) (s : ByteArray) (e : Int), (textsF most k l s e).2.1.size ≤ s.size := by
    intro k
    induction k with
    | zero => intro l s e; exact Nat.le_refl _
    | succ k ih =>
      intro l s e
      by_cases he : e = 0
      · subst he
        rw [textsF, if_pos rfl]
        have h1 := ih (l ++ [(textR s 0 most).1]) (textR s 0 most).2.1 (textR s 0 most).2.2
        rcases textR_size s most with ⟨_, h2⟩ | ⟨_, h2⟩
        · omega
        · rw [h2] at h1 ⊢; exact h1
      · rw [textsF_no _ _ _ _ _ he]; exact Nat.le_refl _
  obtain ⟨v, _, _, hsz, _⟩ := listT_facts s e many
  unfold listR
  generalize takeR (0 : Int) s e (list0 s many) = T at hsz
  have := h T.1.toNat [] T.2.1 T.2.2
  dsimp only
  split
  · omega
  · exact Nat.le_refl _
theorem intR_size (s : ByteArray) (e : Int) : (intR s e).2.1.size ≤ s.size := by
  rw [(intR_of s e).1]; exact uintR_size s e
theorem byteR_size (s : ByteArray) (e : Int) : (byteR s e).2.1.size ≤ s.size := by
  unfold byteR takeR
  split
  · split
    · show (s.extract _ s.size).size ≤ _; rw [extract_size_le _ _ _ (Nat.le_refl _)]; omega
    · exact Nat.le_refl _
  · exact Nat.le_refl _
theorem textR_size2 (s : ByteArray) (e most : Int) : (textR s e most).2.1.size ≤ s.size := by
  by_cases he : e = 0
  · subst he
    rcases textR_size s most with ⟨_, h⟩ | ⟨_, h⟩
    · omega
    · rw [h]; exact Nat.le_refl _
  · unfold textR; rw [takeR_no _ _ _ _ he]; exact Nat.le_refl _

end Go.Proofs.Ytfemjlhfgmbcmaa
