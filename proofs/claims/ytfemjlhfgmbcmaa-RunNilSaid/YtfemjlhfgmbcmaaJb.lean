/- The reader's List: its walk. -/
import Derived.Test.YtfemjlhfgmbcmaaJa
namespace Go.Proofs.Ytfemjlhfgmbcmaa
open Go.RowKit Go.Proofs.YtfemjlhfgmbcmaaW.PrintWords Go.Proofs.YtfemjlhfgmbcmaaW.PrintLast Go.Proofs.YtfemjlhfgmbcmaaW.PrintMore

theorem Only.grown {g : Nat} {w w1 w2 : World} {row : Option Nat} (h : Only g w w1) (hg : w1.grownBy w2 row) (hr : ∀ k, row = some k → w.heap.size ≤ k) : Only g w w2 :=
  ⟨hg.os.trans h.os, hg.tape.trans h.tape, hg.output.trans h.output, Nat.le_trans h.size hg.size, fun i hi hne => (hg.block i (Nat.lt_of_lt_of_le hi h.size) (fun e => by have := hr i e.symm; omega)).trans (h.block i hi hne)⟩
theorem RdIs.grown {w w1 : World} {g : Nat} {s : ByteArray} {e : Int} {row : Option Nat} (h : RdIs w g s e) (hg : w.grownBy w1 row) (hne : some g ≠ row) : RdIs w1 g s e := (hg.block g h.lt hne).trans h

theorem info9 : (Try.prog.info? 9).map (fun i => (i.zero, i.size, i.bytes)) = some (some (.string ⟨#[]⟩), 1, 16) := by kernel_rfl

/-- The three boxes of a List call. -/
structure LBox (n g : Nat) (s : ByteArray) (e : Int) (many : Int) (W : World) : Prop where
  p : W.heap[n]? = some (.cells #[.pointer (some ⟨g, 0, none⟩)] 28 (0, 0))
  q : W.heap[n + 1]? = some (.cells #[.int .i64 many] 3 (0, 0))
  r : RdIs W (n + 1 + 1) s e
theorem LBox.move {n g : Nat} {s : ByteArray} {e many : Int} {W W1 : World} (h : LBox n g s e many W) (hm : ∀ k, n ≤ k → k < n + 3 → W1.heap[k]? = W.heap[k]?) : LBox n g s e many W1 :=
  ⟨(hm n (by omega) (by omega)).trans h.p, (hm (n + 1) (by omega) (by omega)).trans h.q, (hm (n + 1 + 1) (by omega) (by omega)).trans h.r⟩
theorem LBox.lt {n g : Nat} {s : ByteArray} {e many : Int} {W : World} (h : LBox n g s e many W) : n + 3 ≤ W.heap.size := h.r.lt
theorem LBox.new (w : World) (g : Nat) (s : ByteArray) (e many : Int) : LBox w.heap.size g s e many (((w.alloc (.cells #[.pointer (some ⟨g, 0, none⟩)] 28)).alloc (.cells #[.int .i64 many] 3)).alloc (.cells #[.string s, .int .i64 e] 113)) := by
  refine ⟨?_, ?_, ?_⟩
  · rw [Below.heap_alloc _ _ _ (by simp; omega), Below.heap_alloc _ _ _ (by simp)]; exact heap_alloc_new _ _
  · rw [Below.heap_alloc _ _ _ (by simp)]
    have := heap_alloc_new (w.alloc (.cells #[.pointer (some ⟨g, 0, none⟩)] 28)) (.cells #[.int .i64 many] 3)
    simpa using this
  · have := heap_alloc_new ((w.alloc (.cells #[.pointer (some ⟨g, 0, none⟩)] 28)).alloc (.cells #[.int .i64 many] 3)) (.cells #[.string s, .int .i64 e] 113)
    unfold RdIs
    simpa using this
theorem LBox.only {n g : Nat} {s : ByteArray} {e many : Int} {W W1 : World} (h : LBox n g s e many W) (ho : Only g W W1) (hg : g < n) : LBox n g s e many W1 :=
  h.move fun k hk hk3 => ho.block k (by have := h.lt; omega) (by omega)
theorem LBox.grown {n g : Nat} {s : ByteArray} {e many : Int} {W W1 : World} {row : Option Nat} (h : LBox n g s e many W) (hg : W.grownBy W1 row) (hr : ∀ k, row = some k → n + 3 ≤ k) : LBox n g s e many W1 :=
  h.move fun k _ hk3 => hg.block k (by have := h.lt; omega) (fun e => by have := hr k e.symm; omega)

theorem listT_facts (s : ByteArray) (e many : Int) : ∃ v : Nat, (takeR (0 : Int) s e (list0 s many)).1 = (v : Int) ∧ v < 18446744073709551616 ∧ (takeR (0 : Int) s e (list0 s many)).2.1.size ≤ s.size ∧ (e ≠ 0 → v = 0) := by
  unfold takeR
  split
  · rename_i he
    split
    · exact ⟨(num0 s).1, rfl, num0_lt s, by show (s.extract _ s.size).size ≤ _; rw [extract_size_le _ _ _ (Nat.le_refl _)]; omega, fun h => absurd he h⟩
    · exact ⟨0, rfl, by decide, Nat.le_refl _, fun _ => rfl⟩
  · exact ⟨0, rfl, by decide, Nat.le_refl _, fun _ => rfl⟩

def ListPost (w : World) (g : Nat) (R : List ByteArray × ByteArray × Int) (e : Ending) (w' : World) : Prop :=
  ∃ v : Value, e = .returned v ∧ Kd.R Kd.string 9 w' w.heap.size (fun _ => True) v R.1 ∧ RdIs w' g R.2.1 R.2.2 ∧ Only g w w'

set_option maxRecDepth 100000 in
theorem List_calls (g : Nat) (s : ByteArray) (e0 : Int) (many most : Int) (w : World) (hs : s.size ≤ maxLen) (hs2 : e0 = 0 → s.size ≤ 1099511627776) (hm : -9223372036854775808 ≤ many) (hm2 : many ≤ 9223372036854775807) (ht : -9223372036854775808 ≤ most) (ht2 : most ≤ 9223372036854775807) (h : RdIs w g s e0) :
    Calls Try.prog 49 #[.pointer (some ⟨g, 0, none⟩), .int .i64 many, .int .i64 most] w (ListPost w g (listR s e0 many most)) := by
  have hg := h.lt
  have H0 := Lib.hid h
  have HT := Lib.hid (fun (w1 : World) (h1 : RdIs w1 g s e0) (p q : Nat) (hp : w1.cell? ⟨p, 0, none⟩ = some (.pointer (some ⟨g, 0, none⟩))) (hq : w1.cell? ⟨q, 0, none⟩ = some (.int .i64 many)) =>
    take71_92 g s e0 w1 p q h1 (list0 s many).1 (list0 s many).2.1 (list0 s many).2.2 (fun _ => list1_calls g p q s many w1 hs hm hm2 h1.c0 hp hq) (fun e => (num0_ok s (by unfold list0 at e; simp only at e; split at e <;> omega)).2.1))
  obtain ⟨c0, c1⟩ := (⟨h.c0, h.c1⟩ : _ ∧ _)
  clear h
  have hL : listR s e0 many most = if (textsF most (takeR (0 : Int) s e0 (list0 s many)).1.toNat [] (takeR (0 : Int) s e0 (list0 s many)).2.1 (takeR (0 : Int) s e0 (list0 s many)).2.2).2.2 = 0 then textsF most (takeR (0 : Int) s e0 (list0 s many)).1.toNat [] (takeR (0 : Int) s e0 (list0 s many)).2.1 (takeR (0 : Int) s e0 (list0 s many)).2.2
    else ([], s, (textsF most (takeR (0 : Int) s e0 (list0 s many)).1.toNat [] (takeR (0 : Int) s e0 (list0 s many)).2.1 (takeR (0 : Int) s e0 (list0 s many)).2.2).2.2) := rfl
  rw [hL]
  clear hL
  obtain ⟨v, hv, hv2, hs1, hv0⟩ := listT_facts s e0 many
  have hs3 : v = 0 ∨ s.size ≤ 1099511627776 := by
    by_cases h : e0 = 0
    · exact .inr (hs2 h)
    · exact .inl (hv0 h)
  unfold maxLen at hs
  clear hs2 hv0
  rw [show ((list0 s many).1, (list0 s many).2.1, (list0 s many).2.2) = list0 s many from rfl] at HT
  generalize takeR (0 : Int) s e0 (list0 s many) = T at HT hv hs1 ⊢
  obtain ⟨nv, s1, e1⟩ := T
  dsimp only at HT hv hs1 ⊢
  subst hv
  rw [Int.toNat_natCast]
  obtain ⟨R, hR⟩ : ∃ R, R = textsF most v [] s1 e1 := ⟨_, rfl⟩
  rw [← hR]
  have HR := Lib.hid hR
  clear hR
  obtain ⟨Z, hZ⟩ : ∃ Z, Z = if R.2.2 = 0 then R else ([], s, R.2.2) := ⟨_, rfl⟩
  rw [← hZ]
  have HZ := Lib.hid hZ
  clear hZ
  go_enter Try.func49, Try.ntmps49
  go_wp2_with fail
  refine (HT.out _ (((H0.out.alloc _).alloc _).alloc _) _ _ ?hp ?hq).mono ?_
  case hp => go_simp
  case hq => go_simp
  rintro e w1 ⟨rfl, h1, ho⟩
  have HB := Lib.hid ((LBox.new w g s e0 many).only ho hg)
  have HO := Lib.hid ((((Only.refl g w).alloc _).alloc _).alloc _ |>.trans ho)
  have HG := Lib.hid h1
  have b1 := cell_of_one HB.out.p
  clear ho h1 c0 c1 H0 HT
  go_wp2_with fail
  go_loopw [9, 10] (fun out i W => ∃ (k : Nat) (l : List ByteArray) (s2 : ByteArray) (e2 : Int), i = .int .u64 k ∧ k ≤ v ∧ LBox w.heap.size g s e0 many W ∧ Only g w W ∧ RdIs W g s2 e2 ∧ Hid (textsF most (v - k) l s2 e2 = R) ∧ s2.size ≤ s.size ∧ (l.length + s2.size ≤ s.size ∨ e2 ≠ 0) ∧ Kd.R Kd.string 9 W w.heap.size (fun b => w.heap.size + 3 ≤ b) out l) (fun _ i _ => v - (intOf i).toNat)
  case atStart => exact ⟨0, [], s1, e1, rfl, Nat.zero_le _, HB.out, HO.out, HG.out, HR.out.symm, hs1, .inl (by simpa using hs1), Kd.R_nil _ _ _ _ _⟩
  case round =>
    obtain ⟨k, l, s2, e2, rfl, hk, HB2, HO2, HG2, HN, hs2, hl2, HK⟩ := hrel
    clear HB HO HG b1 HR
    have HB := Lib.hid HB2
    have HO := Lib.hid HO2
    have HG := Lib.hid HG2
    have HK2 := Lib.hid HK
    have HL := Lib.hid hl2
    have b1 := cell_of_one HB.out.p
    have r1 := HG.out.c1
    clear HB2 HO2 HG2 HK hl2
    by_cases hlt : k < v
    · by_cases he : e2 = 0
      · subst he
        have hN : textsF most (v - (k + 1)) (l ++ [(textR s2 0 most).1]) (textR s2 0 most).2.1 (textR s2 0 most).2.2 = R := by
          rw [← HN.out, show v - k = (v - (k + 1)) + 1 by omega, textsF, if_pos rfl]
        have HN2 := Lib.hid hN
        clear hN HN
        have hsz := textR_size s2 most
        have HX := Lib.hid (fun W (hW : RdIs W g s2 0) => Text_calls g s2 0 most W (by unfold maxLen; omega) ht ht2 hW)
        generalize textR s2 0 most = X at HN2 hsz HX
        obtain ⟨t, s3, e3⟩ := X
        dsimp only at HN2 hsz HX
        have hsz2 : (e3 = 0 ∧ s3.size < s2.size) ∨ (e3 ≠ 0 ∧ s3.size = s2.size) := hsz.imp id (fun h => ⟨h.1, by rw [h.2]⟩)
        have HSZ := Lib.hid hsz2
        clear hsz2
        clear hsz
        go_wp2_with fail
        refine (HX.out _ HG.out).mono ?_
        rintro e w2 ⟨rfl, h1, ho⟩
        go_wp2_with (at_builtin; refine Kd.R_append Kd.string (w0 := w2) w.heap.size rfl (.tmp 31) (.tmp 35) 57 9 (.string ⟨#[]⟩) 16 rfl Try.underlying57 info9 rfl (by decide) (by decide) u9 l t [.string t] (fun b => w.heap.size + 3 ≤ b) (fun _ => False) rfl rfl ?aP (fun _ hk => hk.elim) ?aF ?aO ?aB ?aS ?aL ?_; (case aP => exact rfl); (case aF => exact (fun b hb => by have := HB.out.lt; have := ho.size; omega)); (case aO => exact Kd.R_step HK2.out (fun b hb hb2 => ho.block b hb2 (by omega))); (case aB => exact Below.refl _ _); (case aS => (have := HB.out.lt; have := ho.size; omega)); (case aL => (have := HL.out; omega)); intro v1 w3 hR _ hgr _; have HR3 := Lib.hid hR; have HGR := Lib.hid hgr; clear hR hgr)
        go_roundw
        case rel => exact ⟨k + 1, l ++ [t], s3, e3, by go_num, by omega, (HB.out.only ho (by omega)).grown HGR.out (fun b hb => HK2.out.1 b hb), (HO.out.trans ho).grown HGR.out (fun b hb => by have := HK2.out.1 b hb; omega), h1.grown HGR.out (fun hb => by have := HK2.out.1 g hb.symm; omega), HN2.out, by have := HSZ.out; omega, by have := HSZ.out; have := HL.out; simp only [List.length_append, List.length_singleton]; omega, HR3.out⟩
        case measure => simp [intOf]; omega
      · have hb : (e2 == 0) = false := by simpa using he
        have hb2 : (e2 != 0) = true := by simpa using he
        have hRe : R = (l, s2, e2) := by rw [← HN.out, textsF_no _ _ _ _ _ he]
        have hZe : Z = ([], s, e2) := by rw [HZ.out, hRe, if_neg he]
        have HZ2 := Lib.hid hZe
        have bw := HB.out.r.c0
        have f0 := HG.out.f0
        have r0 := HG.out.c0
        clear hRe hZe HZ HN he
        go_wp2_with fail
        go_ret
        exact ⟨_, rfl, by rw [HZ2.out]; exact Kd.R_nil _ _ _ _ _, by rw [HZ2.out]; exact HG.out.set0 _, HO.out.set 0 _⟩
    · have hkv : v - k = 0 := by omega
      by_cases he : e2 = 0
      · subst he
        have hZe : Z = (l, s2, 0) := by rw [HZ.out, ← HN.out, hkv]; rfl
        have HZ2 := Lib.hid hZe
        clear HZ HN hZe hkv
        go_wp2_with fail
        go_ret
        exact ⟨_, rfl, by rw [HZ2.out]; exact Kd.R_mono HK2.out (fun _ _ => trivial), by rw [HZ2.out]; exact HG.out, HO.out⟩
      · have hb : (e2 == 0) = false := by simpa using he
        have hb2 : (e2 != 0) = true := by simpa using he
        have hRe : R = (l, s2, e2) := by rw [← HN.out, textsF_no _ _ _ _ _ he]
        have hZe : Z = ([], s, e2) := by rw [HZ.out, hRe, if_neg he]
        have HZ2 := Lib.hid hZe
        have bw := HB.out.r.c0
        have f0 := HG.out.f0
        have r0 := HG.out.c0
        clear hRe hZe HZ HN he hkv
        go_wp2_with fail
        go_ret
        exact ⟨_, rfl, by rw [HZ2.out]; exact Kd.R_nil _ _ _ _ _, by rw [HZ2.out]; exact HG.out.set0 _, HO.out.set 0 _⟩
end Go.Proofs.Ytfemjlhfgmbcmaa
