/- The walk of WireReads. -/
import Derived.Test.YtfemjlhfgmbcmaaQd
import Derived.Test.YtfemjlhfgmbcmaaPWireReadsx0
import Derived.Deep.RegionHeld3
namespace Go.Proofs.Ytfemjlhfgmbcmaa
open Go.RowKit Go.Proofs.YtfemjlhfgmbcmaaW.PrintWords Go.Proofs.YtfemjlhfgmbcmaaW.PrintLast Go.Proofs.YtfemjlhfgmbcmaaW.PrintMore
open Go.Proofs.Ytfemjlhfgmbcmaa.PWireReads (S68 k68 at_T68)

def AskOk (a : S68) : Prop := (-9223372036854775808 ≤ a.f1 ∧ a.f1 ≤ 9223372036854775807) ∧ -9223372036854775808 ≤ a.f2 ∧ a.f2 ≤ 9223372036854775807

section
variable {w0 W : World} {g h b : Nat} {s s' : ByteArray} {e e' : Int} {x0 x1 x2 : Int}
theorem Left_q (t : Two w0 W g h b s e s' e' x0 x1 x2) (n : Nat) : Calls Try.prog 32 #[.pointer (some ⟨g, 0, none⟩)] (W.drewN n) fun x w' => x = .returned (.int .i64 s.size) ∧ ∃ m, w' = W.drewN m :=
  Calls.quiet_of_same ((Left_calls g s e (W.drewN n) t.r).mono fun _ _ h => ⟨h.1, h.2.symm⟩)
theorem Err_q (t : Two w0 W g h b s e s' e' x0 x1 x2) (n : Nat) : Calls Try.prog 31 #[.pointer (some ⟨g, 0, none⟩)] (W.drewN n) fun x w' => x = .returned (.int .i64 e) ∧ ∃ m, w' = W.drewN m :=
  Calls.quiet_of_same ((Err_calls g s e (W.drewN n) t.r).mono fun _ _ h => ⟨h.1, h.2.symm⟩)
theorem End_q (t : Two w0 W g h b s e s' e' x0 x1 x2) (n : Nat) : Calls Try.prog 58 #[.pointer (some ⟨g, 0, none⟩)] (W.drewN n) fun x w' => x = .returned (.int .i64 (endR s e)) ∧ ∃ m, w' = W.drewN m :=
  Calls.quiet_of_same ((End_calls g s e (W.drewN n) t.r).mono fun _ _ h => ⟨h.1, h.2.symm⟩)
theorem refEnd_q (t : Two w0 W g h b s e s' e' x0 x1 x2) (n : Nat) : Calls Try.prog 59 #[.pointer (some ⟨h, 0, none⟩)] (W.drewN n) fun x w' => x = .returned (.int .i64 (endR s' e')) ∧ ∃ m, w' = W.drewN m :=
  Calls.quiet_of_same ((refEnd_calls h s' e' (W.drewN n) t.q).mono fun _ _ h => ⟨h.1, h.2.symm⟩)
theorem Two.drew (t : Two w0 W g h b s e s' e' x0 x1 x2) : Two w0 W.drew g h b s e s' e' x0 x1 x2 := ⟨t.r, t.q, t.bx, below_drew1 t.low, t.hg, t.hh⟩
theorem two_new (hr : RdIs W g s e) (hq : RfIs W h s e) (hb : Below w0.heap.size w0 W) (hg : w0.heap.size ≤ g) (hh : w0.heap.size ≤ h) (x0 x1 x2 : Int) :
    Two w0 (W.alloc (.cells #[.int .i64 x0, .int .i64 x1, .int .i64 x2] 68)) g h W.heap.size s e s e x0 x1 x2 :=
  ⟨hr.alloc _, hq.alloc _, by have := heap_alloc_new W (.cells #[.int .i64 x0, .int .i64 x1, .int .i64 x2] 68); simpa [BoxIs] using this, below_alloc hb _, hg, hh⟩
end

set_option maxHeartbeats 1000000 in
set_option maxRecDepth 100000 in
theorem reads_fin (s : ByteArray) (A : Option Addr) (c : Nat) (l : List S68) (w : World) (hs : s.size ≤ 1048576) (hC : Kd.C k68 w A l.length l) (hn : l.length ≤ 9223372036854775807) (hI : ∀ a ∈ l, AskOk a) :
    Calls Try.prog 9 #[.string s, .slice A l.length c] w fun e w' => e = .returned (.bool true) ∧ Below w.heap.size w w' := by
  have H0 := Lib.hid (Below.refl w.heap.size w)
  have HC := Lib.hid hC
  have HI := Lib.hid hI
  have hu68 := Try.underlying68
  clear hC hI
  go_enter Try.func9, Try.ntmps9
  go_wp2_with fail
  refine (shown_calls _).mono ?_
  rintro e w1 ⟨rfl, hb⟩
  have H1 := Lib.hid (bstep H0.out hb)
  clear hb H0
  go_wp2_with fail
  refine (Read_calls2 _ _).mono ?_
  rintro e w2 ⟨g, rfl, h1, hb, hg⟩
  have H2 := Lib.hid (bstep H1.out hb)
  have HG := Lib.hid (show w.heap.size ≤ g by have := H1.out.size; omega)
  have R1 := Lib.hid h1
  clear hb H1 hg h1
  go_wp2_with fail
  have HH := Lib.hid (show w.heap.size ≤ w2.heap.size from H2.out.size)
  go_loopw [8] (fun i W => ∃ (k : Nat) (t : ByteArray) (e : Int), i = .int .i64 k ∧ k ≤ l.length ∧ t.size ≤ 1048576 ∧ RdIs W g t e ∧ RfIs W w2.heap.size t e ∧ Below w.heap.size w W) (fun i _ => l.length - (intOf i).toNat)
  case atStart => exact ⟨0, s, 0, rfl, Nat.zero_le _, hs, R1.out.alloc _, by have := heap_alloc_new w2 (.cells #[.string s, .int .i64 0] 66); simpa [RfIs] using this, below_alloc H2.out _⟩
  case round =>
    obtain ⟨k, t, e, rfl, hk, ht, hr, hq, hb⟩ := hrel
    clear R1 H2
    generalize w2.heap.size = h at HH hr hq hb ⊢
    have HR := Lib.hid hr
    have HQ := Lib.hid hq
    have HB := Lib.hid hb
    clear hr hq hb
    by_cases hlt : (k : Int) < l.length
    · obtain ⟨ad, hA, y0, y1, y2⟩ := at_T68 (Kd.C_below HC.out HB.out) (k : Int) (by omega) hlt
      subst hA
      have hok : AskOk (PWireReads.rd_T68 l k) := HI.out _ (by
        show l.getD (k : Int).toNat _ ∈ l
        rw [Int.toNat_natCast, List.getD_eq_getElem?_getD, List.getElem?_eq_getElem (by omega)]; exact List.getElem_mem _)
      rw [Int.toNat_natCast] at y0 y1 y2
      generalize PWireReads.rd_T68 l k = a at y0 y1 y2 hok
      obtain ⟨f0, f1, f2⟩ := a
      obtain ⟨⟨ok1, ok2⟩, ok3, ok4⟩ := hok
      dsimp only at y0 y1 y2 ok1 ok2 ok3 ok4
      by_cases c1 : f0 = 1
      · subst c1
        have T0 := Lib.hid (two_new HR.out HQ.out HB.out HG.out HH.out 1 f1 f2)
        have U1 := Lib.hid (fun (W : World) (T : Two w W g h wr.heap.size t e t e 1 f1 f2) => Uint_two T ht)
        have U2 := Lib.hid (fun (W : World) (T : Two w W g h wr.heap.size (uintR t e).2.1 (uintR t e).2.2 t e 1 f1 f2) => refUint_two T ht)
        have hz := uintR_size t e
        generalize uintR t e = R at U1 U2 hz
        obtain ⟨v, t1, e1⟩ := R
        dsimp only at U1 U2 hz
        go_wp2_with fail
        refine (U1.out _ T0.out).mono ?_
        rintro x w3 ⟨rfl, h1⟩
        have T1 := Lib.hid h1
        clear h1 T0 y0 y1 y2 HR HQ HB U1
        go_wp2_with fail
        refine (U2.out _ T1.out).mono ?_
        rintro x w4 ⟨rfl, h1⟩
        have TZ := Lib.hid h1
        clear h1 T1 U2

        have q0 := TZ.out.q.c0
        have q1 := TZ.out.q.c1
        go_wp2_with fail
        go_quiet (first | (go_at_call 32; exact Left_q TZ.out _) | (go_at_call 31; exact Err_q TZ.out _) | (go_at_call 58; exact End_q TZ.out _) | (go_at_call 59; exact refEnd_q TZ.out _))
        go_wp2_with fail
        go_roundw
        case rel => exact ⟨k + 1, t1, e1, by go_num, by omega, by omega, TZ.out.r, TZ.out.q, TZ.out.low.trans (pw_below_drewN (Below.refl _ _) _)⟩
        case measure => simp [intOf]; omega
      by_cases c2 : f0 = 2
      · subst c2
        have T0 := Lib.hid (two_new HR.out HQ.out HB.out HG.out HH.out 2 f1 f2)
        have U1 := Lib.hid (fun (W : World) (T : Two w W g h wr.heap.size t e t e 2 f1 f2) => Int_two T ht)
        have U2 := Lib.hid (fun (W : World) (T : Two w W g h wr.heap.size (intR t e).2.1 (intR t e).2.2 t e 2 f1 f2) => refInt_two T ht)
        have hz := intR_size t e
        generalize intR t e = R at U1 U2 hz
        obtain ⟨v, t1, e1⟩ := R
        dsimp only at U1 U2 hz
        go_wp2_with fail
        refine (U1.out _ T0.out).mono ?_
        rintro x w3 ⟨rfl, h1⟩
        have T1 := Lib.hid h1
        clear h1 T0 y0 y1 y2 HR HQ HB U1
        go_wp2_with fail
        refine (U2.out _ T1.out).mono ?_
        rintro x w4 ⟨rfl, h1⟩
        have TZ := Lib.hid h1
        clear h1 T1 U2

        have q0 := TZ.out.q.c0
        have q1 := TZ.out.q.c1
        go_wp2_with fail
        go_quiet (first | (go_at_call 32; exact Left_q TZ.out _) | (go_at_call 31; exact Err_q TZ.out _) | (go_at_call 58; exact End_q TZ.out _) | (go_at_call 59; exact refEnd_q TZ.out _))
        go_wp2_with fail
        go_roundw
        case rel => exact ⟨k + 1, t1, e1, by go_num, by omega, by omega, TZ.out.r, TZ.out.q, TZ.out.low.trans (pw_below_drewN (Below.refl _ _) _)⟩
        case measure => simp [intOf]; omega
      by_cases c3 : f0 = 3
      · subst c3
        have T0 := Lib.hid (two_new HR.out HQ.out HB.out HG.out HH.out 3 f1 f2)
        have U1 := Lib.hid (fun (W : World) (T : Two w W g h wr.heap.size t e t e 3 f1 f2) => Byte_two T)
        have U2 := Lib.hid (fun (W : World) (T : Two w W g h wr.heap.size (byteR t e).2.1 (byteR t e).2.2 t e 3 f1 f2) => refByte_two T)
        have hz := byteR_size t e
        generalize byteR t e = R at U1 U2 hz
        obtain ⟨v, t1, e1⟩ := R
        dsimp only at U1 U2 hz
        go_wp2_with fail
        refine (U1.out _ T0.out).mono ?_
        rintro x w3 ⟨rfl, h1⟩
        have T1 := Lib.hid h1
        clear h1 T0 y0 y1 y2 HR HQ HB U1
        go_wp2_with fail
        refine (U2.out _ T1.out).mono ?_
        rintro x w4 ⟨rfl, h1⟩
        have TZ := Lib.hid h1
        clear h1 T1 U2

        have q0 := TZ.out.q.c0
        have q1 := TZ.out.q.c1
        go_wp2_with fail
        go_quiet (first | (go_at_call 32; exact Left_q TZ.out _) | (go_at_call 31; exact Err_q TZ.out _) | (go_at_call 58; exact End_q TZ.out _) | (go_at_call 59; exact refEnd_q TZ.out _))
        go_wp2_with fail
        go_roundw
        case rel => exact ⟨k + 1, t1, e1, by go_num, by omega, by omega, TZ.out.r, TZ.out.q, TZ.out.low.trans (pw_below_drewN (Below.refl _ _) _)⟩
        case measure => simp [intOf]; omega
      by_cases c4 : f0 = 4
      · subst c4
        have T0 := Lib.hid (two_new HR.out HQ.out HB.out HG.out HH.out 4 f1 f2)
        have U1 := Lib.hid (fun (W : World) (t' : ByteArray) (e' : Int) (T : Two w W g h wr.heap.size t e t' e' 4 f1 f2) => Text_two (most := f2) T ht ok3 ok4)
        have U2 := Lib.hid (fun (W : World) (t' : ByteArray) (e' : Int) (T : Two w W g h wr.heap.size t' e' t e 4 f1 f2) => refText_two (most := f2) T ht ok3 ok4)
        have hz := textR_size2 t e f2
        generalize textR t e f2 = R at U1 U2 hz
        obtain ⟨v, t1, e1⟩ := R
        dsimp only at U1 U2 hz
        generalize hbq : wr.heap.size = b at T0 U1 U2
        have T0d := T0.out.drew
        have T0e := T0.out
        go_wp2_with fail
        go_region_held3 (fun w' => w'.cell? ⟨b, 2, none⟩ = some (.int .i64 f2)) (first | (apply Two.b2; assumption) | go_keep) (first | (go_at_call 33; refine (U1.out _ _ _ (by assumption)).mono ?_; rintro x w' ⟨rfl, hT⟩) | (go_at_call 56; refine (U2.out _ _ _ (by assumption)).mono ?_; rintro x w' ⟨rfl, hT⟩))
        all_goals
          have TZ := Lib.hid hT
          clear T0 T0d T0e HR HQ HB y0 y1 y2 U1 U2
          have q0 := TZ.out.q.c0
          have q1 := TZ.out.q.c1
          go_wp2_with fail
          go_quiet (first | (go_at_call 32; exact Left_q TZ.out _) | (go_at_call 31; exact Err_q TZ.out _) | (go_at_call 58; exact End_q TZ.out _) | (go_at_call 59; exact refEnd_q TZ.out _))
          go_wp2_with fail
          go_roundw
          case rel => exact ⟨k + 1, t1, e1, by go_num, by omega, by omega, TZ.out.r, TZ.out.q, TZ.out.low.trans (pw_below_drewN (Below.refl _ _) _)⟩
          case measure => simp [intOf]; omega
      by_cases c5 : f0 = 5
      · subst c5
        have T0 := Lib.hid (two_new HR.out HQ.out HB.out HG.out HH.out 5 f1 f2)
        have U1 := Lib.hid (fun (W : World) (t' : ByteArray) (e' : Int) (T : Two w W g h wr.heap.size t e t' e' 5 f1 f2) => List_two (many := f1) (most := f2) T ht ok1 ok2 ok3 ok4)
        have U2 := Lib.hid (fun (W : World) (t' : ByteArray) (e' : Int) (T : Two w W g h wr.heap.size t' e' t e 5 f1 f2) => refList_two (many := f1) (most := f2) T ht ok1 ok2 ok3 ok4)
        have U3 := Lib.hid (fun (W : World) (t' : ByteArray) (e' : Int) (v : Value) (l : List ByteArray) (T : Two w W g h wr.heap.size t e t' e' 5 f1 f2) (r : RowIs w W g h v l) => List_two2 (many := f1) (most := f2) T r ht ok1 ok2 ok3 ok4)
        have U4 := Lib.hid (fun (W : World) (t' : ByteArray) (e' : Int) (v : Value) (l : List ByteArray) (T : Two w W g h wr.heap.size t' e' t e 5 f1 f2) (r : RowIs w W g h v l) => refList_two2 (many := f1) (most := f2) T r ht ok1 ok2 ok3 ok4)
        have U5 := Lib.hid (fun (W : World) (v1 v2 : Value) (T : Two w W g h wr.heap.size (listR t e f1 f2).2.1 (listR t e f1 f2).2.2 (listR t e f1 f2).2.1 (listR t e f1 f2).2.2 5 f1 f2) (r1 : RowIs w W g h v1 (listR t e f1 f2).1) (r2 : RowIs w W g h v2 (listR t e f1 f2).1) => Same_two T r1 r2 (listR_len t e f1 f2 ht))
        have hz := listR_size t e f1 f2
        generalize listR t e f1 f2 = R at U1 U2 U3 U4 U5 hz
        obtain ⟨v, t1, e1⟩ := R
        dsimp only at U1 U2 U3 U4 U5 hz
        generalize hbq : wr.heap.size = b at T0 U1 U2 U3 U4 U5
        have T0d := T0.out.drew
        have T0e := T0.out
        go_wp2_with fail
        go_region_held3 (fun w' => w'.cell? ⟨b, 1, none⟩ = some (.int .i64 f1) ∧ w'.cell? ⟨b, 2, none⟩ = some (.int .i64 f2)) (first | (constructor <;> first | (apply Two.b1; assumption) | (apply Two.b2; assumption)) | (apply Two.b1; assumption) | (apply Two.b2; assumption) | go_keep) (first | (go_at_call 49; refine (U3.out _ _ _ _ _ (by assumption) (by assumption)).mono ?_; rintro x w' ⟨v1, rfl, hT, hR1, hR2⟩) | (go_at_call 49; refine (U1.out _ _ _ (by assumption)).mono ?_; rintro x w' ⟨v1, rfl, hT, hR1⟩) | (go_at_call 57; refine (U4.out _ _ _ _ _ (by assumption) (by assumption)).mono ?_; rintro x w' ⟨v1, rfl, hT, hR1, hR2⟩) | (go_at_call 57; refine (U2.out _ _ _ (by assumption)).mono ?_; rintro x w' ⟨v1, rfl, hT, hR1⟩) | (go_at_call 50; refine (U5.out _ _ _ (by assumption) (by assumption) (by assumption)).mono ?_; rintro x w' ⟨rfl, hT⟩))
        all_goals
          have TZ := Lib.hid hT
          clear T0 T0d T0e HR HQ HB y0 y1 y2 U1 U2 U3 U4 U5
          have q0 := TZ.out.q.c0
          have q1 := TZ.out.q.c1
          go_wp2_with fail
          go_quiet (first | (go_at_call 32; exact Left_q TZ.out _) | (go_at_call 31; exact Err_q TZ.out _) | (go_at_call 58; exact End_q TZ.out _) | (go_at_call 59; exact refEnd_q TZ.out _))
          go_wp2_with fail
          go_roundw
          case rel => exact ⟨k + 1, t1, e1, by go_num, by omega, by omega, TZ.out.r, TZ.out.q, TZ.out.low.trans (pw_below_drewN (Below.refl _ _) _)⟩
          case measure => simp [intOf]; omega
      have T0 := Lib.hid (two_new HR.out HQ.out HB.out HG.out HH.out f0 f1 f2)
      have d1 : (f0 == 1) = false := by simpa using c1
      have d2 : (f0 == 2) = false := by simpa using c2
      have d3 : (f0 == 3) = false := by simpa using c3
      have d4 : (f0 == 4) = false := by simpa using c4
      have d5 : (f0 == 5) = false := by simpa using c5
      clear c1 c2 c3 c4 c5
      obtain ⟨t1, ht1⟩ : ∃ t1, t1 = t := ⟨_, rfl⟩
      obtain ⟨e1, he1⟩ : ∃ e1, e1 = e := ⟨_, rfl⟩
      rw [← ht1, ← he1] at T0
      have hz : t1.size ≤ t.size := by rw [ht1]; exact Nat.le_refl _
      clear ht1 he1 HR HQ HB
      have TZ := T0

      have q0 := TZ.out.q.c0
      have q1 := TZ.out.q.c1
      go_wp2_with fail
      go_quiet (first | (go_at_call 32; exact Left_q TZ.out _) | (go_at_call 31; exact Err_q TZ.out _) | (go_at_call 58; exact End_q TZ.out _) | (go_at_call 59; exact refEnd_q TZ.out _))
      go_wp2_with fail
      go_roundw
      case rel => exact ⟨k + 1, t1, e1, by go_num, by omega, by omega, TZ.out.r, TZ.out.q, TZ.out.low.trans (pw_below_drewN (Below.refl _ _) _)⟩
      case measure => simp [intOf]; omega
    · go_wp2_with fail
      go_ret
      exact ⟨rfl, HB.out⟩
end Go.Proofs.Ytfemjlhfgmbcmaa
