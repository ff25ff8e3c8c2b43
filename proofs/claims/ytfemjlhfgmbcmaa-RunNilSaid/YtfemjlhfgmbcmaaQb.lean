/- The reference's reader: number, byte, text, end. -/
import Derived.Test.YtfemjlhfgmbcmaaQa
namespace Go.Proofs.Ytfemjlhfgmbcmaa
open Go.RowKit

/-- The reference's reader at block g: its bytes, why it is wrong. -/
def RfIs (w : World) (g : Nat) (s : ByteArray) (e : Int) : Prop := w.heap[g]? = some (.cells #[.string s, .int .i64 e] 66 (0, 0))
namespace RfIs
variable {w w1 : World} {g : Nat} {s : ByteArray} {e : Int}
theorem lt (h : RfIs w g s e) : g < w.heap.size := (Array.getElem?_eq_some_iff.1 h).1
theorem c0 (h : RfIs w g s e) : w.cell? ⟨g, 0, none⟩ = some (.string s) := by unfold RfIs at h; simp [World.cell?, h]
theorem c1 (h : RfIs w g s e) : w.cell? ⟨g, 1, none⟩ = some (.int .i64 e) := by unfold RfIs at h; simp [World.cell?, h]
theorem f0 (h : RfIs w g s e) : w.frozen? ⟨g, 0, none⟩ = false := by unfold RfIs at h; simp [World.frozen?, h]
theorem f1 (h : RfIs w g s e) : w.frozen? ⟨g, 1, none⟩ = false := by unfold RfIs at h; simp [World.frozen?, h]
theorem at_ (h : RfIs w g s e) : w.heap[g]'h.lt = .cells #[.string s, .int .i64 e] 66 (0, 0) := by
  have := h; unfold RfIs at this; rw [Array.getElem?_eq_getElem h.lt] at this; exact Option.some.inj this
theorem set0 (h : RfIs w g s e) (s' : ByteArray) : RfIs (w.setCell ⟨g, 0, none⟩ (.string s')) g s' e := by
  show (w.heap.modify g _)[g]? = _
  rw [Array.getElem?_eq_getElem (by simpa using h.lt), Array.getElem_modify_self, h.at_]
  rfl
theorem set1 (h : RfIs w g s e) (e' : Int) : RfIs (w.setCell ⟨g, 1, none⟩ (.int .i64 e')) g s e' := by
  show (w.heap.modify g _)[g]? = _
  rw [Array.getElem?_eq_getElem (by simpa using h.lt), Array.getElem_modify_self, h.at_]
  rfl
theorem only {g' : Nat} (h : RfIs w g s e) (ho : Only g' w w1) (hne : g ≠ g') : RfIs w1 g s e := ho.blk h hne
theorem below (h : RfIs w g s e) (ho : Below w.heap.size w w1) : RfIs w1 g s e := (ho.block g h.lt).trans h
theorem alloc (h : RfIs w g s e) (o : Obj) : RfIs (w.alloc o) g s e := h.below ((Below.refl _ _).alloc (Nat.le_refl _) o)
end RfIs

set_option maxRecDepth 100000 in
theorem refUint_calls (g : Nat) (s : ByteArray) (e0 : Int) (w : World) (hs : s.size ≤ maxLen) (h : RfIs w g s e0) :
    Calls Try.prog 51 #[.pointer (some ⟨g, 0, none⟩)] w fun e w' => e = .returned (.int .u64 (uintR s e0).1) ∧ RfIs w' g (uintR s e0).2.1 (uintR s e0).2.2 ∧ Only g w w' := by
  have h0 := h.c0
  have h1 := h.c1
  have f0 := h.f0
  have f1 := h.f1
  have HN := Lib.hid (refNumber_calls s w hs)
  have hn := (num0_ok s)
  unfold uintR
  obtain ⟨T, hT⟩ : ∃ T, T = num0 s := ⟨_, rfl⟩
  rw [← hT] at HN hn ⊢
  clear hT
  obtain ⟨v, n, er⟩ := T
  dsimp only at HN hn ⊢
  by_cases he : e0 = 0
  · subst he
    by_cases her : er = 0
    · subst her
      have n1 := (hn rfl).2.1
      clear hn
      rw [takeR_ok]
      go_enter Try.func51, Try.ntmps51
      go_wp2_with (go_at_call 93; refine HN.out.mono ?_; rintro e w' ⟨rfl, rfl⟩)
      go_ret
      exact ⟨rfl, (h.set0 _), (Only.refl g w).set 0 _⟩
    · have hb : ((er : Int) != 0) = true := by simpa using her
      rw [takeR_er _ _ _ _ _ her]
      clear hn
      go_enter Try.func51, Try.ntmps51
      go_wp2_with (go_at_call 93; refine HN.out.mono ?_; rintro e w' ⟨rfl, rfl⟩)
      go_ret
      exact ⟨rfl, (h.set1 _), (Only.refl g w).set 1 _⟩
  · have hb : (e0 != 0) = true := by simpa using he
    rw [takeR_no _ _ _ _ he]
    clear he HN hn
    go_enter Try.func51, Try.ntmps51
    go_wp2_with fail
    go_ret
    exact ⟨rfl, h, (Only.refl g w)⟩

theorem intR_of (s : ByteArray) (e : Int) : (intR s e).2 = (uintR s e).2 ∧ ∃ v : Nat, (uintR s e).1 = v ∧ v < 18446744073709551616 ∧ (intR s e).1 = sgn v := by
  have hv := num0_lt s
  unfold intR uintR takeR
  split
  · split
    · exact ⟨rfl, _, rfl, hv, rfl⟩
    · exact ⟨rfl, 0, rfl, by decide, rfl⟩
  · exact ⟨rfl, 0, rfl, by decide, rfl⟩

set_option maxRecDepth 100000 in
theorem refInt_calls (g : Nat) (s : ByteArray) (e0 : Int) (w : World) (hs : s.size ≤ maxLen) (h : RfIs w g s e0) :
    Calls Try.prog 53 #[.pointer (some ⟨g, 0, none⟩)] w fun e w' => e = .returned (.int .i64 (intR s e0).1) ∧ RfIs w' g (intR s e0).2.1 (intR s e0).2.2 ∧ Only g w w' := by
  have HU := Lib.hid (refUint_calls g s e0 w hs h)
  obtain ⟨h2, v, hv, hv2, hi⟩ := intR_of s e0
  rw [h2, hi]
  rw [hv] at HU
  generalize (uintR s e0).2 = R at HU ⊢
  clear h2 hi hv h
  have e1 : Int.tmod (v : Int) 2 = ((v % 2 : Nat) : Int) := by rw [Int.tmod_eq_emod_of_nonneg (by omega)]; omega
  by_cases h0 : v % 2 = 0
  · have hs : sgn v = ((v / 2 : Nat) : Int) := by unfold sgn; rw [if_pos h0]
    rw [hs]
    clear hs
    rw [h0] at e1
    go_enter Try.func53, Try.ntmps53
    go_wp2_with fail
    refine HU.out.mono ?_
    rintro e w1 ⟨rfl, hr, ho⟩
    have HR := Lib.hid hr
    have HO := Lib.hid ho
    clear hr ho HU
    go_wp2_with fail
    go_ret
    exact ⟨show Ending.returned (.int .i64 ((v : Int) / 2)) = _ by rw [Int.natCast_ediv]; rfl, HR.out, HO.out⟩
  · have h1 : v % 2 = 1 := by omega
    have hs : sgn v = -((v / 2 : Nat) : Int) - 1 := by unfold sgn; rw [if_neg h0]
    rw [hs]
    clear hs
    rw [h1] at e1
    go_enter Try.func53, Try.ntmps53
    go_wp2_with fail
    refine HU.out.mono ?_
    rintro e w1 ⟨rfl, hr, ho⟩
    have HR := Lib.hid hr
    have HO := Lib.hid ho
    clear hr ho HU
    go_wp2_with fail
    go_ret
    exact ⟨show Ending.returned (.int .i64 (-((v : Int) / 2) - 1)) = _ by rw [Int.natCast_ediv]; rfl, HR.out, HO.out⟩

set_option maxRecDepth 100000 in
theorem refByte_calls (g : Nat) (s : ByteArray) (e0 : Int) (w : World) (h : RfIs w g s e0) :
    Calls Try.prog 55 #[.pointer (some ⟨g, 0, none⟩)] w fun e w' => e = .returned (.int .u8 (byteR s e0).1) ∧ RfIs w' g (byteR s e0).2.1 (byteR s e0).2.2 ∧ Only g w w' := by
  have h0 := h.c0
  have h1 := h.c1
  have f0 := h.f0
  have f1 := h.f1
  by_cases he : e0 = 0
  · subst he
    by_cases hz : 0 < s.size
    · have hx : byteR s 0 = ((s[0].toNat : Int), s.extract 1 s.size, 0) := by
        unfold byteR byte0; rw [dif_pos hz, takeR_ok]
      have he := str_some hz
      rw [hx]
      clear hx
      go_enter Try.func55, Try.ntmps55
      go_wp2
      go_ret
      exact ⟨rfl, (h.set0 _), (Only.refl g w).set 0 _⟩
    · have hx : byteR s 0 = (0, s, 2) := by
        unfold byteR byte0; rw [dif_neg hz, takeR_er _ _ _ _ _ (by decide)]; rfl
      have he : s.toList = [] := str_none (by omega)
      rw [hx]
      clear hx
      go_enter Try.func55, Try.ntmps55
      go_wp2_with fail
      go_ret
      exact ⟨rfl, (h.set1 _), (Only.refl g w).set 1 _⟩
  · have hb : (e0 != 0) = true := by simpa using he
    have hb2 : (e0 == 0) = false := by simpa using he
    have hx : byteR s e0 = (0, s, e0) := by unfold byteR; rw [takeR_no _ _ _ _ he]
    rw [hx]
    clear hx he
    go_enter Try.func55, Try.ntmps55
    go_wp2_with fail
    go_ret
    exact ⟨rfl, h, (Only.refl g w)⟩

set_option maxRecDepth 100000 in
theorem refEnd_calls (g : Nat) (s : ByteArray) (e0 : Int) (w : World) (h : RfIs w g s e0) :
    Calls Try.prog 59 #[.pointer (some ⟨g, 0, none⟩)] w fun e w' => e = .returned (.int .i64 (endR s e0)) ∧ w = w' := by
  have h0 := h.c0
  have h1 := h.c1
  by_cases he : e0 = 0
  · subst he
    by_cases hz : 0 < s.size
    · have he := str_some hz
      rw [show endR s 0 = 3 by simp [endR, hz]]
      go_enter Try.func59, Try.ntmps59
      go_wp2
      go_ret
      exact ⟨rfl, rfl⟩
    · have he : s.toList = [] := str_none (by omega)
      rw [show endR s 0 = 0 by unfold endR; rw [if_neg (by simp [hz])]]
      go_enter Try.func59, Try.ntmps59
      go_wp2
      go_ret
      exact ⟨rfl, rfl⟩
  · have hb : (e0 == 0) = false := by simpa using he
    rw [show endR s e0 = e0 by simp [endR, he]]
    go_enter Try.func59, Try.ntmps59
    go_wp2
    go_ret
    exact ⟨rfl, rfl⟩

/-- What the reference's Text comes to, with what its number came to. -/
theorem textR_by (s : ByteArray) (e0 : Int) (most : Int) (v : Nat) (s1 : ByteArray) (e1 : Int) (hu : uintR s e0 = ((v : Int), s1, e1)) :
    (e1 ≠ 0 → textR s e0 most = (⟨#[]⟩, s, e1)) ∧ (e1 = 0 → most < 0 ∨ most < v → textR s e0 most = (⟨#[]⟩, s, 13)) ∧
    (e1 = 0 → ¬ (most < 0 ∨ most < v) → s1.size < v → textR s e0 most = (⟨#[]⟩, s, 2)) ∧ (e1 = 0 → ¬ (most < 0 ∨ most < v) → v ≤ s1.size → textR s e0 most = (s1.extract 0 v, s1.extract v s1.size, 0)) := by
  by_cases he : e0 = 0
  · subst he
    by_cases hn : (num0 s).2.2 = 0
    · obtain ⟨n0, n1, _, _⟩ := num0_ok s hn
      have hu2 : uintR s 0 = (((num0 s).1 : Int), s.extract (num0 s).2.1 s.size, 0) := by unfold uintR; rw [hn, takeR_ok]
      rw [hu2] at hu
      simp only [Prod.mk.injEq] at hu
      obtain ⟨hv, rfl, rfl⟩ := hu
      obtain rfl : (num0 s).1 = v := by omega
      have hsz : (s.extract (num0 s).2.1 s.size).size = s.size - (num0 s).2.1 := extract_size_le _ _ _ (Nat.le_refl _)
      refine ⟨fun h => absurd rfl h, fun _ h => ?_, fun _ h h2 => ?_, fun _ h h2 => ?_⟩
      · unfold textR text0; rw [if_neg (by omega), if_pos h, takeR_er _ _ _ _ _ (by decide)]; rfl
      · unfold textR text0; rw [if_neg (by omega), if_neg h, if_pos (by omega), takeR_er _ _ _ _ _ (by decide)]; rfl
      · unfold textR text0
        rw [if_neg (by omega), if_neg h, if_neg (by omega), takeR_ok]
        dsimp only
        congr 1
        · apply ba_ext
          rw [Lib.extract_data, Lib.extract_data, extract_tail]
          simp
        · congr 1
          apply ba_ext
          rw [extract_tail, extract_tail, extract_tail, List.drop_drop]
    · have hu2 : uintR s 0 = (0, s, ((num0 s).2.2 : Int)) := by unfold uintR; rw [takeR_er _ _ _ _ _ hn]
      rw [hu2] at hu
      simp only [Prod.mk.injEq] at hu
      obtain ⟨hv, rfl, rfl⟩ := hu
      refine ⟨fun _ => ?_, fun h => by omega, fun h => by omega, fun h => by omega⟩
      unfold textR text0; rw [if_pos hn, takeR_er _ _ _ _ _ hn]
  · have hu2 : uintR s e0 = (0, s, e0) := by unfold uintR; rw [takeR_no _ _ _ _ he]
    rw [hu2] at hu
    simp only [Prod.mk.injEq] at hu
    obtain ⟨hv, rfl, rfl⟩ := hu
    refine ⟨fun _ => ?_, fun h => absurd h he, fun h => absurd h he, fun h => absurd h he⟩
    unfold textR; rw [takeR_no _ _ _ _ he]
theorem uintR_nat (s : ByteArray) (e : Int) : ∃ v : Nat, (uintR s e).1 = v ∧ v < 18446744073709551616 := by
  obtain ⟨_, v, h, h2, _⟩ := intR_of s e
  exact ⟨v, h, h2⟩
theorem uintR_size (s : ByteArray) (e : Int) : (uintR s e).2.1.size ≤ s.size := by
  unfold uintR takeR
  split
  · split
    · show (s.extract _ s.size).size ≤ _; rw [extract_size_le _ _ _ (Nat.le_refl _)]; omega
    · exact Nat.le_refl _
  · exact Nat.le_refl _

set_option maxRecDepth 100000 in
theorem refText_calls (g : Nat) (s : ByteArray) (e0 : Int) (most : Int) (w : World) (hs : s.size ≤ maxLen) (hm : -9223372036854775808 ≤ most) (hm2 : most ≤ 9223372036854775807) (h : RfIs w g s e0) :
    Calls Try.prog 56 #[.pointer (some ⟨g, 0, none⟩), .int .i64 most] w fun e w' => e = .returned (.string (textR s e0 most).1) ∧ RfIs w' g (textR s e0 most).2.1 (textR s e0 most).2.2 ∧ Only g w w' := by
  have h0 := h.c0
  have HU := Lib.hid (refUint_calls g s e0 w hs h)
  obtain ⟨v, hv, hv2⟩ := uintR_nat s e0
  have hsz := uintR_size s e0
  have hby := textR_by s e0 most v (uintR s e0).2.1 (uintR s e0).2.2 (by rw [← hv])
  rw [hv] at HU
  generalize (uintR s e0).2 = R at HU hby hsz
  obtain ⟨s1, e1⟩ := R
  dsimp only at HU hby hsz
  obtain ⟨b1, b2, b3, b4⟩ := hby
  unfold maxLen at hs
  clear hv h
  by_cases he : e1 = 0
  · subst he
    clear b1
    by_cases c1 : most < 0 ∨ most < v
    · rw [b2 rfl c1]
      clear b2 b3 b4
      by_cases c2 : most < 0
      · clear c1
        go_enter Try.func56, Try.ntmps56
        go_wp2_with fail
        refine HU.out.mono ?_
        rintro e w1 ⟨rfl, hr, ho⟩
        have HR := Lib.hid hr
        have HO := Lib.hid ho
        have k0 := hr.c0
        have k1 := hr.c1
        have l0 := hr.f0
        have l1 := hr.f1
        clear hr ho HU h0
        go_wp2_with fail
        go_ret
        exact ⟨rfl, (HR.out.set1 _).set0 _, (HO.out.set 1 _).set 0 _⟩
      · obtain ⟨m, rfl⟩ := Int.eq_ofNat_of_zero_le (show 0 ≤ most by omega)
        have c3 : (m : Int) < v := by omega
        clear c1
        go_enter Try.func56, Try.ntmps56
        go_wp2_with fail
        refine HU.out.mono ?_
        rintro e w1 ⟨rfl, hr, ho⟩
        have HR := Lib.hid hr
        have HO := Lib.hid ho
        have k0 := hr.c0
        have k1 := hr.c1
        have l0 := hr.f0
        have l1 := hr.f1
        clear hr ho HU h0
        go_wp2_with fail
        go_ret
        exact ⟨rfl, (HR.out.set1 _).set0 _, (HO.out.set 1 _).set 0 _⟩
    · obtain ⟨m, rfl⟩ := Int.eq_ofNat_of_zero_le (show 0 ≤ most by omega)
      have c3 : ¬ (m : Int) < v := by omega
      by_cases c4 : s1.size < v
      · rw [b3 rfl c1 c4]
        clear b2 b3 b4 c1
        have c5 : (s1.size : Int) < v := by omega
        go_enter Try.func56, Try.ntmps56
        go_wp2_with fail
        refine HU.out.mono ?_
        rintro e w1 ⟨rfl, hr, ho⟩
        have HR := Lib.hid hr
        have HO := Lib.hid ho
        have k0 := hr.c0
        have k1 := hr.c1
        have l0 := hr.f0
        have l1 := hr.f1
        clear hr ho HU h0
        go_wp2_with fail
        go_ret
        exact ⟨rfl, (HR.out.set1 _).set0 _, (HO.out.set 1 _).set 0 _⟩
      · rw [b4 rfl c1 (by omega)]
        clear b2 b3 b4 c1
        have c5 : ¬ (s1.size : Int) < v := by omega
        go_enter Try.func56, Try.ntmps56
        go_wp2_with fail
        refine HU.out.mono ?_
        rintro e w1 ⟨rfl, hr, ho⟩
        have HR := Lib.hid hr
        have HO := Lib.hid ho
        have k0 := hr.c0
        have k1 := hr.c1
        have l0 := hr.f0
        have l1 := hr.f1
        clear hr ho HU h0
        go_wp2_with fail
        go_ret
        exact ⟨rfl, HR.out.set0 _, HO.out.set 0 _⟩
  · have hb : (e1 != 0) = true := by simpa using he
    have hb2 : (e1 == 0) = false := by simpa using he
    rw [b1 he]
    clear b1 b2 b3 b4 he
    go_enter Try.func56, Try.ntmps56
    go_wp2_with fail
    refine HU.out.mono ?_
    rintro e w1 ⟨rfl, hr, ho⟩
    have HR := Lib.hid hr
    have HO := Lib.hid ho
    have k0 := hr.c0
    have k1 := hr.c1
    have l0 := hr.f0
    have l1 := hr.f1
    clear hr ho HU h0
    go_wp2_with fail
    go_ret
    exact ⟨rfl, HR.out.set0 _, HO.out.set 0 _⟩
end Go.Proofs.Ytfemjlhfgmbcmaa
