/- The contracts of wire.take at its five uses. Printed by gen_hc.py (this session's own program). -/
import Derived.Test.YtfemjlhfgmbcmaaHb
namespace Go.Proofs.Ytfemjlhfgmbcmaa
open Go.RowKit

/-- What take comes to. -/
def takeR {α : Type} (z : α) (s : ByteArray) (e : Int) (t : α × Nat × Nat) : α × ByteArray × Int :=
  if e = 0 then (if t.2.2 = 0 then (t.1, s.extract t.2.1 s.size, 0) else (z, s, t.2.2)) else (z, s, e)
theorem takeR_ok {α : Type} (z : α) (s : ByteArray) (v : α) (n : Nat) : takeR z s 0 (v, n, 0) = (v, s.extract n s.size, 0) := rfl
theorem takeR_er {α : Type} (z : α) (s : ByteArray) (v : α) (n er : Nat) (h : er ≠ 0) : takeR z s 0 (v, n, er) = (z, s, (er : Int)) := by simp [takeR, h]
theorem takeR_no {α : Type} (z : α) (s : ByteArray) (e : Int) (t : α × Nat × Nat) (h : e ≠ 0) : takeR z s e t = (z, s, e) := by simp [takeR, h]

set_option maxRecDepth 100000 in
theorem take71_72 (g : Nat) (s : ByteArray) (e0 : Int) (w : World) (h : RdIs w g s e0) (v : Int) (n er : Nat)
    (HN : e0 = 0 → Calls Try.prog 72 #[.pointer (some ⟨g, 0, none⟩)] w fun e w' => e = .returned (.tuple #[.int .u64 v, .int .i64 n, .int .i64 er]) ∧ w = w') (hn : er = 0 → n ≤ s.size) :
    Calls Try.prog 71 #[.pointer (some ⟨g, 0, none⟩), .func (.func 72) #[.pointer (some ⟨g, 0, none⟩)] #[]] w fun e w' => e = .returned (.int .u64 (takeR (0 : Int) s e0 (v, n, er)).1) ∧ RdIs w' g (takeR (0 : Int) s e0 (v, n, er)).2.1 (takeR (0 : Int) s e0 (v, n, er)).2.2 ∧ Only g w w' := by
  have h0 := h.c0
  have h1 := h.c1
  have f0 := h.f0
  have f1 := h.f1

  by_cases he : e0 = 0
  · subst he
    have HN2 := Lib.hid (HN rfl)
    clear HN
    by_cases her : er = 0
    · subst her
      have n1 := hn rfl
      clear hn
      rw [takeR_ok]
      go_enter Try.func71, Try.ntmps71
      go_wp2_with (go_at_call 72; refine HN2.out.mono ?_; rintro e w' ⟨rfl, rfl⟩)
      go_ret
      exact ⟨rfl, (h.set0 _), (Only.refl g w).set 0 _⟩
    · have hb : ((er : Int) != 0) = true := by simpa using her
      rw [takeR_er _ _ _ _ _ her]
      clear hn
      go_enter Try.func71, Try.ntmps71
      go_wp2_with (go_at_call 72; refine HN2.out.mono ?_; rintro e w' ⟨rfl, rfl⟩)
      go_ret
      exact ⟨rfl, (h.set1 _), (Only.refl g w).set 1 _⟩
  · have hb : (e0 != 0) = true := by simpa using he
    rw [takeR_no _ _ _ _ he]
    clear he HN hn
    go_enter Try.func71, Try.ntmps71
    go_wp2_with fail
    go_ret
    exact ⟨rfl, h, (Only.refl g w)⟩

set_option maxRecDepth 100000 in
theorem take94_95 (g : Nat) (s : ByteArray) (e0 : Int) (w : World) (h : RdIs w g s e0) (v : Int) (n er : Nat)
    (HN : e0 = 0 → Calls Try.prog 95 #[.pointer (some ⟨g, 0, none⟩)] w fun e w' => e = .returned (.tuple #[.int .i64 v, .int .i64 n, .int .i64 er]) ∧ w = w') (hn : er = 0 → n ≤ s.size) :
    Calls Try.prog 94 #[.pointer (some ⟨g, 0, none⟩), .func (.func 95) #[.pointer (some ⟨g, 0, none⟩)] #[]] w fun e w' => e = .returned (.int .i64 (takeR (0 : Int) s e0 (v, n, er)).1) ∧ RdIs w' g (takeR (0 : Int) s e0 (v, n, er)).2.1 (takeR (0 : Int) s e0 (v, n, er)).2.2 ∧ Only g w w' := by
  have h0 := h.c0
  have h1 := h.c1
  have f0 := h.f0
  have f1 := h.f1

  by_cases he : e0 = 0
  · subst he
    have HN2 := Lib.hid (HN rfl)
    clear HN
    by_cases her : er = 0
    · subst her
      have n1 := hn rfl
      clear hn
      rw [takeR_ok]
      go_enter Try.func94, Try.ntmps94
      go_wp2_with (go_at_call 95; refine HN2.out.mono ?_; rintro e w' ⟨rfl, rfl⟩)
      go_ret
      exact ⟨rfl, (h.set0 _), (Only.refl g w).set 0 _⟩
    · have hb : ((er : Int) != 0) = true := by simpa using her
      rw [takeR_er _ _ _ _ _ her]
      clear hn
      go_enter Try.func94, Try.ntmps94
      go_wp2_with (go_at_call 95; refine HN2.out.mono ?_; rintro e w' ⟨rfl, rfl⟩)
      go_ret
      exact ⟨rfl, (h.set1 _), (Only.refl g w).set 1 _⟩
  · have hb : (e0 != 0) = true := by simpa using he
    rw [takeR_no _ _ _ _ he]
    clear he HN hn
    go_enter Try.func94, Try.ntmps94
    go_wp2_with fail
    go_ret
    exact ⟨rfl, h, (Only.refl g w)⟩

set_option maxRecDepth 100000 in
theorem take96_97 (g : Nat) (s : ByteArray) (e0 : Int) (w : World) (h : RdIs w g s e0) (v : Int) (n er : Nat)
    (HN : e0 = 0 → Calls Try.prog 97 #[.pointer (some ⟨g, 0, none⟩)] w fun e w' => e = .returned (.tuple #[.int .u8 v, .int .i64 n, .int .i64 er]) ∧ w = w') (hn : er = 0 → n ≤ s.size) :
    Calls Try.prog 96 #[.pointer (some ⟨g, 0, none⟩), .func (.func 97) #[.pointer (some ⟨g, 0, none⟩)] #[]] w fun e w' => e = .returned (.int .u8 (takeR (0 : Int) s e0 (v, n, er)).1) ∧ RdIs w' g (takeR (0 : Int) s e0 (v, n, er)).2.1 (takeR (0 : Int) s e0 (v, n, er)).2.2 ∧ Only g w w' := by
  have h0 := h.c0
  have h1 := h.c1
  have f0 := h.f0
  have f1 := h.f1

  by_cases he : e0 = 0
  · subst he
    have HN2 := Lib.hid (HN rfl)
    clear HN
    by_cases her : er = 0
    · subst her
      have n1 := hn rfl
      clear hn
      rw [takeR_ok]
      go_enter Try.func96, Try.ntmps96
      go_wp2_with (go_at_call 97; refine HN2.out.mono ?_; rintro e w' ⟨rfl, rfl⟩)
      go_ret
      exact ⟨rfl, (h.set0 _), (Only.refl g w).set 0 _⟩
    · have hb : ((er : Int) != 0) = true := by simpa using her
      rw [takeR_er _ _ _ _ _ her]
      clear hn
      go_enter Try.func96, Try.ntmps96
      go_wp2_with (go_at_call 97; refine HN2.out.mono ?_; rintro e w' ⟨rfl, rfl⟩)
      go_ret
      exact ⟨rfl, (h.set1 _), (Only.refl g w).set 1 _⟩
  · have hb : (e0 != 0) = true := by simpa using he
    rw [takeR_no _ _ _ _ he]
    clear he HN hn
    go_enter Try.func96, Try.ntmps96
    go_wp2_with fail
    go_ret
    exact ⟨rfl, h, (Only.refl g w)⟩

set_option maxRecDepth 100000 in
theorem take73_74 (g : Nat) (s : ByteArray) (e0 : Int) (w : World) (p q : Nat) (h : RdIs w g s e0) (v : ByteArray) (n er : Nat)
    (HN : e0 = 0 → Calls Try.prog 74 #[.pointer (some ⟨p, 0, none⟩), .pointer (some ⟨q, 0, none⟩)] w fun e w' => e = .returned (.tuple #[.string v, .int .i64 n, .int .i64 er]) ∧ w = w') (hn : er = 0 → n ≤ s.size) :
    Calls Try.prog 73 #[.pointer (some ⟨g, 0, none⟩), .func (.func 74) #[] #[.pointer (some ⟨p, 0, none⟩), .pointer (some ⟨q, 0, none⟩)]] w fun e w' => e = .returned (.string (takeR (⟨#[]⟩ : ByteArray) s e0 (v, n, er)).1) ∧ RdIs w' g (takeR (⟨#[]⟩ : ByteArray) s e0 (v, n, er)).2.1 (takeR (⟨#[]⟩ : ByteArray) s e0 (v, n, er)).2.2 ∧ Only g w w' := by
  have h0 := h.c0
  have h1 := h.c1
  have f0 := h.f0
  have f1 := h.f1

  by_cases he : e0 = 0
  · subst he
    have HN2 := Lib.hid (HN rfl)
    clear HN
    by_cases her : er = 0
    · subst her
      have n1 := hn rfl
      clear hn
      rw [takeR_ok]
      go_enter Try.func73, Try.ntmps73
      go_wp2_with (go_at_call 74; refine HN2.out.mono ?_; rintro e w' ⟨rfl, rfl⟩)
      go_ret
      exact ⟨rfl, (h.set0 _), (Only.refl g w).set 0 _⟩
    · have hb : ((er : Int) != 0) = true := by simpa using her
      rw [takeR_er _ _ _ _ _ her]
      clear hn
      go_enter Try.func73, Try.ntmps73
      go_wp2_with (go_at_call 74; refine HN2.out.mono ?_; rintro e w' ⟨rfl, rfl⟩)
      go_ret
      exact ⟨rfl, (h.set1 _), (Only.refl g w).set 1 _⟩
  · have hb : (e0 != 0) = true := by simpa using he
    rw [takeR_no _ _ _ _ he]
    clear he HN hn
    go_enter Try.func73, Try.ntmps73
    go_wp2_with fail
    go_ret
    exact ⟨rfl, h, (Only.refl g w)⟩

set_option maxRecDepth 100000 in
theorem take71_92 (g : Nat) (s : ByteArray) (e0 : Int) (w : World) (p q : Nat) (h : RdIs w g s e0) (v : Int) (n er : Nat)
    (HN : e0 = 0 → Calls Try.prog 92 #[.pointer (some ⟨p, 0, none⟩), .pointer (some ⟨q, 0, none⟩)] w fun e w' => e = .returned (.tuple #[.int .u64 v, .int .i64 n, .int .i64 er]) ∧ w = w') (hn : er = 0 → n ≤ s.size) :
    Calls Try.prog 71 #[.pointer (some ⟨g, 0, none⟩), .func (.func 92) #[] #[.pointer (some ⟨p, 0, none⟩), .pointer (some ⟨q, 0, none⟩)]] w fun e w' => e = .returned (.int .u64 (takeR (0 : Int) s e0 (v, n, er)).1) ∧ RdIs w' g (takeR (0 : Int) s e0 (v, n, er)).2.1 (takeR (0 : Int) s e0 (v, n, er)).2.2 ∧ Only g w w' := by
  have h0 := h.c0
  have h1 := h.c1
  have f0 := h.f0
  have f1 := h.f1

  by_cases he : e0 = 0
  · subst he
    have HN2 := Lib.hid (HN rfl)
    clear HN
    by_cases her : er = 0
    · subst her
      have n1 := hn rfl
      clear hn
      rw [takeR_ok]
      go_enter Try.func71, Try.ntmps71
      go_wp2_with (go_at_call 92; refine HN2.out.mono ?_; rintro e w' ⟨rfl, rfl⟩)
      go_ret
      exact ⟨rfl, (h.set0 _), (Only.refl g w).set 0 _⟩
    · have hb : ((er : Int) != 0) = true := by simpa using her
      rw [takeR_er _ _ _ _ _ her]
      clear hn
      go_enter Try.func71, Try.ntmps71
      go_wp2_with (go_at_call 92; refine HN2.out.mono ?_; rintro e w' ⟨rfl, rfl⟩)
      go_ret
      exact ⟨rfl, (h.set1 _), (Only.refl g w).set 1 _⟩
  · have hb : (e0 != 0) = true := by simpa using he
    rw [takeR_no _ _ _ _ he]
    clear he HN hn
    go_enter Try.func71, Try.ntmps71
    go_wp2_with fail
    go_ret
    exact ⟨rfl, h, (Only.refl g w)⟩

end Go.Proofs.Ytfemjlhfgmbcmaa
