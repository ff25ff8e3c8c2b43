/- Plain facts on numbers as bytes, and on what a call leaves alone: for the reader's contracts. No conditions. -/
import Derived.WalkKit
import Derived.Below
import Derived.Laws.BitsLemmas
import Derived.Laws.Bits64
namespace Go.Proofs.Ytfemjlhfgmbcmaa
open Go.RowKit

/-- The number that begins bytes: its value, how many bytes, why not. -/
def numL (i v : Nat) : List UInt8 → Nat × Nat × Nat
  | [] => (0, 0, 2)
  | b :: t => if (i = 9 ∧ 1 < b.toNat) ∨ (0 < i ∧ b.toNat = 0) then (0, 0, 3)
      else if b.toNat < 128 then (v + b.toNat % 128 * 2 ^ (7 * i), i + 1, 0) else numL (i + 1) (v + b.toNat % 128 * 2 ^ (7 * i)) t

theorem pow7_le (k : Nat) (h : k ≤ 9) : 2 ^ (7 * k) ≤ 9223372036854775808 := by
  have := Nat.pow_le_pow_right (n := 2) (by decide) (show 7 * k ≤ 63 by omega)
  simpa using this

theorem pow7_succ (k : Nat) : 2 ^ (7 * (k + 1)) = 128 * 2 ^ (7 * k) := by
  rw [show 7 * (k + 1) = 7 * k + 7 by omega, Nat.pow_add]; omega

theorem wraps_u64 (n : Int) (h₀ : 0 ≤ n) (h₁ : n < 2 ^ 64) : IntKind.u64.wrap n = n := by rw [IntKind.wrap_u64]; omega

/-- One round of reading a number: the byte's seven bits come above those that are there. -/
theorem num_step (x b k : Nat) (hk : k ≤ 9) (hx : x < 2 ^ (7 * k)) (hb : b < 256) (h9 : k = 9 → b ≤ 1) :
    bits .or .u64 (x : Int) (IntKind.u64.wrap (IntKind.u64.wrap (bits .and .u8 (b : Int) 127) * 2 ^ (7 * k))) = ((x + b % 128 * 2 ^ (7 * k) : Nat) : Int) := by
  have ha : bits .and .u8 (b : Int) 127 = ((b % 128 : Nat) : Int) := by
    have := bits_mask .u8 8 (by decide) wraps_u8 7 (by decide) (b : Int) (by omega) (by omega)
    simpa using this
  have hp := pow7_le k hk
  have hm : b % 128 * 2 ^ (7 * k) < 2 ^ 64 := by
    by_cases h : k = 9
    · have := h9 h; subst h
      have : b % 128 ≤ 1 := by omega
      have := Nat.mul_le_mul_right (2 ^ (7 * 9)) this
      omega
    · have h8 := Nat.pow_le_pow_right (n := 2) (by decide) (show 7 * k ≤ 56 by omega)
      have : b % 128 ≤ 127 := by omega
      have := Nat.mul_le_mul this h8
      omega
  rw [ha, wraps_u64 ((b % 128 : Nat) : Int) (by omega) (by omega)]
  have e : (((b % 128 : Nat) : Int) * 2 ^ (7 * k)) = ((b % 128 * 2 ^ (7 * k) : Nat) : Int) := by rw [Int.natCast_mul, Int.natCast_pow]; rfl
  rw [e, wraps_u64 _ (by omega) (by omega)]
  have hx64 : x < 2 ^ 64 := by omega
  rw [(bits_nat .u64 64 (by decide) wraps_u64 x _ hx64 hm).2]
  congr 1
  rw [Nat.mul_comm (b % 128), Nat.add_comm, Nat.or_comm, Nat.two_pow_add_eq_or_of_lt hx]

theorem num_lt (x b k : Nat) (hx : x < 2 ^ (7 * k)) : x + b % 128 * 2 ^ (7 * k) < 2 ^ (7 * (k + 1)) := by
  rw [pow7_succ]
  have h : b % 128 ≤ 127 := by omega
  have := Nat.mul_le_mul_right (2 ^ (7 * k)) h
  omega

/-- Of what was there, the call has turned block g alone. -/
structure Only (g : Nat) (w w' : World) : Prop where
  os : w'.os = w.os
  tape : w'.tape = w.tape
  output : w'.output = w.output
  size : w.heap.size ≤ w'.heap.size
  block : ∀ k, k < w.heap.size → k ≠ g → w'.heap[k]? = w.heap[k]?

namespace Only
variable {g : Nat} {w w1 w2 : World}
theorem refl (g : Nat) (w : World) : Only g w w := ⟨rfl, rfl, rfl, Nat.le_refl _, fun _ _ _ => rfl⟩
theorem trans (h : Only g w w1) (k : Only g w1 w2) : Only g w w2 :=
  ⟨k.os.trans h.os, k.tape.trans h.tape, k.output.trans h.output, Nat.le_trans h.size k.size, fun i hi hg => (k.block i (Nat.lt_of_lt_of_le hi h.size) hg).trans (h.block i hi hg)⟩
theorem drew (h : Only g w w1) : Only g w w1.drew := ⟨h.os, h.tape, h.output, h.size, h.block⟩
theorem below (h : Only g w w1) (k : Below w1.heap.size w1 w2) : Only g w w2 :=
  ⟨k.os.trans h.os, k.tape.trans h.tape, k.output.trans h.output, Nat.le_trans h.size k.size, fun i hi hg => (k.block i (Nat.lt_of_lt_of_le hi h.size)).trans (h.block i hi hg)⟩
theorem alloc (h : Only g w w1) (o : Obj) : Only g w (w1.alloc o) := h.below ((Below.refl _ _).alloc (Nat.le_refl _) o)
theorem set (h : Only g w w1) (j : Nat) (u : Value) : Only g w (w1.setCell ⟨g, j, none⟩ u) :=
  ⟨h.os, h.tape, h.output, by simpa [World.setCell] using h.size, fun i hi hg => (Below.heap_setCell w1 ⟨g, j, none⟩ u i hg).trans (h.block i hi hg)⟩
/-- A store into a block that is new since. -/
theorem setNew (h : Only g w w1) {p : Addr} (hp : w.heap.size ≤ p.block) (u : Value) : Only g w (w1.setCell p u) :=
  ⟨h.os, h.tape, h.output, by simpa [World.setCell] using h.size, fun i hi hg => (Below.heap_setCell w1 p u i (by omega)).trans (h.block i hi hg)⟩
theorem toBelow {B : Nat} {w0 : World} (h : Only g w w1) (hB : Below B w0 w) (hg : B ≤ g) (hs : B ≤ w.heap.size) : Below B w0 w1 :=
  hB.trans ⟨h.os, h.tape, h.output, h.size, fun k hk => h.block k (by omega) (by omega)⟩
theorem blk {g' : Nat} {o : Obj} (h : Only g w w1) (hb : w.heap[g']? = some o) (hne : g' ≠ g) : w1.heap[g']? = some o := by
  have : g' < w.heap.size := (Array.getElem?_eq_some_iff.1 hb).1
  rw [h.block g' this hne]; exact hb
end Only

/-- A reader at block g: its bytes, why it is wrong. -/
def RdIs (w : World) (g : Nat) (s : ByteArray) (e : Int) : Prop := w.heap[g]? = some (.cells #[.string s, .int .i64 e] 113 (0, 0))
namespace RdIs
variable {w w1 : World} {g : Nat} {s : ByteArray} {e : Int}
theorem lt (h : RdIs w g s e) : g < w.heap.size := (Array.getElem?_eq_some_iff.1 h).1
theorem c0 (h : RdIs w g s e) : w.cell? ⟨g, 0, none⟩ = some (.string s) := by unfold RdIs at h; simp [World.cell?, h]
theorem c1 (h : RdIs w g s e) : w.cell? ⟨g, 1, none⟩ = some (.int .i64 e) := by unfold RdIs at h; simp [World.cell?, h]
theorem f0 (h : RdIs w g s e) : w.frozen? ⟨g, 0, none⟩ = false := by unfold RdIs at h; simp [World.frozen?, h]
theorem f1 (h : RdIs w g s e) : w.frozen? ⟨g, 1, none⟩ = false := by unfold RdIs at h; simp [World.frozen?, h]
theorem at_ (h : RdIs w g s e) : w.heap[g]'h.lt = .cells #[.string s, .int .i64 e] 113 (0, 0) := by
  have := h; unfold RdIs at this; rw [Array.getElem?_eq_getElem h.lt] at this; exact Option.some.inj this
theorem set0 (h : RdIs w g s e) (s' : ByteArray) : RdIs (w.setCell ⟨g, 0, none⟩ (.string s')) g s' e := by
  show (w.heap.modify g _)[g]? = _
  rw [Array.getElem?_eq_getElem (by simpa using h.lt), Array.getElem_modify_self, h.at_]
  rfl
theorem set1 (h : RdIs w g s e) (e' : Int) : RdIs (w.setCell ⟨g, 1, none⟩ (.int .i64 e')) g s e' := by
  show (w.heap.modify g _)[g]? = _
  rw [Array.getElem?_eq_getElem (by simpa using h.lt), Array.getElem_modify_self, h.at_]
  rfl
theorem only {g' : Nat} (h : RdIs w g s e) (ho : Only g' w w1) (hne : g ≠ g') : RdIs w1 g s e := ho.blk h hne
theorem below (h : RdIs w g s e) (ho : Below w.heap.size w w1) : RdIs w1 g s e := (ho.block g h.lt).trans h
theorem alloc (h : RdIs w g s e) (o : Obj) : RdIs (w.alloc o) g s e := h.below ((Below.refl _ _).alloc (Nat.le_refl _) o)
end RdIs

/-- What reading a number brings: only if it ends well has it bytes. -/
theorem numL_ok : ∀ (l : List UInt8) (i v : Nat), i ≤ 9 → v < 2 ^ (7 * i) → (numL i v l).2.2 = 0 → i < (numL i v l).2.1 ∧ (numL i v l).2.1 ≤ i + l.length ∧ (numL i v l).2.1 ≤ 10 ∧ (numL i v l).1 < 18446744073709551616
  | [], i, v, _, _, h => by simp [numL] at h
  | b :: t, i, v, hi, hv, h => by
    have hb := b.toNat_lt
    by_cases c : (i = 9 ∧ 1 < b.toNat) ∨ (0 < i ∧ b.toNat = 0)
    · simp [numL, if_pos c] at h
    · by_cases c2 : b.toNat < 128
      · have e : numL i v (b :: t) = (v + b.toNat % 128 * 2 ^ (7 * i), i + 1, 0) := by rw [numL, if_neg c, if_pos c2]
        rw [e]
        dsimp only
        refine ⟨by omega, by simp only [List.length_cons]; omega, by omega, ?_⟩
        show v + b.toNat % 128 * 2 ^ (7 * i) < _
        by_cases h9 : i = 9
        · subst h9
          have : b.toNat % 128 ≤ 1 := by omega
          have := Nat.mul_le_mul_right (2 ^ (7 * 9)) this
          omega
        · have h8 := Nat.pow_le_pow_right (n := 2) (by decide) (show 7 * (i + 1) ≤ 63 by omega)
          have := num_lt v b.toNat i hv
          omega
      · have h9 : i ≠ 9 := by omega
        have e : numL i v (b :: t) = numL (i + 1) (v + b.toNat % 128 * 2 ^ (7 * i)) t := by rw [numL, if_neg c, if_neg c2]
        rw [e] at h ⊢
        obtain ⟨p, q, r, s⟩ := numL_ok t (i + 1) _ (by omega) (num_lt v b.toNat i hv) h
        exact ⟨by omega, by simp only [List.length_cons]; omega, r, s⟩
theorem numL_no : ∀ (l : List UInt8) (i v : Nat), (numL i v l).2.2 ≠ 0 → (numL i v l).1 = 0 ∧ (numL i v l).2.1 = 0 ∧ ((numL i v l).2.2 = 2 ∨ (numL i v l).2.2 = 3)
  | [], i, v, _ => by simp [numL]
  | b :: t, i, v, h => by
    by_cases c : (i = 9 ∧ 1 < b.toNat) ∨ (0 < i ∧ b.toNat = 0)
    · simp [numL, if_pos c]
    · by_cases c2 : b.toNat < 128
      · simp [numL, if_neg c, if_pos c2] at h
      · have e : numL i v (b :: t) = numL (i + 1) (v + b.toNat % 128 * 2 ^ (7 * i)) t := by rw [numL, if_neg c, if_neg c2]
        rw [e] at h ⊢
        exact numL_no t _ _ h

/-- The number at the head of a text. -/
def num0 (s : ByteArray) : Nat × Nat × Nat := numL 0 0 s.data.toList
theorem num0_ok (s : ByteArray) (h : (num0 s).2.2 = 0) : 0 < (num0 s).2.1 ∧ (num0 s).2.1 ≤ s.size ∧ (num0 s).2.1 ≤ 10 ∧ (num0 s).1 < 18446744073709551616 := by
  have := numL_ok s.data.toList 0 0 (by decide) (by decide) h
  simpa [num0] using this
theorem num0_no (s : ByteArray) (h : (num0 s).2.2 ≠ 0) : (num0 s).1 = 0 ∧ (num0 s).2.1 = 0 ∧ ((num0 s).2.2 = 2 ∨ (num0 s).2.2 = 3) := numL_no _ _ _ h
end Go.Proofs.Ytfemjlhfgmbcmaa
