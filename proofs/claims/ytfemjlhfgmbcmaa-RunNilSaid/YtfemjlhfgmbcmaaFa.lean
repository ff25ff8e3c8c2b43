/- Plain: the check sum, by bits, by a table; it tells texts apart that differ in one byte. -/
import Derived.Test.YtfemjlhfgmbcmaaHg
namespace Go.Proofs.Ytfemjlhfgmbcmaa
open Go.RowKit

def poly : Nat := 3988292384
def crc1 (c : Nat) : Nat := (c / 2) ^^^ ((c % 2) * poly)
def crcK : Nat → Nat → Nat
  | 0, c => c
  | k + 1, c => crcK k (crc1 c)
def crc8 (c : Nat) : Nat := crcK 8 c
def crcL : Nat → List UInt8 → Nat
  | c, [] => c
  | c, b :: t => crcL (crc8 (c ^^^ b.toNat)) t
def sumN (s : ByteArray) : Nat := 4294967295 - crcL 4294967295 s.data.toList

theorem xcr {a b c : Nat} (h : a ^^^ c = b ^^^ c) : a = b := by
  have := congrArg (· ^^^ c) h
  simpa [Nat.xor_assoc, Nat.xor_self] using this
theorem xcl {a b c : Nat} (h : c ^^^ a = c ^^^ b) : a = b := by rw [Nat.xor_comm c a, Nat.xor_comm c b] at h; exact xcr h

theorem crcK_succ : ∀ (k c : Nat), crcK (k + 1) c = crc1 (crcK k c)
  | 0, _ => rfl
  | k + 1, c => by rw [crcK, crcK_succ k (crc1 c), crcK]

theorem crc1_lt (c : Nat) (h : c < 4294967296) : crc1 c < 4294967296 := by
  unfold crc1
  apply Nat.xor_lt_two_pow (n := 32)
  · omega
  · have : c % 2 = 0 ∨ c % 2 = 1 := by omega
    rcases this with h | h <;> rw [h] <;> decide
theorem crcK_lt : ∀ (k c : Nat), c < 4294967296 → crcK k c < 4294967296
  | 0, _, h => h
  | k + 1, c, h => crcK_lt k _ (crc1_lt c h)
theorem xor_byte_lt (c b : Nat) (h : c < 4294967296) (hb : b < 256) : c ^^^ b < 4294967296 := Nat.xor_lt_two_pow (n := 32) h (by omega)
theorem crcL_lt : ∀ (l : List UInt8) (c : Nat), c < 4294967296 → crcL c l < 4294967296
  | [], _, h => h
  | b :: t, c, h => crcL_lt t _ (crcK_lt 8 _ (xor_byte_lt c _ h b.toNat_lt))
theorem sumN_lt (s : ByteArray) : sumN s < 4294967296 := by unfold sumN; omega

theorem xor_half (x y : Nat) : (x ^^^ y) / 2 = (x / 2) ^^^ (y / 2) := by
  have := Nat.shiftRight_xor_distrib (a := x) (b := y) (i := 1)
  simpa [Nat.shiftRight_eq_div_pow] using this
theorem xor_par (x y : Nat) : (x ^^^ y) % 2 = (x % 2) ^^^ (y % 2) := by
  have := Nat.xor_mod_two_pow (a := x) (b := y) (n := 1)
  simpa using this
theorem xor_four (a b c d : Nat) : (a ^^^ b) ^^^ (c ^^^ d) = (a ^^^ c) ^^^ (b ^^^ d) := by
  rw [Nat.xor_assoc, ← Nat.xor_assoc b c d, Nat.xor_comm b c, Nat.xor_assoc c b d, ← Nat.xor_assoc]
theorem crc1_xor (x y : Nat) : crc1 (x ^^^ y) = crc1 x ^^^ crc1 y := by
  unfold crc1
  rw [xor_half, xor_par, xor_four]
  congr 1
  have h1 : x % 2 = 0 ∨ x % 2 = 1 := by omega
  have h2 : y % 2 = 0 ∨ y % 2 = 1 := by omega
  rcases h1 with h1 | h1 <;> rcases h2 with h2 | h2 <;> rw [h1, h2] <;> simp
theorem crcK_xor : ∀ (k x y : Nat), crcK k (x ^^^ y) = crcK k x ^^^ crcK k y
  | 0, _, _ => rfl
  | k + 1, x, y => by rw [crcK, crc1_xor, crcK_xor k]; rfl
theorem crc1_even (x : Nat) : crc1 (2 * x) = x := by
  unfold crc1
  rw [show 2 * x / 2 = x by omega, show 2 * x % 2 = 0 by omega, Nat.zero_mul, Nat.xor_zero]
theorem crc8_high (x : Nat) : crc8 (256 * x) = x := by
  show crc1 (crc1 (crc1 (crc1 (crc1 (crc1 (crc1 (crc1 (256 * x)))))))) = x
  rw [show 256 * x = 2 * (2 * (2 * (2 * (2 * (2 * (2 * (2 * x))))))) by omega]
  simp only [crc1_even]
/-- The table's way. -/
theorem crc8_table (c b : Nat) : crc8 (c ^^^ b) = (c / 256) ^^^ crc8 ((c % 256) ^^^ b) := by
  have e : c ^^^ b = (256 * (c / 256)) ^^^ ((c % 256) ^^^ b) := by
    rw [← Nat.xor_assoc]
    congr 1
    apply Nat.eq_of_testBit_eq
    intro i
    have h := Nat.testBit_two_pow_mul_add (a := c / 256) (b := c % 256) (i := 8) (by omega) i
    rw [show 2 ^ 8 * (c / 256) + c % 256 = c by omega] at h
    have h2 : (256 * (c / 256)).testBit i = (decide (i ≥ 8) && (c / 256).testBit (i - 8)) := Nat.testBit_two_pow_mul (i := 8) ..
    have h3 : (c % 256).testBit i = (decide (i < 8) && c.testBit i) := Nat.testBit_mod_two_pow c 8 i
    rw [Nat.testBit_xor, h2, h3]
    by_cases hi : i < 8
    · rw [decide_eq_false (by omega : ¬ i ≥ 8), decide_eq_true hi]; simp
    · rw [decide_eq_true (by omega : i ≥ 8), decide_eq_false hi, h, if_neg hi]; simp
  rw [e]
  unfold crc8
  rw [crcK_xor]
  congr 1
  exact crc8_high _
theorem crc1_inj (x y : Nat) (hx : x < 4294967296) (hy : y < 4294967296) (h : crc1 x = crc1 y) : x = y := by
  have top : ∀ z, z < 4294967296 → (crc1 z).testBit 31 = decide (z % 2 = 1) := by
    intro z hz
    unfold crc1
    rw [Nat.testBit_xor, Nat.testBit_lt_two_pow (by omega : z / 2 < 2 ^ 31)]
    have : z % 2 = 0 ∨ z % 2 = 1 := by omega
    rcases this with h | h <;> rw [h] <;> decide
  have hp : decide (x % 2 = 1) = decide (y % 2 = 1) := by rw [← top x hx, ← top y hy, h]
  have hp2 : x % 2 = y % 2 := by
    have := decide_eq_decide.1 hp
    omega
  unfold crc1 at h
  rw [hp2] at h
  have := xcr h
  omega
theorem crcK_inj : ∀ (k x y : Nat), x < 4294967296 → y < 4294967296 → crcK k x = crcK k y → x = y
  | 0, _, _, _, _, h => h
  | k + 1, x, y, hx, hy, h => crc1_inj x y hx hy (crcK_inj k _ _ (crc1_lt x hx) (crc1_lt y hy) h)
theorem crcL_inj : ∀ (l : List UInt8) (x y : Nat), x < 4294967296 → y < 4294967296 → crcL x l = crcL y l → x = y
  | [], _, _, _, _, h => h
  | b :: t, x, y, hx, hy, h => by
    have h1 := crcL_inj t _ _ (crcK_lt 8 _ (xor_byte_lt x _ hx b.toNat_lt)) (crcK_lt 8 _ (xor_byte_lt y _ hy b.toNat_lt)) h
    have h2 := crcK_inj 8 _ _ (xor_byte_lt x _ hx b.toNat_lt) (xor_byte_lt y _ hy b.toNat_lt) h1
    exact xcr h2
theorem crcL_append : ∀ (a b : List UInt8) (c : Nat), crcL c (a ++ b) = crcL (crcL c a) b
  | [], _, _ => rfl
  | x :: a, b, c => by rw [List.cons_append, crcL, crcL_append a b]; rfl
theorem crcL_one (p r : List UInt8) (a b : UInt8) (c : Nat) (hc : c < 4294967296) (h : a ≠ b) : crcL c (p ++ a :: r) ≠ crcL c (p ++ b :: r) := by
  intro e
  rw [crcL_append, crcL_append] at e
  have hl := crcL_lt p c hc
  have h1 := crcL_inj r _ _ (crcK_lt 8 _ (xor_byte_lt _ _ hl a.toNat_lt)) (crcK_lt 8 _ (xor_byte_lt _ _ hl b.toNat_lt)) e
  have h2 := crcK_inj 8 _ _ (xor_byte_lt _ _ hl a.toNat_lt) (xor_byte_lt _ _ hl b.toNat_lt) h1
  exact h (UInt8.toNat_inj.1 (xcl h2))
theorem sumN_one (p r : List UInt8) (a b : UInt8) (s t : ByteArray) (hs : s.data.toList = p ++ a :: r) (ht : t.data.toList = p ++ b :: r) (h : a ≠ b) : sumN s ≠ sumN t := by
  unfold sumN
  rw [hs, ht]
  have h1 := crcL_one p r a b 4294967295 (by decide) h
  have h2 := crcL_lt (p ++ a :: r) 4294967295 (by decide)
  have h3 := crcL_lt (p ++ b :: r) 4294967295 (by decide)
  omega
end Go.Proofs.Ytfemjlhfgmbcmaa
