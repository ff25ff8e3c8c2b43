/- Sends are the same as themselves. -/
import Derived.Test.YtijbpncekdiodaaMj
import Derived.Test.YtijbpncekdiodaaPMailMovesx3
namespace Go.Proofs.Ytijbpncekdiodaa
open Go.RowKit Go.Proofs.YtijbpncekdiodaaW.PrintWords Go.Proofs.YtijbpncekdiodaaW.PrintLast Go.Proofs.YtijbpncekdiodaaW.PrintMore
open Go.Proofs.Ytijbpncekdiodaa.PMailMoves

theorem same09_l0 (l : List S41) (hl : l.length ≤ 9223372036854775807) : ∀ (d i k : Nat), i + d = l.length → d < k → wherryref09_Same.l0 k l l (i : Int) = some true := by
  intro d
  induction d with
  | zero =>
    intro i k hi hk
    obtain ⟨k, rfl⟩ : ∃ m, k = m + 1 := ⟨k - 1, by omega⟩
    simp only [wherryref09_Same.l0]
    rw [if_neg (by omega)]
  | succ d ih =>
    intro i k hi hk
    obtain ⟨k, rfl⟩ : ∃ m, k = m + 1 := ⟨k - 1, by omega⟩
    simp only [wherryref09_Same.l0]
    rw [if_pos (by omega), if_pos (by omega), if_pos (by omega), if_neg (by simp)]
    rw [show wrap64 ((i : Int) + 1) = ((i + 1 : Nat) : Int) by unfold wrap64; omega]
    exact ih (i + 1) k (by omega) (by omega)
theorem same09_f (l : List S41) (hl : l.length ≤ 9223372036854775807) (k : Nat) (hk : l.length < k) : wherryref09_Same.f k l l = some true := by
  unfold wherryref09_Same.f
  rw [if_pos rfl]
  exact same09_l0 l hl l.length 0 k (by omega) hk
theorem same12_f (a0 a1 a2 a3 a4 a5 a6 a7 a8 : Int) (b0 b1 b2 : ByteArray) (l : List S41) (hl : l.length ≤ 9223372036854775807) (k : Nat) (hk : l.length < k) : wherryref12_Same.f k a0 a1 a2 a3 a4 a5 a6 a7 a8 b0 b1 b2 l a0 a1 a2 a3 a4 a5 a6 a7 a8 b0 b1 b2 l = some true := by
  unfold wherryref12_Same.f
  rw [same09_f l hl k hk]
  simp
theorem same17_l0 (l : List S32) (M : Nat) (hM : M ≤ 9223372036854775807) (hl : l.length ≤ 9223372036854775807) (hv : ∀ x ∈ l, x.f1.f12.length ≤ M) : ∀ (d i k : Nat), i + d = l.length → d + M < k → wherryref17_Same.l0 k l l (i : Int) = some true := by
  intro d
  induction d with
  | zero =>
    intro i k hi hk
    obtain ⟨k, rfl⟩ : ∃ m, k = m + 1 := ⟨k - 1, by omega⟩
    simp only [wherryref17_Same.l0]
    rw [if_neg (by omega)]
  | succ d ih =>
    intro i k hi hk
    obtain ⟨k, rfl⟩ : ∃ m, k = m + 1 := ⟨k - 1, by omega⟩
    have hx := hv (rd_T32 l (i : Int)) (by
      unfold rd_T32
      rw [Int.toNat_natCast, List.getD_eq_getElem?_getD, List.getElem?_eq_getElem (by omega)]
      exact List.getElem_mem _)
    simp only [wherryref17_Same.l0]
    rw [if_pos (by omega), if_pos (by omega), if_pos (by omega)]
    rw [same12_f _ _ _ _ _ _ _ _ _ _ _ _ _ (by omega) k (by omega)]
    simp only [Option.bind_some, if_true]
    rw [show wrap64 ((i : Int) + 1) = ((i + 1 : Nat) : Int) by unfold wrap64; omega]
    exact ih (i + 1) k (by omega) (by omega)
theorem Same17_calls (A B : Option Addr) (cA cB : Nat) (l : List S32) (w : World) (M : Nat) (hM : M ≤ 9223372036854775807) (hv : ∀ x ∈ l, x.f1.f12.length ≤ M) (hA : Kd.C k32 w A l.length l) (hcA : l.length ≤ cA) (hB : Kd.C k32 w B l.length l) (hcB : l.length ≤ cB) :
    Calls Try.prog 13 #[.slice A l.length cA, .slice B l.length cB] w fun e w' => e = .returned (.bool true) ∧ Below w.heap.size w w' :=
  wherryref17_Same.calls (l.length + M + 1) A cA l B cB l true w hA hcA hB hcB (by
    unfold wherryref17_Same.f
    rw [if_pos rfl]
    exact same17_l0 l M hM hA.2.1 hv l.length 0 _ (by omega) (by omega))
end Go.Proofs.Ytijbpncekdiodaa
