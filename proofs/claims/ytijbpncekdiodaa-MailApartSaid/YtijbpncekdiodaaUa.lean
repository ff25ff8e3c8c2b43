/- (Bounds as the arguments' bytes give them.) The walk of MailAll. Laid by gen_na_mail.py. -/
import Derived.Test.YtijbpncekdiodaaMk
namespace Go.Proofs.Ytijbpncekdiodaa
open Go.RowKit Go.Proofs.YtijbpncekdiodaaW.PrintWords Go.Proofs.YtijbpncekdiodaaW.PrintLast Go.Proofs.YtijbpncekdiodaaW.PrintMore
open Go.Proofs.Ytijbpncekdiodaa.PMailMoves
set_option linter.unusedVariables false
set_option linter.unusedSimpArgs false

theorem BoxV.after {W W' : World} {g base : Nat} {P : Nat → Prop} {v u u1 : Value} {xs : List S32} (h : BoxV W g base (fun b => P b ∧ some b ≠ u.ownBlock) v xs) (hg : W.grownBy W' u.ownBlock) (hat : u1.ownBlock = u.ownBlock ∨ ∃ b, u1.ownBlock = some b ∧ W.heap.size ≤ b) (hne : some g ≠ u.ownBlock) (hP : ∀ b, P b → b ≠ g) : BoxV W' g base (fun b => P b ∧ some b ≠ u1.ownBlock) v xs :=
  ⟨blk_grown h.1 hg hne, Kd.N_after h.2.1 hg hat, fun k hk => hP k hk.1, h.2.2.2⟩
theorem heap39 : Kd.Heap k39 := Kd.heap_iso _ (Kd.heap_pair (Kd.heap_int _) (Kd.heap_pair (Kd.heap_int _) Kd.heap_string))
theorem heap41 : Kd.Heap k41 := Kd.heap_iso _ (Kd.heap_pair Kd.heap_string heap39)
theorem heap30 : Kd.Heap k30 := Kd.heap_iso _ (Kd.heap_pair (Kd.heap_int _) (Kd.heap_pair (Kd.heap_int _) (Kd.heap_pair (Kd.heap_int _) (Kd.heap_pair (Kd.heap_int _) (Kd.heap_pair (Kd.heap_int _) (Kd.heap_pair (Kd.heap_int _) (Kd.heap_pair (Kd.heap_int _) (Kd.heap_pair (Kd.heap_int _) (Kd.heap_pair (Kd.heap_int _) (Kd.heap_pair Kd.heap_string (Kd.heap_pair Kd.heap_string (Kd.heap_pair Kd.heap_string (Kd.heap_slice _ heap41)))))))))))))
theorem heap32 : Kd.Heap k32 := Kd.heap_iso _ (Kd.heap_pair (Kd.heap_int _) heap30)
/-- What came in stays readable. -/
theorem F_arg {w W : World} {A : Option Addr} {l : List S32} (h : Kd.C k32 w A l.length l) (hb : Below w.heap.size w W) : Kd.F k32 W (fun k => k < w.heap.size) A l.length l := Kd.F_below (Kd.C_F heap32 h) hb
theorem fits_all {l : List S32} (h : ∀ x ∈ l, x.f1.f12.length ≤ 2932031007317) : ∀ x ∈ l, Fits x := fun x hx => by have := h x hx; unfold Fits; omega
theorem drop_cons {l : List S32} {k : Nat} (h : k < l.length) : l.drop k = l.getD k z32 :: l.drop (k + 1) := by
  rw [List.drop_eq_getElem_cons h, List.getD_eq_getElem?_getD, List.getElem?_eq_getElem h]; rfl
theorem take_snoc32 {l : List S32} {k : Nat} (h : k < l.length) : l.take (k + 1) = l.take k ++ [l.getD k z32] := by
  rw [List.take_succ_eq_append_getElem h, List.getD_eq_getElem?_getD, List.getElem?_eq_getElem h]; rfl

end Go.Proofs.Ytijbpncekdiodaa
