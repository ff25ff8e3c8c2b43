/- The examples at the head of wire's statements. -/
import Derived.Test.YtfemjlhfgmbcmaaHe
namespace Go.Proofs.Ytfemjlhfgmbcmaa
open Go.RowKit

theorem encB_300 : encB 300 = ⟨#[172, 2]⟩ := by unfold encB; rw [encL_big (by decide), encL_small (by decide)]; rfl
theorem encB_1 : encB (zig (-1)) = ⟨#[1]⟩ := by unfold encB; rw [show zig (-1) = 1 from rfl, encL_small (by decide)]; rfl
theorem encB_2 : encB 2 = ⟨#[2]⟩ := by unfold encB; rw [encL_small (by decide)]; rfl
theorem uintR_80 : uintR ⟨#[128, 0]⟩ 0 = (0, ⟨#[128, 0]⟩, 3) := by rfl
theorem textR_5 : textR ⟨#[5, 97]⟩ 0 4 = (⟨#[]⟩, ⟨#[5, 97]⟩, 13) := by rfl
theorem text_ab : encB (⟨#[97, 98]⟩ : ByteArray).size ++ (⟨#[97, 98]⟩ : ByteArray) = ⟨#[2, 97, 98]⟩ := by
  rw [show (⟨#[97, 98]⟩ : ByteArray).size = 2 from rfl, encB_2]; rfl

theorem Read_calls2 (s : ByteArray) (w : World) :
    Calls Try.prog 29 #[.string s] w fun e w' => ∃ g : Nat, e = .returned (.pointer (some ⟨g, 0, none⟩)) ∧ RdIs w' g s 0 ∧ Below w.heap.size w w' ∧ w.heap.size ≤ g :=
  (Read_calls s w).mono fun _ _ h => ⟨_, h.1, h.2.1, h.2.2.1, Nat.le_refl _⟩

set_option maxRecDepth 100000 in
theorem shown_calls (w : World) : Calls Try.prog 25 #[] w fun e w' => e = .returned (.bool true) ∧ Below w.heap.size w w' := by
  have c1 := fun w => WUint_calls 300 w (by decide)
  rw [encB_300] at c1
  have c2 := fun w => WInt_calls (-1) w (by decide) (by decide)
  rw [encB_1] at c2
  have c3 := fun w => WText_calls ⟨#[97, 98]⟩ w (by decide)
  rw [text_ab] at c3
  have c4 := fun g w h => Uint_calls g ⟨#[128, 0]⟩ 0 w (by decide) h
  rw [uintR_80] at c4
  have c5 := fun g w h => Text_calls g ⟨#[5, 97]⟩ 0 4 w (by decide) (by decide) (by decide) h
  rw [textR_5] at c5
  have C1 := Lib.hid c1
  have C2 := Lib.hid c2
  have C3 := Lib.hid c3
  have C4 := Lib.hid c4
  have C5 := Lib.hid c5
  clear c1 c2 c3 c4 c5
  have HB := Lib.hid (Below.refl w.heap.size w)
  go_enter Try.func25, Try.ntmps25
  go_wp2_with fail
  refine (C1.out _).mono ?_
  rintro e w1 ⟨rfl, hb⟩
  have HB1 := Lib.hid (HB.out.trans (hb.mono (by have := HB.out.size; omega)))
  clear hb HB
  go_wp2_with fail
  refine (C2.out _).mono ?_
  rintro e w2 ⟨rfl, hb⟩
  have HB2 := Lib.hid (HB1.out.trans (hb.mono (by have := HB1.out.size; omega)))
  clear hb HB1
  go_wp2_with fail
  refine (C3.out _).mono ?_
  rintro e w3 ⟨rfl, hb⟩
  have HB3 := Lib.hid (HB2.out.trans (hb.mono (by have := HB2.out.size; omega)))
  clear hb HB2
  go_wp2_with fail
  refine (Read_calls2 _ _).mono ?_
  rintro e w4 ⟨g1, rfl, h1, hb, hg⟩
  have HB4 := Lib.hid (HB3.out.trans (hb.mono (by have := HB3.out.size; omega)))
  have HG1 := Lib.hid (show w.heap.size ≤ g1 by have := HB3.out.size; omega)
  have H1 := Lib.hid h1
  clear hb HB3 hg h1
  go_wp2_with fail
  refine (C4.out _ _ H1.out).mono ?_
  rintro e w5 ⟨rfl, h1, ho⟩
  have HB5 := Lib.hid (ho.toBelow HB4.out HG1.out HB4.out.size)
  clear H1
  have H1 := Lib.hid h1
  clear h1 ho HB4
  go_wp2_with fail
  refine (Read_calls2 _ _).mono ?_
  rintro e w6 ⟨g2, rfl, h2, hb, hg⟩
  have HB6 := Lib.hid (HB5.out.trans (hb.mono (by have := HB5.out.size; omega)))
  have HG2 := Lib.hid (show w.heap.size ≤ g2 by have := HB5.out.size; omega)
  have HN := Lib.hid (show g1 ≠ g2 by have := H1.out.lt; omega)
  have H1b := Lib.hid (H1.out.below hb)
  have H2 := Lib.hid h2
  clear hb HB5 hg h2 H1
  go_wp2_with fail
  refine (C5.out _ _ H2.out).mono ?_
  rintro e w7 ⟨rfl, h2, ho⟩
  have HB7 := Lib.hid (ho.toBelow HB6.out HG2.out HB6.out.size)
  have H1 := Lib.hid (H1b.out.only ho HN.out)
  clear H2 H1b
  have H2 := Lib.hid h2
  clear h2 ho HB6
  go_wp2_with fail
  refine (Err_calls _ _ _ _ H1.out).mono ?_
  rintro e w8 ⟨rfl, rfl⟩
  go_wp2_with fail
  refine (Err_calls _ _ _ _ H2.out).mono ?_
  rintro e w8 ⟨rfl, rfl⟩
  go_wp2_with fail
  go_ret
  exact ⟨rfl, HB7.out⟩
end Go.Proofs.Ytfemjlhfgmbcmaa
