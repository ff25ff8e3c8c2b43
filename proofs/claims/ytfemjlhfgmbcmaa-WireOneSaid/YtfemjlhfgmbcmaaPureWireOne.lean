/- Proved: WireOne: bytes that are read as a number, or as a text, are just those that it is written as. For every input. -/
import Derived.Test.YtfemjlhfgmbcmaaPWireOnex2
import Derived.Test.YtfemjlhfgmbcmaaHg
namespace Go.Proofs.Ytfemjlhfgmbcmaa.Pure
open Go.RowKit Go.Proofs.Ytfemjlhfgmbcmaa Go.Proofs.Ytfemjlhfgmbcmaa.PWireOne Go.Proofs.YtfemjlhfgmbcmaaW.PrintWords Go.Proofs.YtfemjlhfgmbcmaaW.PrintLast

theorem wrap_at {a n : Nat} (h : n ≤ a) (ha : a ≤ 140737488351232) : wrap64 ((a : Int) - ((a - n : Nat) : Int)) = (n : Int) := by unfold wrap64; omega

theorem one_text (s : ByteArray) (hs : s.size ≤ 140737488351232) (up : Bool) : wherrylaw01_WireOne.j0 1 s up = some up := by
  simp only [wherrylaw01_WireOne.j0, wire_Read.f, Option.bind_some, wire_Reader_Text.f]
  rw [if_pos (by omega)]
  simp only [Option.bind_some, wire_Reader_Err.f]
  rcases textR_cases s s.size with ⟨v, n, h1, h2, h3, h4, h5, h6, _⟩ | ⟨er, h1, h2⟩
  · rw [h5]
    simp only [Option.bind_some, if_true, wire_Reader_Left.f]
    rw [extract_size_le _ _ _ (Nat.le_refl _), wrap_at h2 hs, if_neg (by omega), if_neg (by omega)]
    simp only [wire_Text.f]
    rw [if_pos (by rw [extract_size_le _ _ _ h2]; omega)]
    simp only [Option.bind_some]
    rw [if_pos (by omega), if_pos (by omega), if_pos]
    rw [Int.toNat_natCast]
    exact take_text s n v h2 h6
  · rw [h2]
    simp only
    rw [if_neg (by omega)]

theorem WireOne : wherrylaw01_WireOne.Pure := by
  intro s hs
  refine ⟨1, ?_⟩
  simp only [wherrylaw01_WireOne.f, wherrylaw01_shown.f, Option.bind_some, wire_Read.f, wire_Reader_Uint.f]
  rw [if_pos (by omega)]
  simp only [Option.bind_some, wire_Reader_Err.f]
  rw [one_text s hs]
  rcases uintR_cases s with ⟨v, n, h1, h2, h3, h4, h5, h6, _⟩ | ⟨er, h1, h2, _⟩
  · rw [h5]
    simp only [if_true]
    simp only [wire_Reader_Left.f, Option.bind_some]
    rw [extract_size_le _ _ _ (Nat.le_refl _), wrap_at h2 hs, if_neg (by omega), if_neg (by omega)]
    simp only [wire_Uint.f]
    rw [if_pos (by omega)]
    simp only [Option.bind_some]
    rw [if_pos (by omega), if_pos (by omega), if_pos]
    rw [Int.toNat_natCast, Int.toNat_natCast, toList_enc, Lib.toList_data, Lib.extract_data, List.drop_zero, Nat.sub_zero, h6]
  · rw [h2]
    simp only
    rw [if_neg (by omega)]
end Go.Proofs.Ytfemjlhfgmbcmaa.Pure
