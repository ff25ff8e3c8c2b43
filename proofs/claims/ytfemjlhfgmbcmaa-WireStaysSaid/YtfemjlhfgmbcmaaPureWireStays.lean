/- Plain: a reader that is wrong stays so (the law of WireStays, as the print tells it). -/
import Derived.Test.YtfemjlhfgmbcmaaPWireStaysx1
namespace Go.Proofs.Ytfemjlhfgmbcmaa.Pure
open Go.RowKit Go.Proofs.Ytfemjlhfgmbcmaa Go.Proofs.Ytfemjlhfgmbcmaa.PWireStays Go.Proofs.YtfemjlhfgmbcmaaW.PrintWords Go.Proofs.YtfemjlhfgmbcmaaW.PrintLast

theorem num0_80 (s : ByteArray) : num0 ((⟨#[128, 0]⟩ : ByteArray) ++ s) = (0, 0, 3) := by
  have e : ((⟨#[128, 0]⟩ : ByteArray) ++ s).data.toList = 128 :: 0 :: s.data.toList := by simp [ByteArray.data_append]
  unfold num0
  rw [e, numL, if_neg (by decide), if_neg (by decide), numL, if_pos (by decide)]

def AskOk (a : S68) : Prop := (-9223372036854775808 ≤ a.f1 ∧ a.f1 ≤ 9223372036854775807) ∧ -9223372036854775808 ≤ a.f2 ∧ a.f2 ≤ 9223372036854775807

theorem wrong_uint (s : ByteArray) : uintR s 3 = (0, s, 3) := takeR_no _ _ _ _ (by decide)
theorem wrong_int (s : ByteArray) : intR s 3 = (0, s, 3) := takeR_no _ _ _ _ (by decide)
theorem wrong_byte (s : ByteArray) : byteR s 3 = (0, s, 3) := takeR_no _ _ _ _ (by decide)
theorem wrong_text (s : ByteArray) (m : Int) : textR s 3 m = (⟨#[]⟩, s, 3) := takeR_no _ _ _ _ (by decide)
theorem wrong_list (s : ByteArray) (a b : Int) : listR s 3 a b = ([], s, 3) := by
  unfold listR
  rw [takeR_no _ _ _ _ (by decide)]
  rfl

theorem stays_l0 (s0 t : ByteArray) (asks : List S68) (ht : t.size = s0.size + 2) (hs : s0.size ≤ 140737488351232) (hn : asks.length ≤ 9223372036854775807) (ha : ∀ a ∈ asks, AskOk a) :
    ∀ (d i : Nat), i + d = asks.length → wherrylaw01_WireStays.l0 (2 * d + 1) s0 asks i t 3 = some true
  | 0, i, hi => by
    rw [wherrylaw01_WireStays.l0, if_neg (by omega)]
    simp only [wire_Reader_Err.f, Option.bind_some, if_true, wire_Reader_End.f, wire_Reader_Left.f]
    rw [show endR t 3 = 3 by simp [endR], if_pos rfl, ht]
    congr 1
    rw [beq_iff_eq]
    unfold wrap64
    omega
  | d + 1, i, hi => by
    have hlt : i < asks.length := by omega
    have hd : rd_T68 asks (i : Int) = asks[i] := by simp [rd_T68, List.getD, hlt]
    have hk := ha _ (List.getElem_mem hlt)
    have ih := stays_l0 s0 t asks ht hs hn ha d (i + 1) (by omega)
    rw [show 2 * (d + 1) + 1 = (2 * d + 1) + 1 + 1 by omega]
    generalize hq : 2 * d + 1 = q at ih
    rw [wherrylaw01_WireStays.l0, if_pos (by omega), hd]
    unfold AskOk at hk
    generalize asks[i] = a at hk
    have h1 : t.size ≤ 9223372036854775807 := by omega
    have e1 : wire_Reader_Uint.f t 3 = some (0, t, 3) := by unfold wire_Reader_Uint.f; rw [if_pos h1, wrong_uint]
    have e2 : wire_Reader_Int.f t 3 = some (0, t, 3) := by unfold wire_Reader_Int.f; rw [if_pos h1, wrong_int]
    have e3 : wire_Reader_Byte.f t 3 = some (0, t, 3) := by unfold wire_Reader_Byte.f; rw [if_pos h1, wrong_byte]
    have e4 : wire_Reader_Text.f t 3 a.f2 = some (⟨#[]⟩, t, 3) := by unfold wire_Reader_Text.f; rw [if_pos ⟨h1, hk.2.1, hk.2.2⟩, wrong_text]
    have e5 : wire_Reader_List.f t 3 a.f1 a.f2 = some ([], t, 3) := by unfold wire_Reader_List.f; rw [if_pos ⟨⟨h1, fun h => absurd h (by decide)⟩, hk.1, hk.2⟩, wrong_list]
    rw [e1, Option.bind_some]
    dsimp only
    rw [e2, Option.bind_some]
    dsimp only
    rw [e3, Option.bind_some]
    dsimp only
    rw [if_pos (by omega), e4, Option.bind_some]
    dsimp only
    rw [e5, Option.bind_some]
    dsimp only
    rw [if_pos rfl, if_pos rfl, if_pos rfl]
    rw [if_pos (str_none rfl), wherrylaw01_WireStays.j2, if_neg (by simp), show wrap64 ((i : Int) + 1) = ((i + 1 : Nat) : Int) by unfold wrap64; omega]
    exact ih

theorem WireStays (s : ByteArray) (asks : List S68) (hs : s.size ≤ 140737488351232) (hn : asks.length ≤ 9223372036854775807) (ha : ∀ a ∈ asks, AskOk a) : ∃ k, wherrylaw01_WireStays.f k s asks = some true := by
  have hz : ((⟨#[128, 0]⟩ : ByteArray) ++ s).size = s.size + 2 := by rw [ByteArray.size_append]; show 2 + s.size = _; omega
  have hu : uintR ((⟨#[128, 0]⟩ : ByteArray) ++ s) 0 = (0, (⟨#[128, 0]⟩ : ByteArray) ++ s, 3) := by
    unfold uintR; rw [num0_80]; rfl
  refine ⟨2 * asks.length + 1 + 1, ?_⟩
  unfold wherrylaw01_WireStays.f
  simp only [wherrylaw01_shown.f, Option.bind_some, wire_Read.f]
  rw [if_pos (by omega)]
  rw [if_pos trivial]
  rw [wherrylaw01_WireStays.j0, if_neg (by decide)]
  unfold wire_Reader_Uint.f
  rw [if_pos (by omega), Option.bind_some, hu]
  exact stays_l0 s _ asks hz hs hn ha asks.length 0 (by omega)
end Go.Proofs.Ytfemjlhfgmbcmaa.Pure
