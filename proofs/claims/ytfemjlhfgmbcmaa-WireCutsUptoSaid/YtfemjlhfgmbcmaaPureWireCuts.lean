/- Plain: no beginning of a number or of a list is one (the law of WireCuts, as the print tells it). -/
import Derived.Test.YtfemjlhfgmbcmaaPWireCutsx1
import Derived.Test.YtfemjlhfgmbcmaaLa
namespace Go.Proofs.Ytfemjlhfgmbcmaa.Pure
open Go.RowKit Go.Proofs.Ytfemjlhfgmbcmaa Go.Proofs.Ytfemjlhfgmbcmaa.PWireCuts Go.Proofs.YtfemjlhfgmbcmaaW.PrintWords Go.Proofs.YtfemjlhfgmbcmaaW.PrintLast

theorem cuts_j2 (k : Nat) (l : List ByteArray) (c : Nat) (hB : (l.map fun s => s.size + 1).sum ≤ 1048576) (hc : c ≤ 100000) :
    wherrylaw01_WireCuts.j2 (k + 2) l c true ⟨(encLs l).toArray⟩ = some true := by
  have hE := encLs_le l _ hB (by decide)
  have hz : (⟨(encLs l).toArray⟩ : ByteArray).size = (encLs l).length := rfl
  have hd : (⟨(encLs l).toArray⟩ : ByteArray).data.toList = encLs l := rfl
  rw [wherrylaw01_WireCuts.j2, hz]
  by_cases h : (c : Int) < ((encLs l).length : Int)
  · rw [if_pos h, if_pos (by omega), if_pos (by omega)]
    unfold wire_Read.f
    rw [Option.bind_some, Int.toNat_natCast]
    have hx : ((⟨(encLs l).toArray⟩ : ByteArray).extract 0 c).data.toList = (encLs l).take c := by rw [Lib.extract_data, hd]; simp
    have hxs : ((⟨(encLs l).toArray⟩ : ByteArray).extract 0 c).size = c := by rw [size_of_list _ _ hx, List.length_take]; omega
    have hl := len_le_sum l
    have hcut := list_cut l _ c (encLs l).length hx (by omega) (by omega) (fun t ht => by have := size_lt_encLs l t ht; omega)
    dsimp only
    unfold wire_Reader_List.f
    rw [if_pos ⟨⟨by omega, fun _ => by omega⟩, ⟨by omega, by omega⟩, by omega, by omega⟩, hcut, Option.bind_some]
    dsimp only
    rw [if_pos (by simp)]
    unfold wire_Reader_Err.f
    rw [Option.bind_some]
    dsimp only
    rw [if_pos rfl]
    unfold wire_Reader_Left.f
    rw [Option.bind_some]
    dsimp only
    rw [hxs, wherrylaw01_WireCuts.j3, if_neg (by simp)]
  · rw [if_neg h]

theorem WireCuts (v : Int) (l : List ByteArray) (cut : Int) (hv : 0 ≤ v) (hv2 : v ≤ 18446744073709551615) (hB : (l.map fun s => s.size + 1).sum ≤ 1048576) : ∃ k, wherrylaw01_WireCuts.f k v l cut = some true := by
  have hE := encLs_le l _ hB (by decide)
  obtain ⟨v, rfl⟩ := Int.eq_ofNat_of_zero_le hv
  refine ⟨10, ?_⟩
  unfold wherrylaw01_WireCuts.f wherrylaw01_shown.f wire_Uint.f wire_List.f
  rw [Option.bind_some, if_pos (by omega), Option.bind_some, if_pos (by omega), Option.bind_some, Int.toNat_natCast]
  by_cases h0 : cut < 0
  · rw [if_pos h0, wherrylaw01_WireCuts.j0, if_pos rfl]
  · obtain ⟨c, rfl⟩ := Int.eq_ofNat_of_zero_le (show 0 ≤ cut by omega)
    rw [if_neg h0]
    by_cases h1 : (c : Int) > 100000
    · rw [wherrylaw01_WireCuts.j0, if_pos (by simpa using h1)]
    · rw [wherrylaw01_WireCuts.j0, if_neg (by simpa using h1)]
      have he := encB_le v (by omega)
      by_cases h2 : (c : Int) < ((encB v).size : Int)
      · rw [if_pos h2, if_pos (by omega), if_pos (by omega)]
        unfold wire_Read.f
        rw [Option.bind_some, Int.toNat_natCast]
        have hx : ((encB v).extract 0 c).data.toList = (encL v ++ []).take c := by rw [Lib.extract_data]; simp [encB]
        have hxs : ((encB v).extract 0 c).size = c := by rw [extract_size_le _ _ _ (by omega)]; omega
        have hn := num0_cut v c [] (by omega) (by rw [← encB_size]; omega) _ hx
        have hu : uintR ((encB v).extract 0 c) 0 = (0, (encB v).extract 0 c, 2) := by
          unfold uintR; rw [hn]; rfl
        dsimp only
        unfold wire_Reader_Uint.f
        rw [if_pos (by omega), hu, Option.bind_some]
        dsimp only
        rw [if_pos rfl]
        unfold wire_Reader_Err.f
        rw [Option.bind_some]
        dsimp only
        rw [if_pos rfl]
        unfold wire_Reader_Left.f
        rw [Option.bind_some]
        dsimp only
        rw [hxs, wherrylaw01_WireCuts.j1, if_neg (by simp)]
        exact cuts_j2 6 l c hB (by omega)
      · rw [if_neg h2]
        exact cuts_j2 7 l c hB (by omega)
end Go.Proofs.Ytfemjlhfgmbcmaa.Pure
