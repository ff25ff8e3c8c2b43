/- Plain: the frame's bytes and the check sum are the reference's (the law of FramePuts, as the print tells it). -/
import Derived.Test.YtfemjlhfgmbcmaaPFramePutsx1
namespace Go.Proofs.Ytfemjlhfgmbcmaa.Pure
open Go.RowKit Go.Proofs.Ytfemjlhfgmbcmaa Go.Proofs.Ytfemjlhfgmbcmaa.PFramePuts

theorem FramePuts : wherrylaw05_FramePuts.Pure := by
  intro a0 a1 _ h1
  unfold wherrylaw05_FramePuts.f wherrylaw05_shown.f frame_Put.f wherryref05_Put.f frame_Sum.f wherryref05_Sum.f
  rw [if_pos ⟨by omega, by omega⟩, if_pos (show a1.size ≤ 9223372036854775807 by omega)]
  simp
end Go.Proofs.Ytfemjlhfgmbcmaa.Pure
