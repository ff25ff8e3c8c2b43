/- Plain: what is taken is what the reference takes (the law of FrameTakes, as the print tells it). -/
import Derived.Test.YtfemjlhfgmbcmaaPFrameTakesx1
namespace Go.Proofs.Ytfemjlhfgmbcmaa.Pure
open Go.RowKit Go.Proofs.Ytfemjlhfgmbcmaa Go.Proofs.Ytfemjlhfgmbcmaa.PFrameTakes

theorem FrameTakes : wherrylaw05_FrameTakes.Pure := by
  intro a0 h1
  unfold wherrylaw05_FrameTakes.f wherrylaw05_shown.f frame_Take.f wherryref05_Take.f
  rw [if_pos (by omega)]
  simp
end Go.Proofs.Ytfemjlhfgmbcmaa.Pure
