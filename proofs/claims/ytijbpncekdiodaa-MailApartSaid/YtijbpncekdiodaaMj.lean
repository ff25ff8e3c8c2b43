/- The example at the head of the laws (shown). Laid by gen_mj.py. -/
import Derived.Test.YtijbpncekdiodaaMi
namespace Go.Proofs.Ytijbpncekdiodaa
open Go.RowKit Go.Proofs.YtijbpncekdiodaaW.PrintWords Go.Proofs.YtijbpncekdiodaaW.PrintLast Go.Proofs.YtijbpncekdiodaaW.PrintMore
open Go.Proofs.Ytijbpncekdiodaa.PMailMoves
set_option linter.unusedVariables false
set_option linter.unusedSimpArgs false

/-- A command to a partition, nothing else. -/
def sTo (n : Int) : S32 := ⟨n, z30⟩
theorem fits_to (n : Int) : Fits (sTo n) := by unfold Fits; show 0 * 48 ≤ 140737488355328; decide
theorem sTo_M (n : Int) (W : World) (base : Nat) (ok : Nat → Prop) : k32.M W base ok (sTo n) [.int .i64 n, .int .i64 0, .int .i64 0, .int .u64 0, .int .i64 0, .int .u64 0, .int .u64 0, .int .u64 0, .int .i64 0, .int .i64 0, .string ⟨#[]⟩, .string ⟨#[]⟩, .string ⟨#[]⟩, .slice none 0 0] := k32_mkM W base ok (sTo n) (Kd.R_nil _ _ _ _ _)
theorem two_reps (W : World) (base : Nat) (ok : Nat → Prop) : Reps (k32.M W base ok) k32.sz [sTo 1, sTo 2] [.int .i64 1, .int .i64 0, .int .i64 0, .int .u64 0, .int .i64 0, .int .u64 0, .int .u64 0, .int .u64 0, .int .i64 0, .int .i64 0, .string ⟨#[]⟩, .string ⟨#[]⟩, .string ⟨#[]⟩, .slice none 0 0, .int .i64 2, .int .i64 0, .int .i64 0, .int .u64 0, .int .i64 0, .int .u64 0, .int .u64 0, .int .u64 0, .int .i64 0, .int .i64 0, .string ⟨#[]⟩, .string ⟨#[]⟩, .string ⟨#[]⟩, .slice none 0 0] :=
  Reps.front (sTo_M 1 W base ok) rfl (Reps.front (sTo_M 2 W base ok) rfl (Reps.none _ _) rfl) rfl
theorem two_F (W : World) : Kd.F k32 (W.alloc (.cells #[.int .i64 1, .int .i64 0, .int .i64 0, .int .u64 0, .int .i64 0, .int .u64 0, .int .u64 0, .int .u64 0, .int .i64 0, .int .i64 0, .string ⟨#[]⟩, .string ⟨#[]⟩, .string ⟨#[]⟩, .slice none 0 0, .int .i64 2, .int .i64 0, .int .i64 0, .int .u64 0, .int .i64 0, .int .u64 0, .int .u64 0, .int .u64 0, .int .i64 0, .int .i64 0, .string ⟨#[]⟩, .string ⟨#[]⟩, .string ⟨#[]⟩, .slice none 0 0] 32)) (fun k => k = W.heap.size) (some ⟨W.heap.size, 0, none⟩) [sTo 1, sTo 2].length [sTo 1, sTo 2] := by
  have h : k32.R 32 (W.alloc (.cells #[.int .i64 1, .int .i64 0, .int .i64 0, .int .u64 0, .int .i64 0, .int .u64 0, .int .u64 0, .int .u64 0, .int .i64 0, .int .i64 0, .string ⟨#[]⟩, .string ⟨#[]⟩, .string ⟨#[]⟩, .slice none 0 0, .int .i64 2, .int .i64 0, .int .i64 0, .int .u64 0, .int .i64 0, .int .u64 0, .int .u64 0, .int .u64 0, .int .i64 0, .int .i64 0, .string ⟨#[]⟩, .string ⟨#[]⟩, .string ⟨#[]⟩, .slice none 0 0] 32)) 0 (fun k => k = W.heap.size) (.slice (some ⟨W.heap.size, 0, none⟩) 2 2) [sTo 1, sTo 2] :=
    ⟨fun k hk => by simp [Value.ownBlock] at hk; exact hk.symm, OwnRow.lit W 0 (two_reps _ _ _) (Nat.zero_le _) (by simp)⟩
  exact Kd.N_F (Kd.R_N h)

set_option maxRecDepth 100000 in
set_option maxHeartbeats 2000000 in
theorem shown_calls (w : World) : Calls Try.prog 8 #[] w fun e w' => e = .returned (.bool true) ∧ Below w.heap.size w w' := by
  have HN := Lib.hid (New_calls w)
  have hb0 := BoxV.new w w.heap.size (fun k => k ≠ w.heap.size) (Nat.le_refl _) (fun k h => h)
  have HP := Lib.hid ((Put_calls w.heap.size w.heap.size (some ⟨w.heap.size + 1, 0, none⟩) 2 [] [sTo 1, sTo 2] _ ((w.alloc (.cells #[.slice none 0 0] 60)).alloc (.cells #[.int .i64 1, .int .i64 0, .int .i64 0, .int .u64 0, .int .i64 0, .int .u64 0, .int .u64 0, .int .u64 0, .int .i64 0, .int .i64 0, .string ⟨#[]⟩, .string ⟨#[]⟩, .string ⟨#[]⟩, .slice none 0 0, .int .i64 2, .int .i64 0, .int .i64 0, .int .u64 0, .int .i64 0, .int .u64 0, .int .u64 0, .int .u64 0, .int .i64 0, .int .i64 0, .string ⟨#[]⟩, .string ⟨#[]⟩, .string ⟨#[]⟩, .slice none 0 0] 32)) _ (fun k => k = w.heap.size + 1) (hb0.below (below_alloc (Below.refl _ _) _)) (fun k hk => by simp at hk; omega)
    (by have := two_F (w.alloc (.cells #[.slice none 0 0] 60)); rwa [World.size_alloc] at this) (fun k hk _ => ⟨by omega, by simp [Value.ownBlock]⟩) (by simp; omega) (fun x hx => by simp only [List.mem_cons, List.not_mem_nil, or_false] at hx; rcases hx with rfl | rfl <;> exact fits_to _) (by decide)))
  have HB2 := Lib.hid (show Below w.heap.size w ((w.alloc (.cells #[.slice none 0 0] 60)).alloc (.cells #[.int .i64 1, .int .i64 0, .int .i64 0, .int .u64 0, .int .i64 0, .int .u64 0, .int .u64 0, .int .u64 0, .int .i64 0, .int .i64 0, .string ⟨#[]⟩, .string ⟨#[]⟩, .string ⟨#[]⟩, .slice none 0 0, .int .i64 2, .int .i64 0, .int .i64 0, .int .u64 0, .int .i64 0, .int .u64 0, .int .u64 0, .int .u64 0, .int .i64 0, .int .i64 0, .string ⟨#[]⟩, .string ⟨#[]⟩, .string ⟨#[]⟩, .slice none 0 0] 32)) from below_alloc (below_alloc (Below.refl _ _) _) _)
  have hfit : ∀ x ∈ [sTo 1, sTo 2] ++ [sTo 1], Fits x := fun x hx => by simp only [List.cons_append, List.nil_append, List.mem_cons, List.not_mem_nil, or_false] at hx; rcases hx with rfl | rfl | rfl <;> exact fits_to _
  have HFIT := Lib.hid hfit
  clear hb0 hfit
  go_enter Try.func8, Try.ntmps8
  go_wp2_with (first | (go_at_call 9; refine HN.out.mono ?_; rintro e w1 ⟨rfl, rfl⟩) | (go_at_call 10; refine HP.out.mono ?_; rintro e w3 ⟨rfl, ⟨v3, hbx3, _⟩, _, hb3⟩; have HBX3 := Lib.hid hbx3; have HB3 := Lib.hid (HB2.out.trans hb3); clear hbx3 hb3) | (go_at_call 15; refine (Copy_in w.heap.size w.heap.size 0 [sTo 1, sTo 2] w3 _ v3 HBX3.out (fun k hk => by have := HBX3.out.lt; omega) (by decide) (by decide) (fun x hx => HFIT.out x (List.mem_append_left _ hx)) (by decide)).mono ?_; rintro e w4 ⟨rfl, ⟨v4, hbx4, _⟩, _, hb4⟩; have HBX4 := Lib.hid hbx4; have HB4 := Lib.hid (HB3.out.trans hb4); clear hbx4 hb4) | (go_at_call 11; refine (Take_in w.heap.size w.heap.size 1 [sTo 1, sTo 2, sTo 1] w4 _ v4 HBX4.out (fun k hk => by have := HBX4.out.lt; omega) (by decide) (by decide) HFIT.out (by decide)).mono ?_; rintro e w5 ⟨c5, rfl, hfk5, ⟨v5, hbx5, _⟩, _, hb5⟩; obtain ⟨A5, k5, hc5, _, _⟩ := k32_open (Kd.FK_now hfk5); have hc6 : c5 = [.int .i64 2, .int .i64 0, .int .i64 0, .int .u64 0, .int .i64 0, .int .u64 0, .int .u64 0, .int .u64 0, .int .i64 0, .int .i64 0, .string ⟨#[]⟩, .string ⟨#[]⟩, .string ⟨#[]⟩, .slice A5 0 k5] := hc5; subst hc6; clear hc5 hfk5; have HBX5 := Lib.hid hbx5; have HB5 := Lib.hid (HB4.out.trans hb5); clear hbx5 hb5) | (go_at_call 12; refine (Len_calls w.heap.size w.heap.size [sTo 1, sTo 1] _ _ v5 (HBX5.out.below (below_alloc (Below.refl _ _) _))).mono ?_; rintro e w6 ⟨rfl, rfl⟩))
  go_ret
  exact ⟨rfl, below_alloc HB5.out _⟩
end Go.Proofs.Ytijbpncekdiodaa
