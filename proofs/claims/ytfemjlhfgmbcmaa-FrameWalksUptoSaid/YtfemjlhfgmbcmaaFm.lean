/- Plain: the reference's Walk tells the frames. -/
import Derived.Test.YtfemjlhfgmbcmaaFk
import Derived.Test.YtfemjlhfgmbcmaaPFrameWalksx1
namespace Go.Proofs.Ytfemjlhfgmbcmaa
open Go.RowKit Go.Proofs.Ytfemjlhfgmbcmaa.PFrameWalks Go.Proofs.YtfemjlhfgmbcmaaW.PrintWords Go.Proofs.YtfemjlhfgmbcmaaW.PrintLast Go.Proofs.YtfemjlhfgmbcmaaW.PrintMore

def asRow (x : Fr) : S99 := ⟨x.kind, x.load⟩
theorem walk_l0 (s : ByteArray) (hs : s.size ≤ 1048576) : ∀ (d a : Nat) (acc : List S99) (k : Nat), a + d = s.size → acc.length ≤ a → d < k →
    wherryref05_Walk.l0 k s acc (a : Int) = some (acc ++ (framesF (s.extract a s.size)).map asRow, ((a + goodL (framesF (s.extract a s.size)) : Nat) : Int)) := by
  intro d
  induction d using Nat.strongRecOn with
  | _ d ih =>
    intro a acc k ha hacc hk
    obtain ⟨k, rfl⟩ : ∃ j, k = j + 1 := ⟨k - 1, by omega⟩
    have hex : (s.extract a s.size).size = s.size - a := extract_size_le _ _ _ (Nat.le_refl _)
    rw [wherryref05_Walk.l0]
    by_cases hz : d = 0
    · rw [if_neg (by omega), framesF_nil _ (.inl (by omega))]
      simp [goodL]
    · rw [if_pos (by omega), if_pos (by omega), if_pos (by omega), Int.toNat_natCast]
      unfold wherryref05_Take.f
      rw [if_pos (by omega), Option.bind_some]
      dsimp only
      by_cases he : (takeF (s.extract a s.size)).2.2.2 = 0
      · have hg := takeF_good _ he
        have hmap : (framesF (s.extract a s.size)).map asRow = (⟨(takeF (s.extract a s.size)).1, (takeF (s.extract a s.size)).2.1⟩ : S99) :: (framesF (s.extract (a + (takeF (s.extract a s.size)).2.2.1) s.size)).map asRow := by
          rw [framesF_cons _ (by omega) he, ex_ex]; rfl
        have hgood : goodL (framesF (s.extract a s.size)) = (takeF (s.extract a s.size)).2.2.1 + goodL (framesF (s.extract (a + (takeF (s.extract a s.size)).2.2.1) s.size)) := by
          have h1 := hg.2.1
          rw [framesF_cons _ (by omega) he, ex_ex]
          simp only [goodL, List.map_cons, List.sum_cons]
          omega
        rw [hmap, hgood]
        rw [hex] at hg
        clear hmap hgood
        generalize takeF (s.extract a s.size) = T at he hg ⊢
        obtain ⟨kd, ld, n, er⟩ := T
        dsimp only at he hg ⊢
        obtain ⟨_, hme, hg1, hg2⟩ := hg
        clear hme
        subst he
        rw [if_pos (by rfl), if_pos (by omega)]
        have hw : wrap64 ((a : Int) + (n : Int)) = ((a + n : Nat) : Int) := by unfold wrap64; omega
        rw [hw]
        have h := ih (d - n) (by omega) (a + n) (acc ++ [⟨kd, ld⟩]) k (by omega) (by simp only [List.length_append, List.length_singleton]; omega) (by omega)
        rw [h]
        simp only [List.append_assoc, List.singleton_append]
        congr 2
        omega
      · rw [if_neg (by omega), framesF_nil _ (.inr he)]
        simp [goodL]
theorem walk_f (s : ByteArray) (hs : s.size ≤ 1048576) : wherryref05_Walk.f (s.size + 1) s = some ((framesF s).map asRow, ((goodL (framesF s) : Nat) : Int)) := by
  unfold wherryref05_Walk.f
  have h := walk_l0 s hs s.size 0 [] (s.size + 1) (by omega) (Nat.le_refl _) (by omega)
  have e : s.extract 0 s.size = s := ba_ext (by rw [extract_tail]; simp)
  rw [e] at h
  simpa using h
theorem RWalk_calls (s : ByteArray) (w : World) (hs : s.size ≤ 1048576) :
    Calls Try.prog 67 #[.string s] w fun e w' => ∃ v0_ : Value, e = .returned (.tuple #[v0_, .int .i64 (goodL (framesF s))]) ∧ Kd.R k99 99 w' w.heap.size (fun _ => True) v0_ ((framesF s).map asRow) ∧ Below w.heap.size w w' :=
  wherryref05_Walk.calls (s.size + 1) s _ _ w (walk_f s hs)
end Go.Proofs.Ytfemjlhfgmbcmaa
