/- The reader's list: plain function, inner closure, the call. -/
import Derived.Test.YtfemjlhfgmbcmaaHg
namespace Go.Proofs.Ytfemjlhfgmbcmaa
open Go.RowKit Go.Proofs.YtfemjlhfgmbcmaaW.PrintWords Go.Proofs.YtfemjlhfgmbcmaaW.PrintLast Go.Proofs.YtfemjlhfgmbcmaaW.PrintMore

def list0 (s : ByteArray) (many : Int) : Int × Nat × Nat :=
  ((num0 s).1, (num0 s).2.1, if (num0 s).2.2 = 0 ∧ (many < 0 ∨ many < (num0 s).1) then 13 else (num0 s).2.2)

set_option maxRecDepth 100000 in
theorem list1_calls (g p q : Nat) (s : ByteArray) (many : Int) (w : World) (hs : s.size ≤ maxLen) (hm : -9223372036854775808 ≤ many) (hm2 : many ≤ 9223372036854775807) (h0 : w.cell? ⟨g, 0, none⟩ = some (.string s))
    (hp : w.cell? ⟨p, 0, none⟩ = some (.pointer (some ⟨g, 0, none⟩))) (hq : w.cell? ⟨q, 0, none⟩ = some (.int .i64 many)) :
    Calls Try.prog 92 #[.pointer (some ⟨p, 0, none⟩), .pointer (some ⟨q, 0, none⟩)] w fun e w' => e = .returned (.tuple #[.int .u64 (list0 s many).1, .int .i64 (list0 s many).2.1, .int .i64 (list0 s many).2.2]) ∧ w = w' := by
  have HN := Lib.hid (number_calls g s w hs h0)
  have hv := num0_lt s
  unfold list0
  obtain ⟨T, hT⟩ : ∃ T, T = num0 s := ⟨_, rfl⟩
  rw [← hT] at HN hv ⊢
  clear hT
  obtain ⟨v, n, er⟩ := T
  dsimp only at HN hv ⊢
  by_cases her : er = 0
  · subst her
    by_cases h1 : many < 0
    · rw [if_pos ⟨rfl, .inl h1⟩]
      go_enter Try.func92, Try.ntmps92
      go_wp2_with (go_at_call 72; refine HN.out.mono ?_; rintro e w' ⟨rfl, rfl⟩)
      go_ret3
      exact ⟨rfl, rfl⟩
    · obtain ⟨m, rfl⟩ := Int.eq_ofNat_of_zero_le (show 0 ≤ many by omega)
      by_cases h2 : (m : Int) < v
      · rw [if_pos ⟨rfl, .inr h2⟩]
        go_enter Try.func92, Try.ntmps92
        go_wp2_with (go_at_call 72; refine HN.out.mono ?_; rintro e w' ⟨rfl, rfl⟩)
        go_ret3
        exact ⟨rfl, rfl⟩
      · rw [if_neg (by omega)]
        go_enter Try.func92, Try.ntmps92
        go_wp2_with (go_at_call 72; refine HN.out.mono ?_; rintro e w' ⟨rfl, rfl⟩)
        go_ret3
        exact ⟨rfl, rfl⟩
  · have hb : ((er : Int) == 0) = false := by simpa using her
    rw [if_neg (by omega)]
    go_enter Try.func92, Try.ntmps92
    go_wp2_with (go_at_call 72; refine HN.out.mono ?_; rintro e w' ⟨rfl, rfl⟩)
    go_ret3
    exact ⟨rfl, rfl⟩

/-- The texts of a list, one behind the other, as far as they can be read. -/
def textsF (most : Int) : Nat → List ByteArray → ByteArray → Int → List ByteArray × ByteArray × Int
  | 0, l, s, e => (l, s, e)
  | k + 1, l, s, e => if e = 0 then textsF most k (l ++ [(textR s e most).1]) (textR s e most).2.1 (textR s e most).2.2 else (l, s, e)
theorem textsF_no (most : Int) (k : Nat) (l : List ByteArray) (s : ByteArray) (e : Int) (h : e ≠ 0) : textsF most k l s e = (l, s, e) := by
  cases k with
  | zero => rfl
  | succ k => rw [textsF, if_neg h]
def listR (s : ByteArray) (e many most : Int) : List ByteArray × ByteArray × Int :=
  let T := takeR (0 : Int) s e (list0 s many)
  let R := textsF most T.1.toNat [] T.2.1 T.2.2
  if R.2.2 = 0 then R else ([], s, R.2.2)

theorem textR_size (s : ByteArray) (most : Int) : ((textR s 0 most).2.2 = 0 ∧ (textR s 0 most).2.1.size < s.size) ∨ ((textR s 0 most).2.2 ≠ 0 ∧ (textR s 0 most).2.1 = s) := by
  rcases textR_cases s most with ⟨v, n, h1, h2, h3, h4, h5, _⟩ | ⟨er, h1, h2⟩
  · rw [h5]
    refine .inl ⟨rfl, ?_⟩
    show (s.extract (n + v) s.size).size < s.size
    rw [extract_size_le _ _ _ (Nat.le_refl _)]
    omega
  · rw [h2]
    exact .inr ⟨by show (er : Int) ≠ 0; omega, rfl⟩
end Go.Proofs.Ytfemjlhfgmbcmaa
