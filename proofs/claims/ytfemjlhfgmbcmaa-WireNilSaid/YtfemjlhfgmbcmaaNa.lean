/- The reader's calls at nil; the walk of WireNil. Laid by gen_na.py (this session's own program). -/
import Derived.Test.YtfemjlhfgmbcmaaMa
namespace Go.Proofs.Ytfemjlhfgmbcmaa
open Go.RowKit Go.Proofs.YtfemjlhfgmbcmaaW.PrintWords Go.Proofs.YtfemjlhfgmbcmaaW.PrintLast Go.Proofs.YtfemjlhfgmbcmaaW.PrintMore

set_option maxRecDepth 100000 in
theorem take71_nil (w : World) : Calls Try.prog 71 #[.pointer none, .func (.func 72) #[.pointer none] #[]] w fun e w' => e = .returned (.int .u64 0) ∧ w = w' := by
  go_enter Try.func71, Try.ntmps71
  go_wp2_with fail
  go_ret
  exact ⟨rfl, rfl⟩
theorem Uint_nil (w : World) : Calls Try.prog 30 #[.pointer none] w fun e w' => e = .returned (.int .u64 0) ∧ w = w' := by
  have HT := Lib.hid (take71_nil)
  go_enter Try.func30, Try.ntmps30
  go_wp2_with (go_at_call 71; refine (HT.out _).mono ?_; rintro e w' ⟨rfl, rfl⟩)
  go_ret
  exact ⟨rfl, rfl⟩

set_option maxRecDepth 100000 in
theorem take94_nil (w : World) : Calls Try.prog 94 #[.pointer none, .func (.func 95) #[.pointer none] #[]] w fun e w' => e = .returned (.int .i64 0) ∧ w = w' := by
  go_enter Try.func94, Try.ntmps94
  go_wp2_with fail
  go_ret
  exact ⟨rfl, rfl⟩
theorem Int_nil (w : World) : Calls Try.prog 52 #[.pointer none] w fun e w' => e = .returned (.int .i64 0) ∧ w = w' := by
  have HT := Lib.hid (take94_nil)
  go_enter Try.func52, Try.ntmps52
  go_wp2_with (go_at_call 94; refine (HT.out _).mono ?_; rintro e w' ⟨rfl, rfl⟩)
  go_ret
  exact ⟨rfl, rfl⟩

set_option maxRecDepth 100000 in
theorem take96_nil (w : World) : Calls Try.prog 96 #[.pointer none, .func (.func 97) #[.pointer none] #[]] w fun e w' => e = .returned (.int .u8 0) ∧ w = w' := by
  go_enter Try.func96, Try.ntmps96
  go_wp2_with fail
  go_ret
  exact ⟨rfl, rfl⟩
theorem Byte_nil (w : World) : Calls Try.prog 54 #[.pointer none] w fun e w' => e = .returned (.int .u8 0) ∧ w = w' := by
  have HT := Lib.hid (take96_nil)
  go_enter Try.func54, Try.ntmps54
  go_wp2_with (go_at_call 96; refine (HT.out _).mono ?_; rintro e w' ⟨rfl, rfl⟩)
  go_ret
  exact ⟨rfl, rfl⟩

set_option maxRecDepth 100000 in
theorem take73_nil (w : World) (p q : Nat) : Calls Try.prog 73 #[.pointer none, .func (.func 74) #[] #[.pointer (some ⟨p, 0, none⟩), .pointer (some ⟨q, 0, none⟩)]] w fun e w' => e = .returned (.string ⟨#[]⟩) ∧ w = w' := by
  go_enter Try.func73, Try.ntmps73
  go_wp2_with fail
  go_ret
  exact ⟨rfl, rfl⟩
theorem Text_nil (w : World) (most : Int) : Calls Try.prog 33 #[.pointer none, .int .i64 most] w fun e w' => e = .returned (.string ⟨#[]⟩) ∧ Below w.heap.size w w' := by
  have HT := Lib.hid (take73_nil)
  go_enter Try.func33, Try.ntmps33
  go_wp2_with (go_at_call 73; refine (HT.out _ _ _).mono ?_; rintro e w' ⟨rfl, rfl⟩)
  go_ret
  exact ⟨rfl, (((Below.refl _ w).alloc (Nat.le_refl _) _).alloc (by simp) _)⟩
theorem List_nil (w : World) (many most : Int) : Calls Try.prog 49 #[.pointer none, .int .i64 many, .int .i64 most] w fun e w' => e = .returned (.slice none 0 0) ∧ Below w.heap.size w w' := by
  go_enter Try.func49, Try.ntmps49
  go_wp2_with fail
  go_ret
  exact ⟨rfl, (((Below.refl _ w).alloc (Nat.le_refl _) _).alloc (by simp) _)⟩
theorem Left_nil (w : World) : Calls Try.prog 32 #[.pointer none] w fun e w' => e = .returned (.int .i64 0) ∧ w = w' := by
  go_enter Try.func32, Try.ntmps32
  go_wp2_with fail
  go_ret
  exact ⟨rfl, rfl⟩
theorem Err_nil (w : World) : Calls Try.prog 31 #[.pointer none] w fun e w' => e = .returned (.int .i64 1) ∧ w = w' := by
  go_enter Try.func31, Try.ntmps31
  go_wp2_with fail
  go_ret
  exact ⟨rfl, rfl⟩
theorem End_nil (w : World) : Calls Try.prog 58 #[.pointer none] w fun e w' => e = .returned (.int .i64 1) ∧ w = w' := by
  have HT := Lib.hid (Err_nil)
  go_enter Try.func58, Try.ntmps58
  go_wp2_with (go_at_call 31; refine (HT.out _).mono ?_; rintro e w' ⟨rfl, rfl⟩)
  go_ret
  exact ⟨rfl, rfl⟩
set_option maxRecDepth 100000 in
theorem nil_fin (most : Int) (w : World) : Calls Try.prog 10 #[.int .i64 most] w fun e w' => e = .returned (.bool true) ∧ Below w.heap.size w w' := by
  have H0 := Lib.hid (Below.refl w.heap.size w)
  have c1 := Lib.hid Uint_nil
  have c2 := Lib.hid Int_nil
  have c3 := Lib.hid Byte_nil
  have c4 := Lib.hid Text_nil
  have c5 := Lib.hid List_nil
  have c6 := Lib.hid Left_nil
  have c7 := Lib.hid Err_nil
  have c8 := Lib.hid End_nil
  go_enter Try.func10, Try.ntmps10
  go_wp2_with fail
  refine (shown_calls _).mono ?_
  rintro e w1 ⟨rfl, hb⟩
  have H1 := Lib.hid (bstep H0.out hb)
  clear hb H0
  go_wp2_with fail
  refine (c1.out _).mono ?_
  rintro e w2 ⟨rfl, rfl⟩
  go_wp2_with fail
  refine (c2.out _).mono ?_
  rintro e w2 ⟨rfl, rfl⟩
  go_wp2_with fail
  refine (c3.out _).mono ?_
  rintro e w2 ⟨rfl, rfl⟩
  go_wp2_with fail
  refine (c4.out _ _).mono ?_
  rintro e w2 ⟨rfl, hb⟩
  have H2 := Lib.hid (bstep H1.out hb)
  clear hb H1
  go_wp2_with fail
  refine (c5.out _ _ _).mono ?_
  rintro e w3 ⟨rfl, hb⟩
  have H3 := Lib.hid (bstep H2.out hb)
  clear hb H2
  go_wp2_with fail
  refine (c6.out _).mono ?_
  rintro e w4 ⟨rfl, rfl⟩
  go_wp2_with fail
  refine (c7.out _).mono ?_
  rintro e w4 ⟨rfl, rfl⟩
  go_wp2_with fail
  refine (c8.out _).mono ?_
  rintro e w4 ⟨rfl, rfl⟩
  go_wp2_with fail
  go_ret
  exact ⟨rfl, H3.out⟩

end Go.Proofs.Ytfemjlhfgmbcmaa
