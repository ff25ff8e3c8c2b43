/- The reference's reader: its list. -/
import Derived.Test.YtfemjlhfgmbcmaaQb
namespace Go.Proofs.Ytfemjlhfgmbcmaa
open Go.RowKit Go.Proofs.YtfemjlhfgmbcmaaW.PrintWords Go.Proofs.YtfemjlhfgmbcmaaW.PrintLast Go.Proofs.YtfemjlhfgmbcmaaW.PrintMore

theorem RfIs.grown {w w1 : World} {g : Nat} {s : ByteArray} {e : Int} {row : Option Nat} (h : RfIs w g s e) (hg : w.grownBy w1 row) (hne : some g ≠ row) : RfIs w1 g s e := (hg.block g h.lt hne).trans h

def listZ (s : ByteArray) (R : List ByteArray × ByteArray × Int) : List ByteArray × ByteArray × Int := if R.2.2 = 0 then R else ([], s, R.2.2)
theorem listR_by (s : ByteArray) (e0 : Int) (many most : Int) (v : Nat) (s1 : ByteArray) (e1 : Int) (hu : uintR s e0 = ((v : Int), s1, e1)) :
    (e1 ≠ 0 → listR s e0 many most = ([], s, e1)) ∧ (e1 = 0 → many < 0 ∨ many < v → listR s e0 many most = ([], s, 13)) ∧
    (e1 = 0 → ¬ (many < 0 ∨ many < v) → listR s e0 many most = listZ s (textsF most v [] s1 0)) := by
  have hl : listR s e0 many most = listZ s (textsF most (takeR (0 : Int) s e0 (list0 s many)).1.toNat [] (takeR (0 : Int) s e0 (list0 s many)).2.1 (takeR (0 : Int) s e0 (list0 s many)).2.2) := rfl
  have hz : ∀ (e : Int), e ≠ 0 → listZ s (textsF most 0 [] s e) = ([], s, e) := fun e h => by
    rw [textsF, listZ, if_neg h]
  rw [hl]
  clear hl
  by_cases he : e0 = 0
  · subst he
    by_cases hn : (num0 s).2.2 = 0
    · have hu2 : uintR s 0 = (((num0 s).1 : Int), s.extract (num0 s).2.1 s.size, 0) := by unfold uintR; rw [hn, takeR_ok]
      rw [hu2] at hu
      simp only [Prod.mk.injEq] at hu
      obtain ⟨hv, rfl, rfl⟩ := hu
      obtain rfl : (num0 s).1 = v := by omega
      refine ⟨fun h => absurd rfl h, fun _ h => ?_, fun _ h => ?_⟩
      · unfold list0; rw [if_pos ⟨hn, h⟩, takeR_er _ _ _ _ _ (by decide)]; exact hz 13 (by decide)
      · unfold list0; rw [if_neg (fun x => h x.2), hn, takeR_ok]; rfl
    · have hu2 : uintR s 0 = (0, s, ((num0 s).2.2 : Int)) := by unfold uintR; rw [takeR_er _ _ _ _ _ hn]
      rw [hu2] at hu
      simp only [Prod.mk.injEq] at hu
      obtain ⟨hv, rfl, rfl⟩ := hu
      refine ⟨fun _ => ?_, fun h => by omega, fun h => by omega⟩
      unfold list0; rw [if_neg (fun x => hn x.1), takeR_er _ _ _ _ _ hn]; exact hz _ (by omega)
  · have hu2 : uintR s e0 = (0, s, e0) := by unfold uintR; rw [takeR_no _ _ _ _ he]
    rw [hu2] at hu
    simp only [Prod.mk.injEq] at hu
    obtain ⟨hv, rfl, rfl⟩ := hu
    refine ⟨fun _ => ?_, fun h => absurd h he, fun h => absurd h he⟩
    rw [takeR_no _ _ _ _ he]; exact hz _ he

theorem R_ge {α : Type} {d : Kd α} {e : Nat} {w : World} {base : Nat} {ok : Nat → Prop} {v : Value} {xs : List α} (h : d.R e w base ok v xs) {b : Nat} (hb : v.ownBlock = some b) : base ≤ b := ((Kd.R_bound h).1 b hb).2.1

def RListPost (w : World) (g : Nat) (R : List ByteArray × ByteArray × Int) (e : Ending) (w' : World) : Prop :=
  ∃ v : Value, e = .returned v ∧ Kd.R Kd.string 9 w' w.heap.size (fun _ => True) v R.1 ∧ RfIs w' g R.2.1 R.2.2 ∧ Only g w w'

set_option maxHeartbeats 1000000 in
set_option maxRecDepth 100000 in
theorem refList_calls (g : Nat) (s : ByteArray) (e0 : Int) (many most : Int) (w : World) (hs : s.size ≤ 1099511627776) (hm : -9223372036854775808 ≤ many) (hm2 : many ≤ 9223372036854775807) (ht : -9223372036854775808 ≤ most) (ht2 : most ≤ 9223372036854775807) (h : RfIs w g s e0) :
    Calls Try.prog 57 #[.pointer (some ⟨g, 0, none⟩), .int .i64 many, .int .i64 most] w (RListPost w g (listR s e0 many most)) := by
  have hg := h.lt
  have h0 := h.c0
  have HU := Lib.hid (refUint_calls g s e0 w (by unfold maxLen; omega) h)
  obtain ⟨v, hv, hv2⟩ := uintR_nat s e0
  have hsz := uintR_size s e0
  have hby := listR_by s e0 many most v (uintR s e0).2.1 (uintR s e0).2.2 (by rw [← hv])
  rw [hv] at HU
  generalize (uintR s e0).2 = R at HU hby hsz
  obtain ⟨s1, e1⟩ := R
  dsimp only at HU hby hsz
  obtain ⟨b1, b2, b3⟩ := hby
  clear hv h
  by_cases he : e1 = 0
  · subst he
    clear b1
    by_cases c1 : many < 0 ∨ many < v
    · rw [b2 rfl c1]
      clear b2 b3
      by_cases c2 : many < 0
      · clear c1
        go_enter Try.func57, Try.ntmps57
        go_wp2_with fail
        refine HU.out.mono ?_
        rintro e w1 ⟨rfl, hr, ho⟩
        have HR := Lib.hid (hr.set1 13)
        have HO := Lib.hid (ho.set 1 (.int .i64 13))
        have k0 := hr.c0
        have k1 := hr.c1
        have l0 := hr.f0
        have l1 := hr.f1
        clear hr ho HU h0
        go_wp2_with fail
        go_loopw [9, 10] (fun out i W => out = .slice none 0 0 ∧ i = .int .u64 0 ∧ RfIs W g s1 13 ∧ Only g w W) (fun _ _ _ => 0)
        case atStart => exact ⟨rfl, rfl, HR.out, HO.out⟩
        case round =>
          obtain ⟨rfl, rfl, hr, ho⟩ := hrel
          clear HR HO k0 k1 l0 l1
          have HR := Lib.hid hr
          have HO := Lib.hid ho
          have k0 := hr.c0
          have k1 := hr.c1
          have l0 := hr.f0
          have l1 := hr.f1
          clear hr ho
          by_cases hv0 : (0 : Int) < v
          all_goals go_wp2_with fail
          all_goals
            go_ret
            exact ⟨_, rfl, Kd.R_nil _ _ _ _ _, HR.out.set0 _, HO.out.set 0 _⟩
      · obtain ⟨m, rfl⟩ := Int.eq_ofNat_of_zero_le (show 0 ≤ many by omega)
        have c3 : (m : Int) < v := by omega
        clear c1
        go_enter Try.func57, Try.ntmps57
        go_wp2_with fail
        refine HU.out.mono ?_
        rintro e w1 ⟨rfl, hr, ho⟩
        have HR := Lib.hid (hr.set1 13)
        have HO := Lib.hid (ho.set 1 (.int .i64 13))
        have k0 := hr.c0
        have k1 := hr.c1
        have l0 := hr.f0
        have l1 := hr.f1
        clear hr ho HU h0
        go_wp2_with fail
        go_loopw [9, 10] (fun out i W => out = .slice none 0 0 ∧ i = .int .u64 0 ∧ RfIs W g s1 13 ∧ Only g w W) (fun _ _ _ => 0)
        case atStart => exact ⟨rfl, rfl, HR.out, HO.out⟩
        case round =>
          obtain ⟨rfl, rfl, hr, ho⟩ := hrel
          clear HR HO k0 k1 l0 l1
          have HR := Lib.hid hr
          have HO := Lib.hid ho
          have k0 := hr.c0
          have k1 := hr.c1
          have l0 := hr.f0
          have l1 := hr.f1
          clear hr ho
          by_cases hv0 : (0 : Int) < v
          all_goals go_wp2_with fail
          all_goals
            go_ret
            exact ⟨_, rfl, Kd.R_nil _ _ _ _ _, HR.out.set0 _, HO.out.set 0 _⟩
    · obtain ⟨m, rfl⟩ := Int.eq_ofNat_of_zero_le (show 0 ≤ many by omega)
      have c3 : decide ((m : Int) < v) = false := by simp; omega
      have c4 : decide (m < v) = false := by simp; omega
      have c5 : decide ((m : Int) < 0) = false := by simp
      rw [b3 rfl c1]
      clear b2 b3 c1
      obtain ⟨X, hX⟩ : ∃ X, textsF most v [] s1 0 = X := ⟨_, rfl⟩
      rw [hX]
      have HX := Lib.hid hX
      clear hX
      go_enter Try.func57, Try.ntmps57
      go_wp2_with fail
      refine HU.out.mono ?_
      rintro e w1 ⟨rfl, hr, ho⟩
      have HR := Lib.hid hr
      have HO := Lib.hid ho
      have k0 := hr.c0
      have k1 := hr.c1
      have l0 := hr.f0
      have l1 := hr.f1
      clear hr ho HU h0
      go_wp2_with fail
      go_loopw [9, 10] (fun out i W => ∃ (k : Nat) (l : List ByteArray) (s2 : ByteArray) (e2 : Int), i = .int .u64 k ∧ k ≤ v ∧ Only g w W ∧ RfIs W g s2 e2 ∧ Hid (textsF most (v - k) l s2 e2 = X) ∧ s2.size ≤ s.size ∧ (l.length + s2.size ≤ s.size ∨ e2 ≠ 0) ∧ Kd.R Kd.string 9 W w.heap.size (fun b => b ≠ g) out l) (fun _ i _ => v - (intOf i).toNat)
      case atStart => exact ⟨0, [], s1, 0, rfl, Nat.zero_le _, HO.out, HR.out, HX.out, hsz, .inl (by simpa using hsz), Kd.R_nil _ _ _ _ _⟩
      case round =>
        obtain ⟨k, l, s2, e2, rfl, hk, HO2, HG2, HN, hs2, hl2, HK⟩ := hrel
        clear HO HR HX k0 k1 l0 l1
        have HO := Lib.hid HO2
        have HG := Lib.hid HG2
        have HK2 := Lib.hid HK
        have HL := Lib.hid hl2
        have k0 := HG2.c0
        have k1 := HG2.c1
        have l0 := HG2.f0
        have l1 := HG2.f1
        clear HO2 HG2 HK hl2
        by_cases he : e2 = 0
        · subst he
          by_cases hlt : (k : Int) < v
          · have hN : textsF most (v - (k + 1)) (l ++ [(textR s2 0 most).1]) (textR s2 0 most).2.1 (textR s2 0 most).2.2 = X := by
              rw [← HN.out, show v - k = (v - (k + 1)) + 1 by omega, textsF, if_pos rfl]
            have HN2 := Lib.hid hN
            clear hN HN
            have hsz2 := textR_size s2 most
            have HT := Lib.hid (fun W (hW : RfIs W g s2 0) => refText_calls g s2 0 most W (by unfold maxLen; omega) ht ht2 hW)
            generalize textR s2 0 most = Y at HN2 hsz2 HT
            obtain ⟨t, s3, e3⟩ := Y
            dsimp only at HN2 hsz2 HT
            have hsz3 : (e3 = 0 ∧ s3.size < s2.size) ∨ (e3 ≠ 0 ∧ s3.size = s2.size) := hsz2.imp id (fun h => ⟨h.1, by rw [h.2]⟩)
            have HSZ := Lib.hid hsz3
            clear hsz2 hsz3
            go_wp2_with fail
            refine (HT.out _ HG.out).mono ?_
            rintro e w2 ⟨rfl, h1, ho⟩
            have HO3 := Lib.hid (HO.out.trans ho)
            have HK3 := Lib.hid (Kd.R_step HK2.out (fun b hb hb2 => ho.block b hb2 hb))
            have HG3 := Lib.hid h1
            clear h1 ho HO HK2 HG HT k0 k1 l0 l1
            go_wp2_with (at_builtin; refine Kd.R_append Kd.string (w0 := w2) w.heap.size rfl (.tmp 47) (.tmp 51) 57 9 (.string ⟨#[]⟩) 16 rfl Try.underlying57 info9 rfl (by decide) (by decide) u9 l t [.string t] (fun b => b ≠ g) (fun _ => False) rfl rfl ?aP (fun _ hk => hk.elim) ?aF ?aO ?aB ?aS ?aL ?_; (case aP => exact rfl); (case aF => exact (fun b hb => by have := HG3.out.lt; omega)); (case aO => exact HK3.out); (case aB => exact Below.refl _ _); (case aS => exact HO3.out.size); (case aL => (have := HL.out; omega)); intro v1 w3 hR _ hgr _; have HR3 := Lib.hid hR; have HGR := Lib.hid hgr; have HW9 := Lib.hid (fun (b : Nat) (hb : _ = some b) => R_ge HK3.out hb); clear hR hgr)
            go_roundw
            case rel => exact ⟨k + 1, l ++ [t], s3, e3, by go_num, by omega, HO3.out.grown HGR.out (fun b hb => HW9.out b hb), HG3.out.grown HGR.out (fun hb => HK3.out.1 g hb.symm rfl), HN2.out, by have := HSZ.out; omega, by have := HSZ.out; have := HL.out; simp only [List.length_append, List.length_singleton]; omega, HR3.out⟩
            case measure => simp [intOf]; omega
          · have hkv : v - k = 0 := by omega
            have hX : X = (l, s2, 0) := by rw [← HN.out, hkv]; rfl
            have HX := Lib.hid hX
            clear hX HN hkv
            go_wp2_with fail
            go_ret
            rw [HX.out]
            exact ⟨_, rfl, Kd.R_mono HK2.out (fun _ _ => trivial), HG.out, HO.out⟩
        · have hb : (e2 == 0) = false := by simpa using he
          have hb2 : (e2 != 0) = true := by simpa using he
          have hX : X = (l, s2, e2) := by rw [← HN.out, textsF_no _ _ _ _ _ he]
          have hZ : listZ s X = ([], s, e2) := by rw [hX, listZ, if_neg he]
          have HZ := Lib.hid hZ
          clear hX hZ HN he
          by_cases hlt : (k : Int) < v
          all_goals go_wp2_with fail
          all_goals
            go_ret
            rw [HZ.out]
            exact ⟨_, rfl, Kd.R_nil _ _ _ _ _, HG.out.set0 _, HO.out.set 0 _⟩
  · have hb : (e1 != 0) = true := by simpa using he
    have hb2 : (e1 == 0) = false := by simpa using he
    rw [b1 he]
    clear b1 b2 b3 he
    go_enter Try.func57, Try.ntmps57
    go_wp2_with fail
    refine HU.out.mono ?_
    rintro e w1 ⟨rfl, hr, ho⟩
    have HR := Lib.hid (hr)
    have HO := Lib.hid (ho)
    have k0 := hr.c0
    have k1 := hr.c1
    have l0 := hr.f0
    have l1 := hr.f1
    clear hr ho HU h0
    go_wp2_with fail
    go_loopw [9, 10] (fun out i W => out = .slice none 0 0 ∧ i = .int .u64 0 ∧ RfIs W g s1 e1 ∧ Only g w W) (fun _ _ _ => 0)
    case atStart => exact ⟨rfl, rfl, HR.out, HO.out⟩
    case round =>
      obtain ⟨rfl, rfl, hr, ho⟩ := hrel
      clear HR HO k0 k1 l0 l1
      have HR := Lib.hid hr
      have HO := Lib.hid ho
      have k0 := hr.c0
      have k1 := hr.c1
      have l0 := hr.f0
      have l1 := hr.f1
      clear hr ho
      by_cases hv0 : (0 : Int) < v
      all_goals go_wp2_with fail
      all_goals
        go_ret
        exact ⟨_, rfl, Kd.R_nil _ _ _ _ _, HR.out.set0 _, HO.out.set 0 _⟩
end Go.Proofs.Ytfemjlhfgmbcmaa
