/- Build where its size may not be, and of no range; the maker of a run of rows. Laid by gen_sl.py. · A key is looked for: sort.Search, the run's find; Get, Len, Blocks. Laid by gen_sm.py. · The document's example of a run, shown; cells compared. Laid by gen_sn.py. -/
import Derived.Test.YtfemjlhfgmbcmaaVd
import Derived.Test.YtfemjlhfgmbcmaaWEqStruct
namespace Go.Proofs.Ytfemjlhfgmbcmaa
open Go.RowKit Go.Shelf Go.Proofs.YtfemjlhfgmbcmaaW.PrintWords Go.Proofs.YtfemjlhfgmbcmaaW.PrintLast Go.Proofs.YtfemjlhfgmbcmaaW.PrintMore
open Go.Proofs.Ytfemjlhfgmbcmaa.PRunBuilds
set_option linter.unusedVariables false
set_option linter.unusedSimpArgs false
attribute [local go_sem] Oper.semAt_some
attribute [local go_sem ↓] Go.wp_at_zero Go.wp_at_succ

theorem hnil42 (W : World) : Sem.run Try.prog (binOp BinOp.eql 42 .nilFunc .nilFunc) W = .ok (.bool true) W := by
  obtain ⟨x, y, z, hu⟩ := under42
  have h : ∀ n, (Op.equalIn (n + 1) 42 .nilFunc .nilFunc).run Try.prog W = .ok true W := fun n => by
    simp [Op.equalIn, run_underlying hu]
  simp [binOp, Op.equal, Op.maxDepth, h 9999]
theorem Nil_in (n l N : Nat) (h : N = 0) (W : World) (J : Nat → World → Prop) (Jx : World → Prop) (h0 : J 0 W) : CallsIn Fence.wide n Try.prog 76 #[.func (.yield l) #[] #[]] W fun e W' => (∃ v, e = .returned v) ∧ (J N W' ∨ Jx W') := by
  have H0 := Lib.hid (h ▸ h0 : J N W)
  clear h0
  refine callsIn_of_wp Try.func76 rfl trivial ?_ rfl
  gi_wp2
  go_end0
  exact ⟨⟨_, rfl⟩, .inl H0.out⟩
set_option maxRecDepth 100000 in
set_option maxHeartbeats 16000000 in
theorem BuildNil_calls (b : Int) (w : World) (hb0 : 64 ≤ b) (hb1 : b ≤ 4096) :
    Calls Try.prog 37 #[.int .i64 b, .nilFunc] w fun e w' => e = .returned (.tuple #[.string (buildF b []).1, .int .i64 (buildF b []).2]) ∧ Below w.heap.size w w' := by
  obtain ⟨ks, hks⟩ : ∃ ks : List ByteArray, ks = [] := ⟨_, rfl⟩
  obtain ⟨cs, hcs⟩ : ∃ cs : List S38, cs = [] := ⟨_, rfl⟩
  have hlen : cs.length = ks.length := by rw [hks, hcs]; rfl
  have hmax : ks.length ≤ 1048576 := by rw [hks]; decide
  have h0k : ks.length = 0 := by rw [hks]; rfl
  rw [show buildF b [] = buildF b (rowsOf ks cs) by rw [hks, hcs]; rfl]
  have H0K := Lib.hid h0k
  clear hks hcs h0k
  obtain ⟨rows, hrows⟩ : ∃ rows, rows = rowsOf ks cs := ⟨_, rfl⟩
  rw [← hrows]
  have HR := Lib.hid hrows
  clear hrows
  have hd1 : decide (b < 64) = false := by simp; omega
  have hd2 : decide (4096 < b) = false := by simp; omega
  have hfun := hnil42
  refine (callsIn_wide (n := 6)).1 ?_
  refine callsIn_of_wp_marks Try.func37 rfl trivial ?_ rfl
  simp only [Try.ntmps37, List.size_toArray, List.length_cons, List.length_nil, Nat.reduceAdd, Nat.reduceSub, Array.replicate_succ, Array.replicate_zero, List.push_toArray, List.append_toArray, List.nil_append, List.cons_append]
  refine wpIn_mono ?_ (noPanic_le _)
  refine wpIn_wide.2 ?_
  go_wp2_with fail
  obtain ⟨V0, hV0⟩ : ∃ V0, V0 = w.alloc (.cells #[.string ⟨#[]⟩] 9) := ⟨_, rfl⟩
  rw [← hV0]
  have hz0 : V0.heap.size = w.heap.size + 1 := by rw [hV0, World.size_alloc]
  have hn0 : V0.heap[w.heap.size + 0]? = some (.cells #[.string ⟨#[]⟩] 9) := by have h := hV0 ▸ blk_new w (.cells #[.string ⟨#[]⟩] 9); exact h
  have hl0 : Below w.heap.size w V0 := hV0 ▸ below_alloc (Below.refl _ _) _
  obtain ⟨V1, hV1⟩ : ∃ V1, V1 = V0.alloc (.cells #[.int .i64 0] 31) := ⟨_, rfl⟩
  rw [← hV1]
  have hz1 : V1.heap.size = w.heap.size + 2 := by rw [hV1, World.size_alloc]; omega
  have hn1 : V1.heap[w.heap.size + 1]? = some (.cells #[.int .i64 0] 31) := by have h := hV1 ▸ blk_new V0 (.cells #[.int .i64 0] 31); rwa [hz0] at h
  have hl1 : Below V0.heap.size V0 V1 := hV1 ▸ below_alloc (Below.refl _ _) _
  obtain ⟨V2, hV2⟩ : ∃ V2, V2 = V1.alloc (.cells #[.int .i64 b, .pointer none, .slice none 0 0, .string ⟨#[]⟩, .string ⟨#[]⟩, .int .u64 0, .pointer none, .slice none 0 0] 130) := ⟨_, rfl⟩
  rw [← hV2]
  have hz2 : V2.heap.size = w.heap.size + 3 := by rw [hV2, World.size_alloc]; omega
  have hn2 : V2.heap[w.heap.size + 2]? = some (.cells #[.int .i64 b, .pointer none, .slice none 0 0, .string ⟨#[]⟩, .string ⟨#[]⟩, .int .u64 0, .pointer none, .slice none 0 0] 130) := by have h := hV2 ▸ blk_new V1 (.cells #[.int .i64 b, .pointer none, .slice none 0 0, .string ⟨#[]⟩, .string ⟨#[]⟩, .int .u64 0, .pointer none, .slice none 0 0] 130); rwa [hz1] at h
  have hl2 : Below V1.heap.size V1 V2 := hV2 ▸ below_alloc (Below.refl _ _) _
  obtain ⟨V3, hV3⟩ : ∃ V3, V3 = V2.alloc (.cells #[.pointer (some ⟨w.heap.size + 1 + 1, 0, none⟩)] 125) := ⟨_, rfl⟩
  rw [← hV3]
  have hz3 : V3.heap.size = w.heap.size + 4 := by rw [hV3, World.size_alloc]; omega
  have hn3 : V3.heap[w.heap.size + 3]? = some (.cells #[.pointer (some ⟨w.heap.size + 1 + 1, 0, none⟩)] 125) := by have h := hV3 ▸ blk_new V2 (.cells #[.pointer (some ⟨w.heap.size + 1 + 1, 0, none⟩)] 125); rwa [hz2] at h
  have hl3 : Below V2.heap.size V2 V3 := hV3 ▸ below_alloc (Below.refl _ _) _
  obtain ⟨V4, hV4⟩ : ∃ V4, V4 = V3.alloc (.cells #[.int .i64 0] 31) := ⟨_, rfl⟩
  rw [← hV4]
  have hz4 : V4.heap.size = w.heap.size + 5 := by rw [hV4, World.size_alloc]; omega
  have hn4 : V4.heap[w.heap.size + 4]? = some (.cells #[.int .i64 0] 31) := by have h := hV4 ▸ blk_new V3 (.cells #[.int .i64 0] 31); rwa [hz3] at h
  have hl4 : Below V3.heap.size V3 V4 := hV4 ▸ below_alloc (Below.refl _ _) _
  obtain ⟨V5, hV5⟩ : ∃ V5, V5 = V4.alloc (.cells #[.bool false] 4) := ⟨_, rfl⟩
  rw [← hV5]
  have hz5 : V5.heap.size = w.heap.size + 6 := by rw [hV5, World.size_alloc]; omega
  have hn5 : V5.heap[w.heap.size + 5]? = some (.cells #[.bool false] 4) := by have h := hV5 ▸ blk_new V4 (.cells #[.bool false] 4); rwa [hz4] at h
  have hl5 : Below V4.heap.size V4 V5 := hV5 ▸ below_alloc (Below.refl _ _) _
  obtain ⟨V6, hV6⟩ : ∃ V6, V6 = V5.alloc (.cells #[.string ⟨#[]⟩] 9) := ⟨_, rfl⟩
  rw [← hV6]
  have hz6 : V6.heap.size = w.heap.size + 7 := by rw [hV6, World.size_alloc]; omega
  have hn6 : V6.heap[w.heap.size + 6]? = some (.cells #[.string ⟨#[]⟩] 9) := by have h := hV6 ▸ blk_new V5 (.cells #[.string ⟨#[]⟩] 9); rwa [hz5] at h
  have hl6 : Below V5.heap.size V5 V6 := hV6 ▸ below_alloc (Below.refl _ _) _
  have HG0 := Lib.hid (blk_below' (blk_below' (blk_below' (blk_below' (blk_below' (blk_below' hn0 hl1) hl2) hl3) hl4) hl5) hl6)
  have HG1 := Lib.hid (blk_below' (blk_below' (blk_below' (blk_below' (blk_below' hn1 hl2) hl3) hl4) hl5) hl6)
  have HG2 := Lib.hid (blk_below' (blk_below' (blk_below' (blk_below' hn2 hl3) hl4) hl5) hl6)
  have HG3 := Lib.hid (blk_below' (blk_below' (blk_below' hn3 hl4) hl5) hl6)
  have HG4 := Lib.hid (blk_below' (blk_below' hn4 hl5) hl6)
  have HG5 := Lib.hid (blk_below' hn5 hl6)
  have HG6 := Lib.hid hn6
  have HBL := Lib.hid (show Below w.heap.size w V6 from hl0 |>.trans (hl1.mono (by omega)) |>.trans (hl2.mono (by omega)) |>.trans (hl3.mono (by omega)) |>.trans (hl4.mono (by omega)) |>.trans (hl5.mono (by omega)) |>.trans (hl6.mono (by omega)))
  have HSZ := Lib.hid hz6
  clear hV0 hz0 hn0 hl0 hV1 hz1 hn1 hl1 hV2 hz2 hn2 hl2 hV3 hz3 hn3 hl3 hV4 hz4 hn4 hl4 hV5 hz5 hn5 hl5 hV6 hz6 hn6 hl6
  have hmk : Mk V6 (w.heap.size + 2) (w.heap.size + 7) (fun k => w.heap.size + 7 ≤ k) b ms0 := ⟨.pointer none, .pointer none, .slice none 0 0, .slice none 0 0, .inl rfl, .inl rfl, HG2.out, World.ownsRow_nil _ _ _ _, World.ownsRow_nil _ _ _ _, fun k hk => by simp [Value.ownBlock] at hk, fun k hk => by simp [Value.ownBlock] at hk, fun k hk => by simp [Value.ownBlock] at hk, fun k hk => by omega⟩
  have HMK := Lib.hid hmk
  clear hmk
  refine (wpIn_wide (n := 6)).1 ?_
  refine range_enter (n := 5) 76 #[] rfl (enters_of Try.func76 (by kernel_rfl) rfl) ?_
  intro r W1 hr hpn hps has hbd htm hl hD hbw1 hs1
  have HRR := Lib.hid hr
  have HPN := Lib.hid hpn
  have HL1 := Lib.hid hl
  have HD1 := Lib.hid hD
  have HS1 := Lib.hid (show W1.heap.size = w.heap.size + 9 by have := HSZ.out; omega)
  have HBW := Lib.hid (HBL.out.trans (hbw1.mono HBL.out.size))
  have HB6 := Lib.hid hbw1
  have HLL := Lib.hid hlen
  clear hr hpn hl hD hbw1 hs1 hlen
  obtain ⟨l2, hl2⟩ : ∃ l2, l2 = V6.heap.size + 1 := ⟨_, rfl⟩
  have HL2 := Lib.hid (show l2 = w.heap.size + 8 by have := HSZ.out; omega)
  rw [← hl2] at HL1 ⊢
  clear hl2
  refine (Nil_in 5 l2 ks.length H0K.out W1
    (fun j W' => (goB b (rows.take j) none ms0).1 = 0 ∧ Below w.heap.size w W' ∧ W'.heap[w.heap.size]? = some (.cells #[.string ⟨#[]⟩] 9 (0, 0)) ∧ W'.heap[w.heap.size + 1]? = some (.cells #[.int .i64 0] 31 (0, 0)) ∧ W'.heap[w.heap.size + 3]? = some (.cells #[.pointer (some ⟨w.heap.size + 2, 0, none⟩)] 125 (0, 0)) ∧ W'.heap[w.heap.size + 4]? = some (.cells #[.int .i64 0] 31 (0, 0)) ∧ W'.heap[w.heap.size + 5]? = some (.cells #[.bool (decide (j ≠ 0))] 4 (0, 0)) ∧ W'.heap[w.heap.size + 6]? = some (.cells #[.string ((lastL none (rows.take j)).getD ⟨#[]⟩)] 9 (0, 0)) ∧ Mk W' (w.heap.size + 2) (w.heap.size + 7) (fun k => w.heap.size + 9 ≤ k) b (goB b (rows.take j) none ms0).2 ∧ W'.heap[l2]? = some (.loop r) ∧ W'.heap[V6.heap.size]? = some (.deferred (some [])) ∧ w.heap.size + 9 ≤ W'.heap.size)
    (fun W' => (goB b rows none ms0).1 ≠ 0 ∧ Below w.heap.size w W' ∧ W'.heap[w.heap.size]? = some (.cells #[.string ⟨#[]⟩] 9 (0, 0)) ∧ W'.heap[w.heap.size + 1]? = some (.cells #[.int .i64 (goB b rows none ms0).1] 31 (0, 0)) ∧ (∃ r2 : Loop, W'.heap[l2]? = some (.loop r2) ∧ r2.state = .done ∧ r2.pending = some .ret) ∧ W'.heap[V6.heap.size]? = some (.deferred (some [])))
    ?h0).mono ?post
  case h0 =>
    refine ⟨rfl, HBW.out, blk_below' HG0.out HB6.out, blk_below' HG1.out HB6.out, blk_below' HG3.out HB6.out, blk_below' HG4.out HB6.out, blk_below' HG5.out HB6.out, blk_below' HG6.out HB6.out, ?_, HL1.out, HD1.out, by have := HS1.out; omega⟩
    exact (HMK.out.mono (ok' := fun k => w.heap.size + 9 ≤ k) (fun k hk hl => by have h : w.heap.size + 7 ≤ k := hk; have := HSZ.out; omega) (fun k hk => by have h : w.heap.size + 9 ≤ k := hk; omega)).below HB6.out
  case post =>
    rintro e W4 ⟨⟨ve, rfl⟩, h4⟩
    have hrl : rows.length = ks.length := by rw [HR.out, rowsOf_length _ _ HLL.out]
    rcases h4 with ⟨hg0, hb4, hS, hE, h6, h7, h8, h9, hmk, hlp, hdf, hsz⟩ | ⟨hg0, hb4, hS, hE, ⟨r2, hlp, hst, hpd⟩, hdf⟩
    · refine ⟨⟨_, rfl⟩, r, hlp, by rw [HRR.out]; decide, ?_⟩
      intro W5 hW5
      rw [HPN.out]
      dsimp only
      have h26 := HL2.out
      have hz8 := HSZ.out
      have htk : rows.take ks.length = rows := by rw [← hrl]; exact List.take_length
      rw [htk] at hg0 hmk
      obtain ⟨m, hm⟩ : ∃ m, m = (goB b rows none ms0).2 := ⟨_, rfl⟩
      rw [← hm] at hmk
      have hbX : Below w.heap.size w W5 := Below.grown hb4 (hW5 ▸ grownBy_put W4 l2 _) hb4.size (fun b e => by injection e with e; omega)
      have ho : ∀ k, k ≠ l2 → W5.heap[k]? = W4.heap[k]? := fun k hk => by rw [hW5]; exact World.putObj_heap_other hk
      have hS5 := (ho _ (by omega)).trans hS
      have hE5 := (ho _ (by omega)).trans hE
      have h65 := (ho _ (by omega)).trans h6
      have h75 := (ho _ (by omega)).trans h7
      have hK := (ho _ (by omega)).trans hdf
      have hmk5 : Mk W5 (w.heap.size + 2) (w.heap.size + 7) (fun k => w.heap.size + 9 ≤ k) b m := hmk.moved (S := fun k => k = l2) (by rw [hW5]; exact ⟨rfl, rfl, rfl, by simp, fun k hk hn => World.putObj_heap_other hn⟩) (by rintro k hk (h | h) <;> omega)
      obtain ⟨bl, cur, hmb, hfl⟩ := goB_mb (b := b) hb1 rows none ms0 [] [] MB.zero hg0
      rw [← hm] at hmb
      have hcb := hmb.close.bounds
      have hbd2 := hmb.bounds
      have hbn : bl.length + 1 ≤ 1048577 ∧ (if cur = [] then bl else bl ++ [cur]).length ≤ 1048577 := by
        have h1 := BlkOk.len hmb.ok
        have h2 : bl.flatten.length + cur.length = rows.length := by rw [← List.length_append, hfl]; simp
        refine ⟨by omega, ?_⟩
        by_cases hc : cur = []
        · rw [if_pos hc]; omega
        · rw [if_neg hc, List.length_append, List.length_singleton]; omega
      have hs5 : w.heap.size + 9 ≤ W5.heap.size := by rw [hW5]; simpa using hsz
      have C79 := Lib.hid (close_calls (w.heap.size + 2) (w.heap.size + 7) (fun k => w.heap.size + 9 ≤ k) b m W5 hmk5 (by omega) (fun k hk => by omega) (by have := hmb.fs; omega) (by have := hmb.sz; omega) (by omega) (by omega) (by rw [hmb.many]; omega))
      have HBF := Lib.hid (show buildF b rows = endB m by unfold buildF; rw [if_neg (by omega), if_neg (by rw [hg0]; exact fun h => h rfl), hm])
      have HCO := Lib.hid (show (closeS m).out.length ≤ 1099511627776 ∧ (closeS m).idx.length ≤ 1099511627776 ∧ (closeS m).many < 1099511627776 by rw [hmb.close.many]; omega)
      have HX := Lib.hid hbX
      have HS5 := Lib.hid hS5
      have HE5 := Lib.hid hE5
      have H65 := Lib.hid h65
      have H75 := Lib.hid h75
      have HK := Lib.hid hK
      have HZ5 := Lib.hid hs5
      have c3 := (blk_cell h65 0).trans rfl
      clear h26 hz8 htk hg0 hb4 hS hE h6 h7 h8 h9 hmk hlp hdf hsz hm hbX ho hS5 hE5 h65 h75 hK hmk5 hmb hcb hbd2 hbn hs5 hW5 hfl
      go_wp2_with (go_at_call 79; refine C79.out.mono ?_; rintro e w6 ⟨rfl, hm6, ho6⟩; have HM6 := Lib.hid hm6; have HO6 := Lib.hid ho6; clear hm6 ho6 c3)
      obtain ⟨c, hc⟩ : ∃ c, c = closeS m := ⟨_, rfl⟩
      rw [← hc] at HM6 HCO
      obtain ⟨en, hen⟩ : ∃ en, en = encB c.many := ⟨_, rfl⟩
      obtain ⟨ix, hix⟩ : ∃ ix : ByteArray, ix = ⟨c.idx.toArray⟩ := ⟨_, rfl⟩
      obtain ⟨F, hF⟩ : ∃ F, F = (putR 3 (en ++ ix)).1 := ⟨_, rfl⟩
      obtain ⟨E, hE⟩ : ∃ E, E = (putR 3 (en ++ ix)).2 := ⟨_, rfl⟩
      have hi1 : idxF c = (F, E) := by rw [hF, hE, hen, hix]; rfl
      have HBF2 := Lib.hid (show endB m = if E ≠ 0 ∨ 1048576 < c.out.length + F.size + 4 then (⟨#[]⟩, 13) else (⟨c.out.toArray⟩ ++ F ++ fourB F.size, 0) by unfold endB; dsimp only; rw [← hc, hi1])
      have hsz1 : en.size ≤ 10 := by rw [hen]; exact (encB_le c.many (by have := HCO.out; omega)).1
      have hsz2 : ix.size ≤ 1099511627776 := by rw [hix]; have := HCO.out.2.1; exact this
      have hfz : F.size ≤ 65600 := by have := idxF_size c; rw [hi1] at this; exact this
      have HFZ := Lib.hid hfz
      have hsum : ¬ (9223372036854775807 < en.size + ix.size) := by omega
      have C26 := Lib.hid (fun W => (show Calls Try.prog 26 #[.int .u64 c.many] W fun e w' => e = .returned (.string en) ∧ Below W.heap.size W w' by rw [hen]; exact WUint_calls c.many W (by have := HCO.out; omega)))
      have C80 := Lib.hid (fun W (h : Mk W (w.heap.size + 2) (w.heap.size + 7) (fun k => w.heap.size + 9 ≤ k) b c) => (show Calls Try.prog 80 #[.pointer (some ⟨w.heap.size + 2, 6, none⟩)] W fun e w' => e = .returned (.string ix) ∧ MkO w' (w.heap.size + 2) (w.heap.size + 7) (fun k => w.heap.size + 9 ≤ k) c ∧ Only2 (fun k => w.heap.size + 9 ≤ k) W w' by rw [hix]; exact h.idxO))
      have C61 := Lib.hid (fun W => (show Calls Try.prog 61 #[.int .u8 3, .string (en ++ ix)] W fun e w' => e = .returned (.tuple #[.string F, .int .i64 E]) ∧ Below W.heap.size W w' by rw [hF, hE]; exact Put_calls 3 (en ++ ix) W (by unfold maxLen; rw [ByteArray.size_append]; omega)))
      have hz8 := HSZ.out
      have h5n : ∀ k, k < w.heap.size + 9 → k ≠ w.heap.size + 2 → k < W5.heap.size → w6.heap[k]? = W5.heap[k]? := fun k h1 h2 h3 => HO6.out.block k h3 (fun h => by rcases h with h | h; exact h2 h; have h : w.heap.size + 9 ≤ k := h; omega)
      have hz5 := HZ5.out
      have a0 := (h5n _ (by omega) (by omega) (by omega)).trans HS5.out
      have a1 := (h5n _ (by omega) (by omega) (by omega)).trans HE5.out
      have a3 := (h5n _ (by omega) (by omega) (by omega)).trans H65.out
      have a4 := (h5n _ (by omega) (by omega) (by omega)).trans H75.out
      have aK := (h5n _ (by omega) (by omega) (by omega)).trans HK.out
      have ab : Below w.heap.size w w6 := HX.out.trans ⟨HO6.out.os, HO6.out.tape, HO6.out.output, HO6.out.size, fun k hk => h5n k (by omega) (by omega) (by omega)⟩
      have hs := HO6.out.size
      have hbd : Below w6.heap.size w6 w6.drew := below_drew1 (Below.refl _ _)
      have A0 := Lib.hid (show w6.drew.heap[w.heap.size]? = _ from a0)
      have A1 := Lib.hid (show w6.drew.heap[w.heap.size + 1]? = _ from a1)
      have A3 := Lib.hid (show w6.drew.heap[w.heap.size + 3]? = _ from a3)
      have A4 := Lib.hid (show w6.drew.heap[w.heap.size + 4]? = _ from a4)
      have AK := Lib.hid (show w6.drew.heap[V6.heap.size]? = _ from aK)
      have AB := Lib.hid (ab.trans (hbd.mono ab.size))
      have AS := Lib.hid (show w.heap.size + 9 ≤ w6.drew.heap.size by show _ ≤ w6.heap.size; omega)
      have AM := Lib.hid (HM6.out.below hbd)
      have hS18 : w6.drew.cell? ⟨w.heap.size + 3, 0, none⟩ = some (.pointer (some ⟨w.heap.size + 2, 0, none⟩)) ∧ w6.drew.cell? ⟨w.heap.size + 2, 5, none⟩ = some (.int .u64 c.many) := ⟨(blk_cell A3.out 0).trans rfl, AM.out.get.2.2.2.1⟩
      clear a0 a1 a3 a4 aK ab hs hbd h5n hz5 hz8 hc hen hix hF hE hi1 hsz1 hsz2 hfz HS5 HE5 H65 H75 HK HX HZ5 HO6 HM6
      refine start_ (n := 16) (S := fun w' => w'.cell? ⟨w.heap.size + 3, 0, none⟩ = some (.pointer (some ⟨w.heap.size + 2, 0, none⟩)) ∧ w'.cell? ⟨w.heap.size + 2, 5, none⟩ = some (.int .u64 c.many)) (ds := [15]) #[false, false, false, false, false, false, false, false, false, false, false, false, false, false, false, false] (by kernel_rfl) rfl rfl (hS18) (fun hHeld => ?_)
      refine take_ (i := 0) (N := some 51) (v := ?_) (a' := ?_) #[true, false, false, false, false, false, false, false, false, false, false, false, false, false, false, false] rfl rfl (by kernel_rfl) (fun _ _ _ h => h) (Or.inl ⟨by rfl, ?_⟩) hHeld ?_ ?_
      rotate_left
      · rintro w' ⟨s0, s1⟩
        go_simp
        with_reducible rfl
      rotate_left
      · simp only [Act.put, List.setIfInBounds_toArray, List.set_cons_zero, List.set_cons_succ, i64_w, i32_w]
        rfl
      refine pure_ (i := 1) (N := some 52) (v := ?_) (a' := ?_) #[true, true, false, false, false, false, false, false, false, false, false, false, false, false, false, false] rfl rfl (by kernel_rfl) (fun _ _ _ h => h) (Or.inl ⟨by rfl, ?_⟩) ?_ ?_
      rotate_left
      · intro w'
        go_simp
        with_reducible rfl
      rotate_left
      · simp only [Act.put, List.setIfInBounds_toArray, List.set_cons_zero, List.set_cons_succ, i64_w, i32_w]
        rfl
      refine pure_ (i := 2) (N := some 53) (v := ?_) (a' := ?_) #[true, true, true, false, false, false, false, false, false, false, false, false, false, false, false, false] rfl rfl (by kernel_rfl) (fun _ _ _ h => h) (Or.inl ⟨by rfl, ?_⟩) ?_ ?_
      rotate_left
      · intro w'
        go_simp
        with_reducible rfl
      rotate_left
      · simp only [Act.put, List.setIfInBounds_toArray, List.set_cons_zero, List.set_cons_succ, i64_w, i32_w]
        rfl
      refine take_ (i := 3) (N := some 54) (v := ?_) (a' := ?_) #[true, true, true, true, false, false, false, false, false, false, false, false, false, false, false, false] rfl rfl (by kernel_rfl) (fun _ _ _ h => h) (Or.inl ⟨by rfl, ?_⟩) hHeld ?_ ?_
      rotate_left
      · rintro w' ⟨s0, s1⟩
        go_simp
        with_reducible rfl
      rotate_left
      · simp only [Act.put, List.setIfInBounds_toArray, List.set_cons_zero, List.set_cons_succ, i64_w, i32_w]
        rfl
      refine take_ (i := 5) (N := some 56) (v := ?_) (a' := ?_) #[true, true, true, true, false, true, false, false, false, false, false, false, false, false, false, false] rfl rfl (by kernel_rfl) (fun _ _ _ h => h) (Or.inl ⟨by rfl, ?_⟩) hHeld ?_ ?_
      rotate_left
      · rintro w' ⟨s0, s1⟩
        go_simp
        with_reducible rfl
      rotate_left
      · simp only [Act.put, List.setIfInBounds_toArray, List.set_cons_zero, List.set_cons_succ, i64_w, i32_w]
        rfl
      refine pure_ (i := 6) (N := some 57) (v := ?_) (a' := ?_) #[true, true, true, true, false, true, true, false, false, false, false, false, false, false, false, false] rfl rfl (by kernel_rfl) (fun _ _ _ h => h) (Or.inl ⟨by rfl, ?_⟩) ?_ ?_
      rotate_left
      · intro w'
        go_simp
        with_reducible rfl
      rotate_left
      · simp only [Act.put, List.setIfInBounds_toArray, List.set_cons_zero, List.set_cons_succ, i64_w, i32_w]
        rfl
      refine pure_ (i := 7) (N := some 58) (v := ?_) (a' := ?_) #[true, true, true, true, false, true, true, true, false, false, false, false, false, false, false, false] rfl rfl (by kernel_rfl) (fun _ _ _ h => h) (Or.inl ⟨by rfl, ?_⟩) ?_ ?_
      rotate_left
      · intro w'
        go_simp
        with_reducible rfl
      rotate_left
      · simp only [Act.put, List.setIfInBounds_toArray, List.set_cons_zero, List.set_cons_succ, i64_w, i32_w]
        rfl
      refine one_ (i := 4) (N := some 55) #[true, true, true, true, true, true, true, true, false, false, false, false, false, false, false, false] rfl rfl (by kernel_rfl) (by decide) (fun K hK => ?_)
      refine goes_ Try.func26 (by kernel_rfl) rfl #[.int .u64 c.many] (by rfl) rfl rfl (by simp only [List.map_toArray, List.map_cons, List.map_nil]; rfl) ?_
      refine (C26.out _).mono ?_
      rintro e w7 ⟨rfl, hb7⟩
      refine ⟨_, rfl, ?_⟩
      have HB7 := Lib.hid hb7
      clear hb7
      refine hK.out _ _ (⟨pw_cell_below HB7.out hHeld.1, pw_cell_below HB7.out hHeld.2⟩) (fun hHeld => ?_)
      clear hK K
      refine norm_ (a' := ?_) ?_ ?_
      rotate_left
      · show Act.put _ (some 55) _ = _
        simp only [Act.put, List.setIfInBounds_toArray, List.set_cons_zero, List.set_cons_succ, i64_w, i32_w]
        rfl
      refine one_ (i := 8) (N := some 59) #[true, true, true, true, true, true, true, true, true, false, false, false, false, false, false, false] rfl rfl (by kernel_rfl) (by decide) (fun K hK => ?_)
      refine goes_ Try.func80 (by kernel_rfl) rfl #[.pointer (some ⟨w.heap.size + 2, 6, none⟩)] (by rfl) rfl rfl (by simp only [List.map_toArray, List.map_cons, List.map_nil]; rfl) ?_
      refine (C80.out _ (AM.out.below HB7.out)).mono ?_
      rintro e w8 ⟨rfl, hm8, ho8⟩
      refine ⟨_, rfl, ?_⟩
      have HM8 := Lib.hid hm8
      have HO8 := Lib.hid ho8
      clear hm8 ho8
      have h78 : ∀ k, k < w.heap.size + 9 → w8.heap[k]? = w7.heap[k]? := fun k h1 => HO8.out.block k (by have := HB7.out.size; have := AS.out; omega) (fun h => by have h : w.heap.size + 9 ≤ k := h; omega)
      have H78 := Lib.hid h78
      have h8h : w8.cell? ⟨w.heap.size + 3, 0, none⟩ = some (.pointer (some ⟨w.heap.size + 2, 0, none⟩)) ∧ w8.cell? ⟨w.heap.size + 2, 5, none⟩ = some (.int .u64 c.many) := ⟨(World.cell?_of_block (w := w7) (h78 _ (by show w.heap.size + 3 < _; omega))).trans hHeld.1, (World.cell?_of_block (w := w7) (h78 _ (by show w.heap.size + 2 < _; omega))).trans hHeld.2⟩
      clear h78
      refine hK.out _ _ (h8h) (fun hHeld => ?_)
      clear hK K
      refine norm_ (a' := ?_) ?_ ?_
      rotate_left
      · show Act.put _ (some 59) _ = _
        simp only [Act.put, List.setIfInBounds_toArray, List.set_cons_zero, List.set_cons_succ, i64_w, i32_w]
        rfl
      refine pure_ (i := 9) (N := some 60) (v := ?_) (a' := ?_) #[true, true, true, true, true, true, true, true, true, true, false, false, false, false, false, false] rfl rfl (by kernel_rfl) (fun _ _ _ h => h) (Or.inl ⟨by rfl, ?_⟩) ?_ ?_
      rotate_left
      · intro w'
        go_simp
        with_reducible rfl
      rotate_left
      · simp only [Act.put, List.setIfInBounds_toArray, List.set_cons_zero, List.set_cons_succ, i64_w, i32_w]
        rfl
      refine one_ (i := 10) (N := some 61) #[true, true, true, true, true, true, true, true, true, true, true, false, false, false, false, false] rfl rfl (by kernel_rfl) (by decide) (fun K hK => ?_)
      refine goes_ Try.func61 (by kernel_rfl) rfl #[.int .u8 3, .string (en ++ ix)] (by rfl) rfl rfl (by simp only [List.map_toArray, List.map_cons, List.map_nil]; rfl) ?_
      refine (C61.out _).mono ?_
      rintro e w9 ⟨rfl, hb9⟩
      refine ⟨_, rfl, ?_⟩
      have HB9 := Lib.hid hb9
      clear hb9
      refine hK.out _ _ (⟨pw_cell_below HB9.out hHeld.1, pw_cell_below HB9.out hHeld.2⟩) (fun hHeld => ?_)
      clear hK K
      refine norm_ (a' := ?_) ?_ ?_
      rotate_left
      · show Act.put _ (some 61) _ = _
        simp only [Act.put, List.setIfInBounds_toArray, List.set_cons_zero, List.set_cons_succ, i64_w, i32_w]
        rfl
      refine pure_ (i := 11) (N := some 50) (v := ?_) (a' := ?_) #[true, true, true, true, true, true, true, true, true, true, true, true, false, false, false, false] rfl rfl (by kernel_rfl) (fun _ _ _ h => h) (Or.inl ⟨by rfl, ?_⟩) ?_ ?_
      rotate_left
      · intro w'
        go_simp
        with_reducible rfl
      rotate_left
      · simp only [Act.put, List.setIfInBounds_toArray, List.set_cons_zero, List.set_cons_succ, i64_w, i32_w]
        rfl
      refine pure_ (i := 12) (N := some 62) (v := ?_) (a' := ?_) #[true, true, true, true, true, true, true, true, true, true, true, true, true, false, false, false] rfl rfl (by kernel_rfl) (fun _ _ _ h => h) (Or.inl ⟨by rfl, ?_⟩) ?_ ?_
      rotate_left
      · intro w'
        go_simp
        with_reducible rfl
      rotate_left
      · simp only [Act.put, List.setIfInBounds_toArray, List.set_cons_zero, List.set_cons_succ, i64_w, i32_w]
        rfl
      refine pure_ (i := 13) (N := some 63) (v := ?_) (a' := ?_) #[true, true, true, true, true, true, true, true, true, true, true, true, true, true, false, false] rfl rfl (by kernel_rfl) (fun _ _ _ h => h) (Or.inl ⟨by rfl, ?_⟩) ?_ ?_
      rotate_left
      · intro w'
        go_simp
        with_reducible rfl
      rotate_left
      · simp only [Act.put, List.setIfInBounds_toArray, List.set_cons_zero, List.set_cons_succ, i64_w, i32_w]
        rfl
      refine pure_ (i := 14) (N := some 12) (v := ?_) (a' := ?_) #[true, true, true, true, true, true, true, true, true, true, true, true, true, true, true, false] rfl rfl (by kernel_rfl) (fun _ _ _ h => h) (Or.inl ⟨by rfl, ?_⟩) ?_ ?_
      rotate_left
      · intro w'
        go_simp
        with_reducible rfl
      rotate_left
      · simp only [Act.put, List.setIfInBounds_toArray, List.set_cons_zero, List.set_cons_succ, i64_w, i32_w]
        rfl
      refine last_ (i := 15) (N := none) #[true, true, true, true, true, true, true, true, true, true, true, true, true, true, true, true] rfl rfl (by kernel_rfl) (by decide) (fun K hK => ?_)
      have hz8 := HSZ.out
      have h99 : ∀ k, k < w.heap.size + 9 → w9.heap[k]? = w6.drew.heap[k]? := fun k hk => (HB9.out.block k (by have := HO8.out.size; have := HB7.out.size; have := AS.out; omega)).trans ((H78.out k hk).trans (HB7.out.block k (by have := AS.out; omega)))
      have H99 := Lib.hid h99
      have q4 := (h99 _ (by omega)).trans A4.out
      have Q4 := Lib.hid q4
      have c4 := (blk_cell q4 0).trans rfl
      have f4 := blk_frozen q4 0
      clear q4 h99 hz8
      refine skip_ (w1 := w9.setCell ⟨w.heap.size + 4, 0, none⟩ (.int .i64 E)) (by rfl) rfl (by go_simp) ?_
      clear c4 f4
      refine hK.out _ _ ?_
      clear hK K
      refine done_ (by kernel_rfl) ?_
      clear hHeld
      obtain ⟨X, hX⟩ : ∃ X, X = w9.setCell ⟨w.heap.size + 4, 0, none⟩ (.int .i64 E) := ⟨_, rfl⟩
      rw [← hX]
      have h9f : ∀ k, k ≠ w.heap.size + 4 → X.heap[k]? = w9.heap[k]? := fun k hk => by rw [hX]; exact Below.heap_setCell _ _ _ _ hk
      have hz8 := HSZ.out
      have s9 := HB9.out.size
      have s8 := HO8.out.size
      have s7 := HB7.out.size
      have s6 := AS.out
      have hb9 : Below w.heap.size w w9 := ((AB.out.trans (HB7.out.mono AB.out.size)).trans ⟨HO8.out.os, HO8.out.tape, HO8.out.output, HO8.out.size, fun k hk => H78.out k (by omega)⟩).trans (HB9.out.mono (by omega))
      have X0 := Lib.hid ((h9f _ (by omega)).trans ((H99.out _ (by omega)).trans A0.out))
      have X1 := Lib.hid ((h9f _ (by omega)).trans ((H99.out _ (by omega)).trans A1.out))
      have X3 := Lib.hid ((h9f _ (by omega)).trans ((H99.out _ (by omega)).trans A3.out))
      have XK := Lib.hid ((h9f _ (by omega)).trans ((H99.out _ (by omega)).trans AK.out))
      have X4 := Lib.hid (show X.heap[w.heap.size + 4]? = some (.cells #[.int .i64 E] 31 (0, 0)) by rw [hX]; exact blk_set Q4.out 0 _)
      have XB := Lib.hid (show Below w.heap.size w X by rw [hX]; exact hb9.setCell (p := ⟨w.heap.size + 4, 0, none⟩) (by show w.heap.size ≤ w.heap.size + 4; omega) _)
      have XM := Lib.hid (show MkO X (w.heap.size + 2) (w.heap.size + 7) (fun k => w.heap.size + 9 ≤ k) c from (HM8.out.below HB9.out).set (q := w.heap.size + 4) (by rw [hX]; exact grownBy_setCell0 _ _ _) (by omega) (by omega))
      have XS := Lib.hid (show w.heap.size + 9 ≤ X.heap.size by rw [hX]; simp only [World.size_setCell]; omega)
      clear hX h9f hz8 s9 s8 s7 s6 hb9 hS18 h8h hHeld A0 A1 A3 A4 AK AB AS AM HB7 HM8 HO8 H78 HB9 H99 Q4
      have c3 := (blk_cell X3.out 0).trans rfl
      have c4 := (blk_cell X4.out 0).trans rfl
      by_cases hE : E = 0
      · subst hE
        have hq : (((0 : Nat) : Int) != 0) = false := rfl
        have h81 := Lib.hid XM.out.outLen
        have hcl : c.out.length ≤ 1099511627776 := HCO.out.1
        have hF2 := HFZ.out
        by_cases hbig : 1048576 < c.out.length + F.size + 4
        · have hb1 : decide ((1048576 : Int) < (c.out.length : Int) + (F.size : Int) + 4) = true := by simp; omega
          have HBIG := Lib.hid hbig
          clear hbig
          have c0 := (blk_cell X0.out 0).trans rfl
          have f0 := blk_frozen X0.out 0
          have c1 := (blk_cell X1.out 0).trans rfl
          have f1 := blk_frozen X1.out 0
          go_wp2_with (go_at_call 81; refine h81.out.mono ?_; rintro e w10 ⟨rfl, rfl⟩)
          have ZK := Lib.hid XK.out
          have ZB := Lib.hid XB.out
          obtain ⟨Y, hY⟩ : ∃ Y, Y = (X.setCell ⟨w.heap.size, 0, none⟩ (.string ⟨#[]⟩)).setCell ⟨w.heap.size + 1, 0, none⟩ (.int .i64 13) := ⟨_, rfl⟩
          rw [← hY]
          have Y0 := Lib.hid (show Y.heap[w.heap.size]? = some (.cells #[.string ⟨#[]⟩] 9 (0, 0)) by rw [hY]; exact blk_far (blk_set X0.out 0 _) (p := ⟨w.heap.size + 1, 0, none⟩) (by show w.heap.size ≠ w.heap.size + 1; omega) _)
          have Y1 := Lib.hid (show Y.heap[w.heap.size + 1]? = some (.cells #[.int .i64 13] 31 (0, 0)) by rw [hY]; exact blk_set (blk_far X1.out (p := ⟨w.heap.size, 0, none⟩) (by show w.heap.size + 1 ≠ w.heap.size; omega) _) 0 _)
          have YK := Lib.hid (show Y.heap[V6.heap.size]? = some (.deferred (some [])) by have hz8 := HSZ.out; rw [hY]; exact (Below.heap_setCell _ _ _ _ (by show V6.heap.size ≠ w.heap.size + 1; omega)).trans ((Below.heap_setCell _ _ _ _ (by show V6.heap.size ≠ w.heap.size; omega)).trans ZK.out))
          have YB := Lib.hid (show Below w.heap.size w Y by rw [hY]; exact (ZB.out.setCell (p := ⟨w.heap.size, 0, none⟩) (Nat.le_refl _) _).setCell (p := ⟨w.heap.size + 1, 0, none⟩) (Nat.le_succ _) _)
          clear hY
          show bodyPostM _ _ _ _ _ Exit.ret _ _
          have hz8 := HSZ.out
          have hz0 : (Y.putObj V6.heap.size (.deferred none)).cell? ⟨w.heap.size, 0, none⟩ = some (.string ⟨#[]⟩) := (blk_cell ((World.putObj_heap_other (by omega)).trans Y0.out) 0).trans rfl
          have hz1 : (Y.putObj V6.heap.size (.deferred none)).cell? ⟨w.heap.size + 1, 0, none⟩ = some (.int .i64 13) := (blk_cell ((World.putObj_heap_other (by omega)).trans Y1.out) 0).trans rfl
          refine ⟨by simp, .inl ⟨_, _, rfl, run_takeDeferred YK.out, ?_⟩⟩
          refine ⟨.tuple #[.string ⟨#[]⟩, .int .i64 13], ?_, ?_, ?_⟩
          · simp [results, Try.f37, go_sem, hz0, hz1]
          · rw [HBF.out, HBF2.out, if_pos (.inr HBIG.out)]
            rfl
          · exact Below.grown YB.out (grownBy_put Y _ _) YB.out.size (fun b e => by injection e with e; omega)
        · have hb1 : decide ((1048576 : Int) < (c.out.length : Int) + (F.size : Int) + 4) = false := by simp; omega
          have HBIG := Lib.hid hbig
          clear hbig
          obtain ⟨os, hos⟩ : ∃ os : ByteArray, os = ⟨c.out.toArray⟩ := ⟨_, rfl⟩
          obtain ⟨fo, hfo⟩ : ∃ fo, fo = fourB F.size := ⟨_, rfl⟩
          have hol : os.size = c.out.length := by rw [hos]; rfl
          have hfl : fo.size = 4 := by rw [hfo]; rfl
          have hs1 : ¬ (9223372036854775807 < os.size + F.size) := by omega
          have hs2 : ¬ (9223372036854775807 < os.size + F.size + fo.size) := by omega
          have h80 := Lib.hid (show Calls Try.prog 80 #[.pointer (some ⟨w.heap.size + 2, 1, none⟩)] X fun e w' => e = .returned (.string os) ∧ Only2 (fun k => w.heap.size + 9 ≤ k) X w' by rw [hos]; exact XM.out.outStr)
          have h82 := Lib.hid (fun W => (show Calls Try.prog 82 #[.int .i64 F.size] W fun e w' => e = .returned (.string fo) ∧ Below W.heap.size W w' by rw [hfo]; exact runFour_calls F.size W (by omega)))
          have HOS := Lib.hid hos
          have HFO := Lib.hid hfo
          clear hos hfo hol hfl
          go_wp2_with (first | (go_at_call 81; refine h81.out.mono ?_; rintro e w10 ⟨rfl, rfl⟩) | (go_at_call 80; refine h80.out.mono ?_; rintro e w11 ⟨rfl, ho11⟩; have h11 := fun k (hk : k < w.heap.size + 9) => ho11.block k (by have := XS.out; omega) (fun h => by have h : w.heap.size + 9 ≤ k := h; omega); have H11 := Lib.hid h11; have HO11 := Lib.hid ho11; clear h11 ho11 c3 c4) | (go_at_call 82; refine (h82.out _).mono ?_; rintro e w12 ⟨rfl, hb12⟩; have h12 := fun k (hk : k < w.heap.size + 9) => (hb12.block k (by have := XS.out; have := HO11.out.size; omega)).trans (H11.out k hk); have H12 := Lib.hid h12; have HB12 := Lib.hid hb12; have c0 := (blk_cell ((h12 _ (by omega)).trans X0.out) 0).trans rfl; have f0 := blk_frozen ((h12 _ (by omega)).trans X0.out) 0; have c1 := (blk_cell ((h12 _ (by omega)).trans X1.out) 0).trans rfl; have f1 := blk_frozen ((h12 _ (by omega)).trans X1.out) 0; clear h12 hb12))
          have hb12 : Below w.heap.size w w12 := XB.out.trans ⟨HB12.out.os.trans HO11.out.os, HB12.out.tape.trans HO11.out.tape, HB12.out.output.trans HO11.out.output, by have := HO11.out.size; have := HB12.out.size; omega, fun k hk => H12.out k (by omega)⟩
          have ZK := Lib.hid ((H12.out _ (by have := HSZ.out; omega)).trans XK.out)
          have ZB := Lib.hid hb12
          obtain ⟨Y, hY⟩ : ∃ Y, Y = (w12.setCell ⟨w.heap.size, 0, none⟩ (.string (os ++ F ++ fo))).setCell ⟨w.heap.size + 1, 0, none⟩ (.int .i64 0) := ⟨_, rfl⟩
          rw [← hY]
          have Y0 := Lib.hid (show Y.heap[w.heap.size]? = some (.cells #[.string (os ++ F ++ fo)] 9 (0, 0)) by rw [hY]; exact blk_far (blk_set ((H12.out _ (by omega)).trans X0.out) 0 _) (p := ⟨w.heap.size + 1, 0, none⟩) (by show w.heap.size ≠ w.heap.size + 1; omega) _)
          have Y1 := Lib.hid (show Y.heap[w.heap.size + 1]? = some (.cells #[.int .i64 0] 31 (0, 0)) by rw [hY]; exact blk_set (blk_far ((H12.out _ (by omega)).trans X1.out) (p := ⟨w.heap.size, 0, none⟩) (by show w.heap.size + 1 ≠ w.heap.size; omega) _) 0 _)
          have YK := Lib.hid (show Y.heap[V6.heap.size]? = some (.deferred (some [])) by have hz8 := HSZ.out; rw [hY]; exact (Below.heap_setCell _ _ _ _ (by show V6.heap.size ≠ w.heap.size + 1; omega)).trans ((Below.heap_setCell _ _ _ _ (by show V6.heap.size ≠ w.heap.size; omega)).trans ZK.out))
          have YB := Lib.hid (show Below w.heap.size w Y by rw [hY]; exact (ZB.out.setCell (p := ⟨w.heap.size, 0, none⟩) (Nat.le_refl _) _).setCell (p := ⟨w.heap.size + 1, 0, none⟩) (Nat.le_succ _) _)
          clear hY
          show bodyPostM _ _ _ _ _ Exit.ret _ _
          have hz8 := HSZ.out
          have hz0 : (Y.putObj V6.heap.size (.deferred none)).cell? ⟨w.heap.size, 0, none⟩ = some (.string (os ++ F ++ fo)) := (blk_cell ((World.putObj_heap_other (by omega)).trans Y0.out) 0).trans rfl
          have hz1 : (Y.putObj V6.heap.size (.deferred none)).cell? ⟨w.heap.size + 1, 0, none⟩ = some (.int .i64 0) := (blk_cell ((World.putObj_heap_other (by omega)).trans Y1.out) 0).trans rfl
          refine ⟨by simp, .inl ⟨_, _, rfl, run_takeDeferred YK.out, ?_⟩⟩
          refine ⟨.tuple #[.string (os ++ F ++ fo), .int .i64 0], ?_, ?_, ?_⟩
          · simp [results, Try.f37, go_sem, hz0, hz1]
          · rw [HBF.out, HBF2.out, if_neg (by rintro (h | h); exact h rfl; exact HBIG.out h), ← HOS.out, ← HFO.out]
            rfl
          · exact Below.grown YB.out (grownBy_put Y _ _) YB.out.size (fun b e => by injection e with e; omega)
      · have hq : ((E : Int) != 0) = true := by simpa using hE
        have HE := Lib.hid hE
        clear hE
        have c0 := (blk_cell X0.out 0).trans rfl
        have f0 := blk_frozen X0.out 0
        have c1 := (blk_cell X1.out 0).trans rfl
        have f1 := blk_frozen X1.out 0
        go_wp2_with fail
        have ZK := Lib.hid XK.out
        have ZB := Lib.hid XB.out
        obtain ⟨Y, hY⟩ : ∃ Y, Y = (X.setCell ⟨w.heap.size, 0, none⟩ (.string ⟨#[]⟩)).setCell ⟨w.heap.size + 1, 0, none⟩ (.int .i64 13) := ⟨_, rfl⟩
        rw [← hY]
        have Y0 := Lib.hid (show Y.heap[w.heap.size]? = some (.cells #[.string ⟨#[]⟩] 9 (0, 0)) by rw [hY]; exact blk_far (blk_set X0.out 0 _) (p := ⟨w.heap.size + 1, 0, none⟩) (by show w.heap.size ≠ w.heap.size + 1; omega) _)
        have Y1 := Lib.hid (show Y.heap[w.heap.size + 1]? = some (.cells #[.int .i64 13] 31 (0, 0)) by rw [hY]; exact blk_set (blk_far X1.out (p := ⟨w.heap.size, 0, none⟩) (by show w.heap.size + 1 ≠ w.heap.size; omega) _) 0 _)
        have YK := Lib.hid (show Y.heap[V6.heap.size]? = some (.deferred (some [])) by have hz8 := HSZ.out; rw [hY]; exact (Below.heap_setCell _ _ _ _ (by show V6.heap.size ≠ w.heap.size + 1; omega)).trans ((Below.heap_setCell _ _ _ _ (by show V6.heap.size ≠ w.heap.size; omega)).trans ZK.out))
        have YB := Lib.hid (show Below w.heap.size w Y by rw [hY]; exact (ZB.out.setCell (p := ⟨w.heap.size, 0, none⟩) (Nat.le_refl _) _).setCell (p := ⟨w.heap.size + 1, 0, none⟩) (Nat.le_succ _) _)
        clear hY
        show bodyPostM _ _ _ _ _ Exit.ret _ _
        have hz8 := HSZ.out
        have hz0 : (Y.putObj V6.heap.size (.deferred none)).cell? ⟨w.heap.size, 0, none⟩ = some (.string ⟨#[]⟩) := (blk_cell ((World.putObj_heap_other (by omega)).trans Y0.out) 0).trans rfl
        have hz1 : (Y.putObj V6.heap.size (.deferred none)).cell? ⟨w.heap.size + 1, 0, none⟩ = some (.int .i64 13) := (blk_cell ((World.putObj_heap_other (by omega)).trans Y1.out) 0).trans rfl
        refine ⟨by simp, .inl ⟨_, _, rfl, run_takeDeferred YK.out, ?_⟩⟩
        refine ⟨.tuple #[.string ⟨#[]⟩, .int .i64 13], ?_, ?_, ?_⟩
        · simp [results, Try.f37, go_sem, hz0, hz1]
        · rw [HBF.out, HBF2.out, if_pos (.inl HE.out)]
          rfl
        · exact Below.grown YB.out (grownBy_put Y _ _) YB.out.size (fun b e => by injection e with e; omega)
    · refine ⟨⟨_, rfl⟩, r2, hlp, by rw [hst]; decide, ?_⟩
      intro W5 hW5
      rw [hpd]
      dsimp only
      refine wpIn_wide.2 ?_
      have h26 := HL2.out
      have hz8 := HSZ.out
      have hbX : Below w.heap.size w W5 := Below.grown hb4 (hW5 ▸ grownBy_put W4 l2 _) hb4.size (fun b e => by injection e with e; omega)
      have ho : ∀ k, k ≠ l2 → W5.heap[k]? = W4.heap[k]? := fun k hk => by rw [hW5]; exact World.putObj_heap_other hk
      have hS5 := (ho _ (by omega)).trans hS
      have hE5 := (ho _ (by omega)).trans hE
      have hK := (ho _ (by omega)).trans hdf
      clear hb4 hS hE hlp hst hpd hdf hW5 ho
      have HX := Lib.hid hbX
      have HS5 := Lib.hid hS5
      have HE5 := Lib.hid hE5
      have HK := Lib.hid hK
      clear hbX hS5 hE5 hK h26 hz8
      go_wp2_with fail
      show bodyPostM _ _ _ _ _ Exit.ret _ _
      have hz8 := HSZ.out
      have hz0 : (W5.putObj V6.heap.size (.deferred none)).cell? ⟨w.heap.size, 0, none⟩ = some (.string ⟨#[]⟩) := (blk_cell ((World.putObj_heap_other (by omega)).trans HS5.out) 0).trans rfl
      have hz1 : (W5.putObj V6.heap.size (.deferred none)).cell? ⟨w.heap.size + 1, 0, none⟩ = some (.int .i64 (goB b rows none ms0).1) := (blk_cell ((World.putObj_heap_other (by omega)).trans HE5.out) 0).trans rfl
      refine ⟨by simp, .inl ⟨_, _, rfl, run_takeDeferred HK.out, ?_⟩⟩
      refine ⟨.tuple #[.string ⟨#[]⟩, .int .i64 (goB b rows none ms0).1], ?_, ?_, ?_⟩
      · simp [results, Try.f37, go_sem, hz0, hz1]
      · unfold buildF
        rw [if_neg (by omega), if_pos hg0]
      · exact Below.grown HX.out (grownBy_put W5 _ _) HX.out.size (fun b e => by injection e with e; omega)

set_option maxRecDepth 100000 in
theorem BuildArg_calls (b : Int) (sv : Value) (w : World) (hb : b < 64 ∨ 4096 < b) :
    Calls Try.prog 37 #[.int .i64 b, sv] w fun e w' => e = .returned (.tuple #[.string ⟨#[]⟩, .int .i64 1]) ∧ Below w.heap.size w w' := by
  by_cases h : b < 64
  · have hd1 : decide (b < 64) = true := by simp; omega
    clear h hb
    go_enter Try.func37, Try.ntmps37
    go_wp2_with fail
    refine bodyPost_ret (v := .tuple #[.string ⟨#[]⟩, .int .i64 1]) ?_ rfl ⟨rfl, below_alloc (below_alloc (Below.refl _ _) _) _⟩
    have hz0 : ((w.alloc (.cells #[.string ⟨#[]⟩] 9)).alloc (.cells #[.int .i64 1] 31)).cell? ⟨w.heap.size, 0, none⟩ = some (.string ⟨#[]⟩) := (blk_cell (blk_alloc (blk_new w _) _) 0).trans rfl
    have hz1 : ((w.alloc (.cells #[.string ⟨#[]⟩] 9)).alloc (.cells #[.int .i64 1] 31)).cell? ⟨w.heap.size + 1, 0, none⟩ = some (.int .i64 1) := (blk_cell (heap_alloc2_new w _ _) 0).trans rfl
    simp [results, Try.f37, go_sem, hz0, hz1]
  · have hd1 : decide (b < 64) = false := by simp; omega
    have hd2 : decide (4096 < b) = true := by simp; omega
    clear h hb
    go_enter Try.func37, Try.ntmps37
    go_wp2_with fail
    refine bodyPost_ret (v := .tuple #[.string ⟨#[]⟩, .int .i64 1]) ?_ rfl ⟨rfl, below_alloc (below_alloc (Below.refl _ _) _) _⟩
    have hz0 : ((w.alloc (.cells #[.string ⟨#[]⟩] 9)).alloc (.cells #[.int .i64 1] 31)).cell? ⟨w.heap.size, 0, none⟩ = some (.string ⟨#[]⟩) := (blk_cell (blk_alloc (blk_new w _) _) 0).trans rfl
    have hz1 : ((w.alloc (.cells #[.string ⟨#[]⟩] 9)).alloc (.cells #[.int .i64 1] 31)).cell? ⟨w.heap.size + 1, 0, none⟩ = some (.int .i64 1) := (blk_cell (heap_alloc2_new w _ _) 0).trans rfl
    simp [results, Try.f37, go_sem, hz0, hz1]

theorem far_sc {W W' : World} {base : Nat} {ok ok' : Nat → Prop} {v1 v2 : Value} {xs : List ByteArray} {ys : List S38} (h1 : Kd.R Kd.string 9 W base ok v1 xs) (h2 : Kd.R k38 38 W base ok' v2 ys) (hg : W.grownBy W' v1.ownBlock) : Kd.R k38 38 W' base ok' v2 ys := by
  refine Kd.R_mono (Kd.R_step (Kd.R_bound h2) (fun b hb hb2 => hg.block b hb2 (fun e => ?_))) (fun _ h => h.1)
  obtain ⟨_, _, _, q, hq, c, hc⟩ := hb
  obtain ⟨_, _, _, q', hq', c', hc'⟩ := (Kd.R_bound h1).1 b e.symm
  rw [hc] at hc'
  have e1 : q = 38 := List.mem_singleton.1 hq
  have e2 : q' = 9 := List.mem_singleton.1 hq'
  rw [e1, e2] at hc'
  injection hc' with hc'
  injection hc' with _ hc'
  cases hc'
theorem far_cs {W W' : World} {base : Nat} {ok ok' : Nat → Prop} {v1 v2 : Value} {xs : List ByteArray} {ys : List S38} (h1 : Kd.R Kd.string 9 W base ok v1 xs) (h2 : Kd.R k38 38 W base ok' v2 ys) (hg : W.grownBy W' v2.ownBlock) : Kd.R Kd.string 9 W' base ok v1 xs := by
  refine Kd.R_mono (Kd.R_step (Kd.R_bound h1) (fun b hb hb2 => hg.block b hb2 (fun e => ?_))) (fun _ h => h.1)
  obtain ⟨_, _, _, q, hq, c, hc⟩ := hb
  obtain ⟨_, _, _, q', hq', c', hc'⟩ := (Kd.R_bound h2).1 b e.symm
  rw [hc] at hc'
  have e1 : q = 9 := List.mem_singleton.1 hq
  have e2 : q' = 38 := List.mem_singleton.1 hq'
  rw [e1, e2] at hc'
  injection hc' with hc'
  injection hc' with _ hc'
  cases hc'
theorem rowsOf_map (l : List S54) : rowsOf (l.map (·.f0)) (l.map (·.f1)) = l.map toR := by
  induction l with
  | nil => rfl
  | cons x l ih => unfold rowsOf at ih ⊢; simp only [List.map_cons, List.zip_cons_cons]; rw [ih]; rfl
theorem take_map {α β : Type} (f : α → β) (l : List α) (j : Nat) (d : α) (h : j < l.length) : (l.map f).take j ++ [f (l.getD j d)] = (l.map f).take (j + 1) := by
  rw [List.take_succ_eq_append_getElem (by simpa using h), List.getElem_map, List.getD_eq_getElem?_getD, List.getElem?_eq_getElem h]; rfl
set_option maxRecDepth 100000 in
set_option maxHeartbeats 4000000 in
theorem built_calls (b : Int) (A : Option Addr) (c : Nat) (l : List S54) (w : World) (h : Kd.C k54 w A l.length l) (hl : l.length ≤ 1048576) :
    Calls Try.prog 41 #[.int .i64 b, .slice A l.length c] w fun e w' => e = .returned (.tuple #[.string (buildF b (l.map toR)).1, .int .i64 (buildF b (l.map toR)).2]) ∧ Below w.heap.size w w' := by
  have HC := Lib.hid h
  have HLB := Lib.hid hl
  clear h hl
  go_enter Try.func41, Try.ntmps41
  go_wp2_with fail
  go_loopw [6, 7, 8] (fun kv cv iv W => ∃ j : Int, iv = .int .i64 j ∧ 0 ≤ j ∧ j ≤ l.length ∧ Below w.heap.size w W ∧ Kd.R Kd.string 9 W w.heap.size (fun _ => True) kv ((l.map (·.f0)).take j.toNat) ∧ Kd.R k38 38 W w.heap.size (fun _ => True) cv ((l.map (·.f1)).take j.toNat)) (fun _ _ iv _ => l.length - (intOf iv).toNat)
  case atStart => exact ⟨0, rfl, Int.le_refl _, by omega, Below.refl _ _, Kd.R_nil _ _ _ _ _, Kd.R_nil _ _ _ _ _⟩
  case round =>
    obtain ⟨j, rfl, hj0, hj, hbw, hr1, hr2⟩ := hrel
    have HBW := Lib.hid hbw
    have HK1 := Lib.hid hr1
    have HK2 := Lib.hid hr2
    clear hbw hr1 hr2
    by_cases hlt : j < (l.length : Int)
    · obtain ⟨ad, hA, i1, i2, i3⟩ := at_T54 HC.out j hj0 hlt
      have hjb : j ≤ 1048576 := by have := HLB.out; omega
      subst hA
      obtain ⟨x, hx⟩ : ∃ x, x = rd_T54 l j := ⟨_, rfl⟩
      rw [← hx] at i1 i2 i3
      obtain ⟨ks, hks⟩ : ∃ ks, ks = (l.map (·.f0)).take j.toNat := ⟨_, rfl⟩
      obtain ⟨cs, hcs⟩ : ∃ cs, cs = (l.map (·.f1)).take j.toNat := ⟨_, rfl⟩
      rw [← hks] at HK1
      rw [← hcs] at HK2
      have HKL := Lib.hid (show ks.length ≤ 1048576 ∧ cs.length ≤ 1048576 by rw [hks, hcs, List.length_take, List.length_take]; omega)
      have HKS := Lib.hid (show ks ++ [x.f0] = (l.map (·.f0)).take (j.toNat + 1) by rw [hks, hx]; exact take_map (·.f0) l j.toNat z54 (by omega))
      have HCS := Lib.hid (show cs ++ [x.f1] = (l.map (·.f1)).take (j.toNat + 1) by rw [hcs, hx]; exact take_map (·.f1) l j.toNat z54 (by omega))
      have HL := Lib.hid (fun (W : World) (hb : Below w.heap.size w W) => (⟨pw_cell_below hb i2, pw_cell_below hb i3⟩ : W.cell? ⟨(ad.add (j.toNat * 3)).block, (ad.add (j.toNat * 3)).off + 1, none⟩ = some (.string x.f1.f0) ∧ W.cell? ⟨(ad.add (j.toNat * 3)).block, (ad.add (j.toNat * 3)).off + 1 + 1, none⟩ = some (.bool x.f1.f1)))
      have i0 := pw_cell_below HBW.out i1
      clear i1 i2 i3 hks hcs hx
      go_wp2_with (first | ((with_reducible refine gate_builtin (b := .append) (xs := #[.tmp 15, .tmp 21]) rfl ?_); at_builtin; refine Kd.R_append Kd.string (w0 := wr) w.heap.size rfl (.tmp 15) (.tmp 21) 57 9 (.string ⟨#[]⟩) 16 rfl Try.underlying57 info9 rfl (by decide) (by decide) u6 ks x.f0 [.string x.f0] (fun _ => True) (fun _ => False) rfl rfl ?aP (fun _ hk => hk.elim) (fun _ _ => trivial) ?aO ?aB ?aS ?aL ?_; (case aP => exact rfl); (case aO => exact HK1.out); (case aB => exact Below.refl _ _); (case aS => exact HBW.out.size); (case aL => (have := HKL.out; omega)); intro v6 w6 hR _ hgr _; have HR6 := Lib.hid hR; have HG6 := Lib.hid hgr; have HC6 := Lib.hid (far_sc HK1.out HK2.out hgr); have i1 := HL.out w6 (Below.grown HBW.out hgr HBW.out.size (fun q e => ((Kd.R_bound HK1.out).1 q e).2.1)); have i11 := i1.1; have i12 := i1.2; clear hR hgr i1) | ((with_reducible refine gate_builtin (b := .append) (xs := #[.tmp 23, .tmp 29]) rfl ?_); at_builtin; refine Kd.R_append k38 (w0 := w6) w.heap.size rfl (.tmp 23) (.tmp 29) 136 38 zC 24 rfl Try.underlying136 info38 rfl (by decide) (by decide) u7 cs x.f1 [.string x.f1.f0, .bool x.f1.f1] (fun _ => True) (fun _ => False) rfl rfl ?aP (fun _ hk => hk.elim) (fun _ _ => trivial) ?aO ?aB ?aS ?aL ?_; (case aP => exact k38_mkM _ _ _ _); (case aO => exact HC6.out); (case aB => exact Below.refl _ _); (case aS => exact (by have := HBW.out.size; have := HG6.out.size; omega)); (case aL => (have := HKL.out; omega)); intro v7 w7 hR _ hgr _; have HR7 := Lib.hid hR; have HG7 := Lib.hid hgr; clear hR hgr))
      go_roundw
      case rel => exact ⟨j + 1, rfl, by omega, by omega, Below.grown (Below.grown HBW.out HG6.out HBW.out.size (fun q e => ((Kd.R_bound HK1.out).1 q e).2.1)) HG7.out (by have := HBW.out.size; have := HG6.out.size; omega) (fun q e => ((Kd.R_bound HC6.out).1 q e).2.1), by rw [show (j + 1).toNat = j.toNat + 1 by omega, ← HKS.out]; exact far_cs HR6.out HC6.out HG7.out, by rw [show (j + 1).toNat = j.toNat + 1 by omega, ← HCS.out]; exact HR7.out⟩
      case measure => simp [intOf]; omega
    · obtain rfl : j = l.length := by omega
      obtain ⟨ks, hks⟩ : ∃ ks, ks = l.map (·.f0) := ⟨_, rfl⟩
      obtain ⟨cs, hcs⟩ : ∃ cs, cs = l.map (·.f1) := ⟨_, rfl⟩
      have hkl : ks.length = l.length := by rw [hks, List.length_map]
      have hcl : cs.length = ks.length := by rw [hks, hcs, List.length_map, List.length_map]
      have e1 : (l.map (·.f0)).take ((l.length : Int)).toNat = ks := by rw [hks, Int.toNat_natCast]; exact List.take_of_length_le (by simp)
      have e2 : (l.map (·.f1)).take ((l.length : Int)).toNat = cs := by rw [hcs, Int.toNat_natCast]; exact List.take_of_length_le (by simp)
      rw [e1] at HK1
      rw [e2] at HK2
      obtain ⟨A1, c1, rfl⟩ := Kd.R_slice HK1.out
      obtain ⟨A2, c2, hv2⟩ := Kd.R_slice HK2.out
      rw [hcl] at hv2
      subst hv2
      have hc1 := R_cap HK1.out
      have hc2 := R_cap HK2.out
      have hF1 := Kd.F_mono (Kd.F_bound (Kd.R_F HK1.out)) (fun k hk => hk.2)
      have hF2 := Kd.F_mono (Kd.F_bound (Kd.R_F HK2.out)) (fun k hk => hk.2)
      have hrows : l.map toR = rowsOf ks cs := by rw [hks, hcs, rowsOf_map]
      have HRW := Lib.hid hrows
      have C85 := Lib.hid (Over_calls A1 A2 c1 c2 ks cs wr hcl (by have := HLB.out; omega) hc1 hc2 hF1 hF2)
      have HCL := Lib.hid hcl
      have HKL := Lib.hid hkl
      clear e1 e2 hks hcs hc1 hc2 hF1 hF2 hrows hcl hj hlt hj0 hkl
      by_cases hb : b < 64 ∨ 4096 < b
      · have HBF := Lib.hid (show buildF b (l.map toR) = (⟨#[]⟩, 1) by unfold buildF; rw [if_pos hb])
        have C37 := Lib.hid (fun sv W => BuildArg_calls b sv W hb)
        clear hb
        go_wp2_with (first | (go_at_call 85; refine C85.out.mono ?_; rintro e w2 ⟨b1, b2, B1, d1, B2, d2, rfl, h1, h2, hF1, hF2, hb1, hb2, hbw⟩; have HBW2 := Lib.hid hbw; clear h1 h2 hF1 hF2 hb1 hb2 hbw) | (go_at_call 37; refine (C37.out _ _).mono ?_; rintro e w3 ⟨rfl, hbw⟩; have HBW3 := Lib.hid hbw; clear hbw))
        go_ret2
        rw [HBF.out]
        exact ⟨rfl, HBW.out.trans ((HBW2.out.trans (HBW3.out.mono HBW2.out.size)).mono HBW.out.size)⟩
      · have HB := Lib.hid hb
        clear hb
        go_wp2_with (first | (go_at_call 85; refine C85.out.mono ?_; rintro e w2 ⟨b1, b2, B1, d1, B2, d2, rfl, h1, h2, hF1, hF2, hb1, hb2, hbw⟩; have HBW2 := Lib.hid hbw; have C37 := Lib.hid (Build_calls b b1 b2 ks cs HCL.out (by have := HKL.out; have := HLB.out; omega) B1 B2 d1 d2 w2 h1 (by rw [HCL.out]; exact h2) (Kd.F_mono hF1 (fun k hk => hk.2)) (by rw [HCL.out]; exact Kd.F_mono hF2 (fun k hk => hk.2)) (by have := HB.out; omega) (by have := HB.out; omega)); clear h1 h2 hF1 hF2 hb1 hb2 hbw) | (go_at_call 37; refine C37.out.mono ?_; rintro e w3 ⟨rfl, hbw⟩; have HBW3 := Lib.hid hbw; clear hbw))
        go_ret2
        rw [HRW.out]
        exact ⟨rfl, HBW.out.trans ((HBW2.out.trans (HBW3.out.mono HBW2.out.size)).mono HBW.out.size)⟩
end Go.Proofs.Ytfemjlhfgmbcmaa

namespace Go.Proofs.Ytfemjlhfgmbcmaa
open Go.RowKit Go.Shelf Go.Proofs.YtfemjlhfgmbcmaaW.PrintWords Go.Proofs.YtfemjlhfgmbcmaaW.PrintLast Go.Proofs.YtfemjlhfgmbcmaaW.PrintMore
open Go.Proofs.Ytfemjlhfgmbcmaa.PRunBuilds
set_option linter.unusedVariables false
set_option linter.unusedSimpArgs false
attribute [local go_sem ↓] Go.wp_at_zero Go.wp_at_succ

/-- Less, as texts are ordered. -/
def ltB (x y : ByteArray) : Bool := Op.bytesLess x.toList y.toList
theorem bl_irr : ∀ a : List UInt8, Op.bytesLess a a = false
  | [] => rfl
  | a :: x => by
    have h1 : decide (a < a) = false := decide_eq_false (UInt8.lt_irrefl a)
    show (decide (a < a) || (a == a && Op.bytesLess x x)) = false
    rw [h1, bl_irr x]; simp
theorem bl_trans : ∀ a b c : List UInt8, Op.bytesLess a b = true → Op.bytesLess b c = true → Op.bytesLess a c = true
  | _, _, [], _, h => by
    rename_i b _
    cases b <;> cases h
  | [], _, _ :: _, _, _ => rfl
  | _ :: _, [], _ :: _, h, _ => by cases h
  | a :: x, b :: y, c :: z, h1, h2 => by
    have e1 : (decide (a < b) || (a == b && Op.bytesLess x y)) = true := h1
    have e2 : (decide (b < c) || (b == c && Op.bytesLess y z)) = true := h2
    show (decide (a < c) || (a == c && Op.bytesLess x z)) = true
    simp only [Bool.or_eq_true, Bool.and_eq_true, decide_eq_true_eq, beq_iff_eq] at e1 e2 ⊢
    rcases e1 with e1 | ⟨e1, e3⟩ <;> rcases e2 with e2 | ⟨e2, e4⟩
    · exact .inl (UInt8.lt_trans e1 e2)
    · subst e2; exact .inl e1
    · subst e1; exact .inl e2
    · subst e1; subst e2; exact .inr ⟨rfl, bl_trans x y z e3 e4⟩
theorem bl_tot : ∀ a b : List UInt8, Op.bytesLess a b = false → a ≠ b → Op.bytesLess b a = true
  | [], [], _, h => absurd rfl h
  | [], _ :: _, h, _ => by cases h
  | _ :: _, [], _, _ => rfl
  | a :: x, b :: y, h, hn => by
    have e1 : (decide (a < b) || (a == b && Op.bytesLess x y)) = false := h
    show (decide (b < a) || (b == a && Op.bytesLess y x)) = true
    simp only [Bool.or_eq_false_iff, Bool.and_eq_false_iff, decide_eq_false_iff_not, beq_eq_false_iff_ne] at e1
    simp only [Bool.or_eq_true, Bool.and_eq_true, decide_eq_true_eq, beq_iff_eq]
    by_cases hab : a = b
    · subst hab
      refine .inr ⟨rfl, bl_tot x y (e1.2.resolve_left (fun h => h rfl)) (fun e => hn (by rw [e]))⟩
    · refine .inl ?_
      rcases UInt8.lt_or_lt_of_ne hab with h | h
      · exact absurd h e1.1
      · exact h
theorem ltB_irr (x : ByteArray) : ltB x x = false := bl_irr _
theorem ltB_trans {x y z : ByteArray} (h1 : ltB x y = true) (h2 : ltB y z = true) : ltB x z = true := bl_trans _ _ _ h1 h2
theorem leB_not {x y : ByteArray} (h : leB y x = false) : ltB x y = true := by
  unfold leB at h
  rw [Bool.or_eq_false_iff] at h
  exact bl_tot _ _ h.1 (by simpa using h.2)
theorem ltB_leB {x y : ByteArray} (h : ltB x y = true) : leB y x = false := by
  unfold leB
  rw [Bool.or_eq_false_iff]
  refine ⟨?_, ?_⟩
  · cases hq : Op.bytesLess y.toList x.toList with
    | false => rfl
    | true => have := bl_trans _ _ _ h hq; rw [bl_irr] at this; cases this
  · cases hq : (y.toList == x.toList) with
    | false => rfl
    | true =>
      have e : y.toList = x.toList := by simpa using hq
      unfold ltB at h
      rw [e, bl_irr] at h; cases h
/-- Where a key stands, or would stand. -/
def findI (rows : List RRow) (k : ByteArray) : Nat := (rows.takeWhile fun r => ltB r.k k).length
theorem findI_le (rows : List RRow) (k : ByteArray) : findI rows k ≤ rows.length := by
  unfold findI
  have := List.takeWhile_append_dropWhile (p := fun r : RRow => ltB r.k k) (l := rows)
  have h := congrArg List.length this
  rw [List.length_append] at h
  omega
theorem sorted_lt {rows : List RRow} (h : sortedB rows = true) : ∀ (d i : Nat), i + d + 1 < rows.length → ltB (rows.getD i rz).k (rows.getD (i + d + 1) rz).k = true := by
  intro d
  induction d with
  | zero => intro i hi; exact leB_not ((sortedB_iff rows).1 h i hi)
  | succ d ih =>
    intro i hi
    exact ltB_trans (ih i (by omega)) (leB_not ((sortedB_iff rows).1 h (i + d + 1) (by omega)))
theorem find_before : ∀ (rows : List RRow) (k : ByteArray) (j : Nat), j < findI rows k → ltB (rows.getD j rz).k k = true := by
  intro rows k
  induction rows with
  | nil => intro j h; simp [findI] at h
  | cons x r ih =>
    intro j h
    unfold findI at h
    rw [List.takeWhile_cons] at h
    by_cases hx : ltB x.k k = true
    · rw [if_pos hx] at h
      cases j with
      | zero => exact hx
      | succ j => exact ih j (by unfold findI; simpa using h)
    · rw [if_neg hx] at h; simp at h
theorem find_at : ∀ (rows : List RRow) (k : ByteArray), findI rows k < rows.length → ltB (rows.getD (findI rows k) rz).k k = false := by
  intro rows k
  induction rows with
  | nil => intro h; simp [findI] at h
  | cons x r ih =>
    intro h
    by_cases hx : ltB x.k k = true
    · have e : findI (x :: r) k = findI r k + 1 := by unfold findI; rw [List.takeWhile_cons, if_pos hx]; rfl
      rw [e] at h ⊢
      exact ih (by simpa using h)
    · have e : findI (x :: r) k = 0 := by unfold findI; rw [List.takeWhile_cons, if_neg hx]; rfl
      rw [e]
      simpa using hx
theorem find_mono {rows : List RRow} (hs : sortedB rows = true) (k : ByteArray) (j : Nat) (hj : j < rows.length) : ltB (rows.getD j rz).k k = !decide (findI rows k ≤ j) := by
  by_cases h : j < findI rows k
  · rw [find_before rows k j h, decide_eq_false (by omega)]; rfl
  · rw [decide_eq_true (by omega)]
    cases hq : ltB (rows.getD j rz).k k with
    | false => rfl
    | true =>
      have h1 := find_at rows k (by omega)
      by_cases e : j = findI rows k
      · rw [e] at hq; rw [hq] at h1; cases h1
      · have h2 := sorted_lt hs (j - findI rows k - 1) (findI rows k) (by omega)
        rw [show findI rows k + (j - findI rows k - 1) + 1 = j by omega] at h2
        rw [ltB_trans h2 hq] at h1; cases h1
def getF (rows : List RRow) (k : ByteArray) : RRow × Bool := if findI rows k < rows.length ∧ (rows.getD (findI rows k) rz).k = k then (rows.getD (findI rows k) rz, true) else (rz, false)
theorem run_geq (P : Program) (ty : TypeId) (x y : ByteArray) (W : World) : Sem.run P (binOp BinOp.geq ty (.string x) (.string y)) W = .ok (.bool (!ltB x y)) W := by
  rfl

set_option maxRecDepth 100000 in
theorem Search_calls (n F : Nat) (hF : F ≤ n) (hn : n ≤ 1048576) (caps : Array Value) (w : World)
    (hf : ∀ (W : World) (j : Int), Below w.heap.size w W → 0 ≤ j → j < n → Calls Try.prog 90 (#[.int .i64 j] ++ caps) W fun e w' => e = .returned (.bool (decide ((F : Int) ≤ j))) ∧ Below W.heap.size W w') :
    Calls Try.prog 89 #[.int .i64 n, .func (.func 90) #[] caps] w fun e w' => e = .returned (.int .i64 F) ∧ Below w.heap.size w w' := by
  have HF := Lib.hid hf
  clear hf
  go_enter Try.func89, Try.ntmps89
  go_wp2_with fail
  go_loopw [5, 6] (fun iv jv W => ∃ i j : Int, iv = .int .i64 i ∧ jv = .int .i64 j ∧ 0 ≤ i ∧ i ≤ F ∧ (F : Int) ≤ j ∧ j ≤ n ∧ Below w.heap.size w W) (fun iv jv _ => (intOf jv - intOf iv).toNat)
  case atStart => exact ⟨0, n, rfl, rfl, Int.le_refl _, by omega, by omega, Int.le_refl _, Below.refl _ _⟩
  case round =>
    obtain ⟨i, j, rfl, rfl, hi0, hi, hj, hjn, hbw⟩ := hrel
    have HBW := Lib.hid hbw
    clear hbw
    by_cases hlt : i < j
    · obtain ⟨h, hh⟩ : ∃ h : Int, h = (i + j) / 2 := ⟨_, rfl⟩
      have hh1 : i ≤ h := by omega
      have hh2 : h < j := by omega
      have HH := Lib.hid hh
      have C90 := Lib.hid (HF.out wr h HBW.out (by omega) (by omega))
      clear hh
      by_cases hfh : (F : Int) ≤ h
      · have hd : decide ((F : Int) ≤ h) = true := decide_eq_true hfh
        rw [hd] at C90
        go_wp2_with (first | (rw [← HH.out]; refine C90.out.mono ?_; rintro e w2 ⟨rfl, hb2⟩; have HB2 := Lib.hid hb2; clear hb2))
        go_roundw
        case rel => exact ⟨i, h, rfl, rfl, hi0, hi, hfh, by omega, HBW.out.trans (HB2.out.mono HBW.out.size)⟩
        case measure => simp [intOf]; omega
      · have hd : decide ((F : Int) ≤ h) = false := decide_eq_false hfh
        rw [hd] at C90
        go_wp2_with (first | (rw [← HH.out]; refine C90.out.mono ?_; rintro e w2 ⟨rfl, hb2⟩; have HB2 := Lib.hid hb2; clear hb2))
        go_roundw
        case rel => exact ⟨h + 1, j, rfl, rfl, by omega, by omega, hj, hjn, HBW.out.trans (HB2.out.mono HBW.out.size)⟩
        case measure => simp [intOf]; omega
    · obtain rfl : i = F := by omega
      obtain rfl : j = F := by omega
      go_wp2_with fail
      go_ret
      exact ⟨rfl, HBW.out⟩
set_option maxRecDepth 100000 in
theorem pred_calls (g bx kb : Nat) (A : Option Addr) (c : Nat) (q1 q2 : Value) (rows : List RRow) (k : ByteArray) (W : World) (hg : W.heap[g]? = some (.cells #[.slice A rows.length c, q1, q2] 121 (0, 0))) (hbx : W.heap[bx]? = some (.cells #[.pointer (some ⟨g, 0, none⟩)] 36 (0, 0))) (hkb : W.heap[kb]? = some (.cells #[.string k] 9 (0, 0)))
    (hr : Kd.C kR W A rows.length rows) (j : Int) (h0 : 0 ≤ j) (hj : j < rows.length) (hn : rows.length ≤ 1048576) :
    Calls Try.prog 90 #[.int .i64 j, .pointer (some ⟨bx, 0, none⟩), .pointer (some ⟨kb, 0, none⟩)] W fun e w' => e = .returned (.bool (!ltB (rows.getD j.toNat rz).k k)) ∧ Below W.heap.size W w' := by
  obtain ⟨ad, cv, hA, _, hK, hc⟩ := Kd.C_get hr rz j h0 hj
  obtain rfl := kR_open hK
  subst hA
  obtain ⟨x, hx⟩ : ∃ x, x = (rows.getD j.toNat rz).k := ⟨_, rfl⟩
  have hc0 : W.cell? (ad.add (j.toNat * 3)) = some (.string x) := by rw [hx]; exact hc 0 _ rfl
  have hS : W.drew.cell? ⟨bx, 0, none⟩ = some (.pointer (some ⟨g, 0, none⟩)) ∧ W.drew.cell? ⟨g, 0, none⟩ = some (.slice (some ad) rows.length c) ∧ W.drew.cell? (ad.add (j.toNat * 3)) = some (.string x) ∧ W.drew.cell? ⟨kb, 0, none⟩ = some (.string k) := ⟨(blk_cell hbx 0).trans rfl, (blk_cell hg 0).trans rfl, hc0, (blk_cell hkb 0).trans rfl⟩
  have hge : ∀ W, Sem.run Try.prog (binOp BinOp.geq 9 (.string x) (.string k)) W = .ok (.bool (!ltB x k)) W := fun W => run_geq _ _ _ _ _
  rw [← hx]
  clear hr hK hc hx hc0 hg hbx hkb
  go_enter Try.func90, Try.ntmps90
  go_wp2_with fail
  refine start_ (n := 11) (S := fun w' => w'.cell? ⟨bx, 0, none⟩ = some (.pointer (some ⟨g, 0, none⟩)) ∧ w'.cell? ⟨g, 0, none⟩ = some (.slice (some ad) rows.length c) ∧ w'.cell? (ad.add (j.toNat * 3)) = some (.string x) ∧ w'.cell? ⟨kb, 0, none⟩ = some (.string k)) (ds := []) #[false, false, false, false, false, false, false, false, false, false, false] (by kernel_rfl) rfl rfl (hS) (fun hHeld => ?_)
  refine take_ (i := 0) (N := some 5) (v := ?_) (a' := ?_) #[true, false, false, false, false, false, false, false, false, false, false] rfl rfl (by kernel_rfl) (fun _ _ _ h => h) (Or.inl ⟨by rfl, ?_⟩) hHeld ?_ ?_
  rotate_left
  · rintro w' ⟨s0, s1, s2, s3⟩
    go_simp
    with_reducible rfl
  rotate_left
  · simp only [Act.put, List.setIfInBounds_toArray, List.set_cons_zero, List.set_cons_succ, i64_w, i32_w]
    rfl
  refine pure_ (i := 1) (N := some 6) (v := ?_) (a' := ?_) #[true, true, false, false, false, false, false, false, false, false, false] rfl rfl (by kernel_rfl) (fun _ _ _ h => h) (Or.inl ⟨by rfl, ?_⟩) ?_ ?_
  rotate_left
  · intro w'
    go_simp
    with_reducible rfl
  rotate_left
  · simp only [Act.put, List.setIfInBounds_toArray, List.set_cons_zero, List.set_cons_succ, i64_w, i32_w]
    rfl
  refine pure_ (i := 2) (N := some 7) (v := ?_) (a' := ?_) #[true, true, true, false, false, false, false, false, false, false, false] rfl rfl (by kernel_rfl) (fun _ _ _ h => h) (Or.inl ⟨by rfl, ?_⟩) ?_ ?_
  rotate_left
  · intro w'
    go_simp
    with_reducible rfl
  rotate_left
  · simp only [Act.put, List.setIfInBounds_toArray, List.set_cons_zero, List.set_cons_succ, i64_w, i32_w]
    rfl
  refine take_ (i := 3) (N := some 8) (v := ?_) (a' := ?_) #[true, true, true, true, false, false, false, false, false, false, false] rfl rfl (by kernel_rfl) (fun _ _ _ h => h) (Or.inl ⟨by rfl, ?_⟩) hHeld ?_ ?_
  rotate_left
  · rintro w' ⟨s0, s1, s2, s3⟩
    go_simp
    with_reducible rfl
  rotate_left
  · simp only [Act.put, List.setIfInBounds_toArray, List.set_cons_zero, List.set_cons_succ, i64_w, i32_w]
    rfl
  refine pure_ (i := 4) (N := some 9) (v := ?_) (a' := ?_) #[true, true, true, true, true, false, false, false, false, false, false] rfl rfl (by kernel_rfl) (fun _ _ _ h => h) (Or.inl ⟨by rfl, ?_⟩) ?_ ?_
  rotate_left
  · intro w'
    go_simp
    with_reducible rfl
  rotate_left
  · simp only [Act.put, List.setIfInBounds_toArray, List.set_cons_zero, List.set_cons_succ, i64_w, i32_w]
    rfl
  refine pure_ (i := 5) (N := some 10) (v := ?_) (a' := ?_) #[true, true, true, true, true, true, false, false, false, false, false] rfl rfl (by kernel_rfl) (fun _ _ _ h => h) (Or.inl ⟨by rfl, ?_⟩) ?_ ?_
  rotate_left
  · intro w'
    go_simp
    with_reducible rfl
  rotate_left
  · simp only [Act.put, List.setIfInBounds_toArray, List.set_cons_zero, List.set_cons_succ, i64_w, i32_w]
    rfl
  refine pure_ (i := 6) (N := some 11) (v := ?_) (a' := ?_) #[true, true, true, true, true, true, true, false, false, false, false] rfl rfl (by kernel_rfl) (fun _ _ _ h => h) (Or.inl ⟨by rfl, ?_⟩) ?_ ?_
  rotate_left
  · intro w'
    go_simp
    with_reducible rfl
  rotate_left
  · simp only [Act.put, List.setIfInBounds_toArray, List.set_cons_zero, List.set_cons_succ, i64_w, i32_w]
    rfl
  refine take_ (i := 7) (N := some 12) (v := ?_) (a' := ?_) #[true, true, true, true, true, true, true, true, false, false, false] rfl rfl (by kernel_rfl) (fun _ _ _ h => h) (Or.inl ⟨by rfl, ?_⟩) hHeld ?_ ?_
  rotate_left
  · rintro w' ⟨s0, s1, s2, s3⟩
    go_simp
    with_reducible rfl
  rotate_left
  · simp only [Act.put, List.setIfInBounds_toArray, List.set_cons_zero, List.set_cons_succ, i64_w, i32_w]
    rfl
  refine take_ (i := 8) (N := some 13) (v := ?_) (a' := ?_) #[true, true, true, true, true, true, true, true, true, false, false] rfl rfl (by kernel_rfl) (fun _ _ _ h => h) (Or.inl ⟨by rfl, ?_⟩) hHeld ?_ ?_
  rotate_left
  · rintro w' ⟨s0, s1, s2, s3⟩
    go_simp
    with_reducible rfl
  rotate_left
  · simp only [Act.put, List.setIfInBounds_toArray, List.set_cons_zero, List.set_cons_succ, i64_w, i32_w]
    rfl
  refine pure_ (i := 9) (N := some 14) (v := ?_) (a' := ?_) #[true, true, true, true, true, true, true, true, true, true, false] rfl rfl (by kernel_rfl) (fun _ _ _ h => h) (Or.inl ⟨by rfl, ?_⟩) ?_ ?_
  rotate_left
  · intro w'
    go_simp
    with_reducible rfl
  rotate_left
  · simp only [Act.put, List.setIfInBounds_toArray, List.set_cons_zero, List.set_cons_succ, i64_w, i32_w]
    rfl
  refine pure_ (i := 10) (N := some 4) (v := ?_) (a' := ?_) #[true, true, true, true, true, true, true, true, true, true, true] rfl rfl (by kernel_rfl) (fun _ _ _ h => h) (Or.inl ⟨by rfl, ?_⟩) ?_ ?_
  rotate_left
  · intro w'
    go_simp
    with_reducible rfl
  rotate_left
  · simp only [Act.put, List.setIfInBounds_toArray, List.set_cons_zero, List.set_cons_succ, i64_w, i32_w]
    rfl
  refine done_ (by kernel_rfl) ?_
  clear hHeld hS
  go_wp2_with fail
  go_ret
  exact ⟨rfl, below_drew1 (Below.refl _ _)⟩
set_option maxRecDepth 100000 in
theorem find_calls (g base n bx : Nat) (rows : List RRow) (k : ByteArray) (W : World) (A : Option Addr) (c : Nat) (q1 q2 : Value) (hg : W.heap[g]? = some (.cells #[.slice A rows.length c, q1, q2] 121 (0, 0))) (hbx : W.heap[bx]? = some (.cells #[.pointer (some ⟨g, 0, none⟩)] 36 (0, 0)))
    (hr : Kd.C kR W A rows.length rows) (hn : rows.length ≤ 1048576) (hs : sortedB rows = true) :
    Calls Try.prog 88 #[.string k, .pointer (some ⟨bx, 0, none⟩)] W fun e w' => e = .returned (.int .i64 (findI rows k)) ∧ Below W.heap.size W w' := by
  have HSR := Lib.hid (fun (W2 : World) (hb : Below W.heap.size W W2) (kb : Nat) (hkb : W2.heap[kb]? = some (.cells #[.string k] 9 (0, 0))) => Search_calls rows.length (findI rows k) (findI_le rows k) hn #[.pointer (some ⟨bx, 0, none⟩), .pointer (some ⟨kb, 0, none⟩)] W2 (fun W3 j hb3 hj0 hj => by
    have h := pred_calls g bx kb A c q1 q2 rows k W3 (blk_below (blk_below hg hb) hb3) (blk_below (blk_below hbx hb) hb3) (blk_below hkb hb3) (Kd.C_below (Kd.C_below hr hb) hb3) j hj0 hj hn
    rw [find_mono hs k j.toNat (by omega), Bool.not_not, show decide (findI rows k ≤ j.toNat) = decide (((findI rows k : Nat) : Int) ≤ j) by congr 1; exact propext ⟨fun h => by omega, fun h => by omega⟩] at h
    exact h))
  have c0 : (W.alloc (.cells #[.string k] 9)).cell? ⟨bx, 0, none⟩ = some (.pointer (some ⟨g, 0, none⟩)) := (blk_cell (blk_alloc hbx _) 0).trans rfl
  have c1 : (W.alloc (.cells #[.string k] 9)).cell? ⟨g, 0, none⟩ = some (.slice A rows.length c) := (blk_cell (blk_alloc hg _) 0).trans rfl
  have HB := Lib.hid (below_alloc (Below.refl W.heap.size W) (.cells #[.string k] 9))
  have HK := Lib.hid (blk_new W (.cells #[.string k] 9))
  clear hg hbx hr hs
  go_enter Try.func88, Try.ntmps88
  go_wp2_with (first | (go_at_call 89; refine (HSR.out _ HB.out _ HK.out).mono ?_; rintro e w2 ⟨rfl, hb2⟩; have HB2 := Lib.hid hb2; clear hb2))
  go_ret
  exact ⟨rfl, HB.out.trans (HB2.out.mono HB.out.size)⟩
theorem Len_calls0 (w : World) : Calls Try.prog 39 #[.pointer none] w fun e w' => e = .returned (.int .i64 0) ∧ w = w' := by
  go_enter Try.func39, Try.ntmps39
  go_wp2
  go_ret
  exact ⟨rfl, rfl⟩
theorem Blocks_calls0 (w : World) : Calls Try.prog 40 #[.pointer none] w fun e w' => e = .returned (.int .i64 0) ∧ w = w' := by
  go_enter Try.func40, Try.ntmps40
  go_wp2
  go_ret
  exact ⟨rfl, rfl⟩
theorem RLen_calls {g base n : Nat} {rows : List RRow} {w : World} (h : RunIs w g base rows n) : Calls Try.prog 39 #[.pointer (some ⟨g, 0, none⟩)] w fun e w' => e = .returned (.int .i64 rows.length) ∧ w = w' := by
  obtain ⟨A, c, bx, h1, _⟩ := h
  have c1 := (blk_cell h1 0).trans rfl
  clear h1
  go_enter Try.func39, Try.ntmps39
  go_wp2_with fail
  go_ret
  exact ⟨rfl, rfl⟩
theorem RBlocks_calls {g base n : Nat} {rows : List RRow} {w : World} (h : RunIs w g base rows n) : Calls Try.prog 40 #[.pointer (some ⟨g, 0, none⟩)] w fun e w' => e = .returned (.int .i64 n) ∧ w = w' := by
  obtain ⟨A, c, bx, h1, _⟩ := h
  have c1 := (blk_cell h1 1).trans rfl
  clear h1
  go_enter Try.func40, Try.ntmps40
  go_wp2_with fail
  go_ret
  exact ⟨rfl, rfl⟩
def cellR (x : RRow) : Value := .agg #[.string x.s, .bool x.gone]
set_option maxRecDepth 100000 in
theorem Get_calls0 (k : ByteArray) (w : World) : Calls Try.prog 35 #[.pointer none, .string k] w fun e w' => e = .returned (.tuple #[cellR rz, .bool false]) ∧ Below w.heap.size w w' := by
  go_enter Try.func35, Try.ntmps35
  go_wp2_with (first | ((with_reducible refine gate_dst (N := 4) rfl ?_); refine box_event ?hg (N := 4) ?hd (cs := #[.string ⟨#[]⟩, .bool false]) (t := 38) ?hr ?_; (case hd => rfl); (case hg => rfl); (case hr => first | (go_simp; done) | (go_simp; rfl)); intro gb hgb w0 hz hb; have HGB := Lib.hid hgb; have HZ0 := Lib.hid hz; have HB0 := Lib.hid hb; clear hgb hz hb) | (refine wpList_store_row rfl rfl 38 (.tmp 4) (.tmp 9) rfl (g := gb) rfl rfl (HZ0.out) (by kernel_rfl) rfl (one2 rfl rfl) ?_; intro w5 hz hg; have HZ5 := Lib.hid hz; have HG5 := Lib.hid hg; clear hz hg))
  refine bodyPost_ret (v := .tuple #[.agg #[.string ⟨#[]⟩, .bool false], .bool false]) ?_ rfl ?_
  · have hz0 := (blk_cell HZ5.out 0).trans rfl
    have hz1 := (blk_cell HZ5.out 1).trans rfl
    simp [results, Try.f35, go_sem, hz0, hz1]
  · refine ⟨rfl, ?_⟩
    exact Below.grown HB0.out HG5.out HB0.out.size (fun q e => by injection e with e; have := HGB.out; omega)
set_option maxRecDepth 100000 in
set_option maxHeartbeats 2000000 in
theorem Get_calls {g base n : Nat} {rows : List RRow} (k : ByteArray) {w : World} (h : RunIs w g base rows n) (hn : rows.length ≤ 1048576) (hs : sortedB rows = true) : Calls Try.prog 35 #[.pointer (some ⟨g, 0, none⟩), .string k] w fun e w' => e = .returned (.tuple #[cellR (getF rows k).1, .bool (getF rows k).2]) ∧ Below w.heap.size w w' := by
  obtain ⟨A, c, bx, h1, h2, h3, h4, h5, h6⟩ := h
  have HG := Lib.hid (fun (W : World) (hb : Below w.heap.size w W) => blk_below h1 hb)
  have HC88 := Lib.hid (fun (W : World) (hb : Below w.heap.size w W) => find_calls g base n bx rows k W A c _ _ (blk_below h1 hb) (blk_below h2 hb) (Kd.C_below (Kd.F_now h3) hb) hn hs)
  obtain ⟨i, hi⟩ : ∃ i, i = findI rows k := ⟨_, rfl⟩
  have hile : i ≤ rows.length := by rw [hi]; exact findI_le rows k
  rw [← hi] at HC88
  have HI := Lib.hid hi
  have HF3 := Lib.hid (Kd.F_now h3)
  clear h1 h2 h3 h4 h5 h6 hi hs
  by_cases hlt : i < rows.length
  · obtain ⟨ad, cv, hA, _, hK, hc⟩ := Kd.C_get HF3.out rz (i : Int) (by omega) (by omega)
    rw [Int.toNat_natCast] at hK hc
    obtain rfl := kR_open hK
    subst hA
    obtain ⟨x, hx⟩ : ∃ x, x = rows.getD i rz := ⟨_, rfl⟩
    rw [← hx] at hc
    obtain ⟨j, hj⟩ : ∃ j : Int, (i : Int) = j := ⟨_, rfl⟩
    have hji : j.toNat = i := by omega
    have HCC := Lib.hid (fun (W : World) (hb : Below w.heap.size w W) => (⟨pw_cell_below hb (by rw [hji]; exact hc 0 _ rfl), pw_cell_below hb (by rw [hji, ← add_field _ _ 1 (by omega)]; exact hc 1 _ rfl), pw_cell_below hb (by rw [hji, show (ad.add (i * 3)).off + 1 + 1 = (ad.add (i * 3)).off + 2 from rfl, ← add_field _ _ 2 (by omega)]; exact hc 2 _ rfl)⟩ : W.cell? (ad.add (j.toNat * 3)) = some (.string x.k) ∧ W.cell? ⟨(ad.add (j.toNat * 3)).block, (ad.add (j.toNat * 3)).off + 1, none⟩ = some (.string x.s) ∧ W.cell? ⟨(ad.add (j.toNat * 3)).block, (ad.add (j.toNat * 3)).off + 1 + 1, none⟩ = some (.bool x.gone)))
    have HX := Lib.hid hx
    have hj0 : 0 ≤ j := by omega
    have hjl : j < (rows.length : Int) := by omega
    have hje : (j == (rows.length : Int)) = false := by simp; omega
    rw [hj] at HC88
    have HLT := Lib.hid hlt
    clear hK hc hx hji hj hile hlt
    by_cases hk : x.k = k
    · have HGF := Lib.hid (show getF rows k = (x, true) by unfold getF; rw [← HI.out, ← HX.out, if_pos ⟨HLT.out, hk⟩])
      have hkk : (x.k.toList == k.toList) = true := by rw [hk]; simp
      clear hk
      go_enter Try.func35, Try.ntmps35
      go_wp2_with (first | ((with_reducible refine gate_dst (N := 4) rfl ?_); refine box_event ?hg (N := 4) ?hd (cs := #[.string ⟨#[]⟩, .bool false]) (t := 38) ?hr ?_; (case hd => rfl); (case hg => rfl); (case hr => first | (go_simp; done) | (go_simp; rfl)); intro gb hgb w0 hz hb; have HGB := Lib.hid hgb; have HZ0 := Lib.hid hz; have HB0 := Lib.hid hb; have c02 := (blk_cell (HG.out _ hb) 2).trans rfl; clear hgb hz hb) | (refine (HC88.out _ HB0.out).mono ?_; rintro e w1 ⟨rfl, hb1⟩; have HB1 := Lib.hid hb1; have c10 := (blk_cell (blk_below (HG.out _ HB0.out) hb1) 0).trans rfl; have hcc := HCC.out _ (HB0.out.trans (hb1.mono HB0.out.size)); have c11 := hcc.1; have c12 := hcc.2.1; have c13 := hcc.2.2; clear hcc; clear hb1 c02) | (refine wpList_store_row rfl rfl 38 (.tmp 4) (.tmp 43) rfl (g := gb) rfl rfl (blk_below HZ0.out HB1.out) (by kernel_rfl) rfl (one2 rfl rfl) ?_; intro w5 hz hg; have HZ5 := Lib.hid hz; have HG5 := Lib.hid hg; clear hz hg))
      refine bodyPost_ret (v := .tuple #[.agg #[.string x.s, .bool x.gone], .bool true]) ?_ rfl ?_
      · have hz0 := (blk_cell HZ5.out 0).trans rfl
        have hz1 := (blk_cell HZ5.out 1).trans rfl
        simp [results, Try.f35, go_sem, hz0, hz1]
      · rw [HGF.out]
        refine ⟨rfl, ?_⟩
        exact Below.grown ((HB0.out.trans (HB1.out.mono HB0.out.size))) HG5.out (by have := HB0.out.size; have := HB1.out.size; omega) (fun q e => by injection e with e; have := HGB.out; omega)
    · have HGF := Lib.hid (show getF rows k = (rz, false) by unfold getF; rw [← HI.out, ← HX.out, if_neg (fun h => hk h.2)])
      have hkk := ba_list hk
      clear hk
      go_enter Try.func35, Try.ntmps35
      go_wp2_with (first | ((with_reducible refine gate_dst (N := 4) rfl ?_); refine box_event ?hg (N := 4) ?hd (cs := #[.string ⟨#[]⟩, .bool false]) (t := 38) ?hr ?_; (case hd => rfl); (case hg => rfl); (case hr => first | (go_simp; done) | (go_simp; rfl)); intro gb hgb w0 hz hb; have HGB := Lib.hid hgb; have HZ0 := Lib.hid hz; have HB0 := Lib.hid hb; have c02 := (blk_cell (HG.out _ hb) 2).trans rfl; clear hgb hz hb) | (refine (HC88.out _ HB0.out).mono ?_; rintro e w1 ⟨rfl, hb1⟩; have HB1 := Lib.hid hb1; have c10 := (blk_cell (blk_below (HG.out _ HB0.out) hb1) 0).trans rfl; have hcc := HCC.out _ (HB0.out.trans (hb1.mono HB0.out.size)); have c11 := hcc.1; have c12 := hcc.2.1; have c13 := hcc.2.2; clear hcc; clear hb1 c02) | (refine wpList_store_row rfl rfl 38 (.tmp 4) (.tmp 35) rfl (g := gb) rfl rfl (blk_below HZ0.out HB1.out) (by kernel_rfl) rfl (one2 rfl rfl) ?_; intro w5 hz hg; have HZ5 := Lib.hid hz; have HG5 := Lib.hid hg; clear hz hg))
      refine bodyPost_ret (v := .tuple #[.agg #[.string ⟨#[]⟩, .bool false], .bool false]) ?_ rfl ?_
      · have hz0 := (blk_cell HZ5.out 0).trans rfl
        have hz1 := (blk_cell HZ5.out 1).trans rfl
        simp [results, Try.f35, go_sem, hz0, hz1]
      · rw [HGF.out]
        refine ⟨rfl, ?_⟩
        exact Below.grown ((HB0.out.trans (HB1.out.mono HB0.out.size))) HG5.out (by have := HB0.out.size; have := HB1.out.size; omega) (fun q e => by injection e with e; have := HGB.out; omega)
  · obtain rfl : i = rows.length := by omega
    have HGF := Lib.hid (show getF rows k = (rz, false) by unfold getF; rw [← HI.out, if_neg (fun h => by have := h.1; omega)])
    have hje : ((rows.length : Int) == (rows.length : Int)) = true := by simp
    clear hile hlt
    go_enter Try.func35, Try.ntmps35
    go_wp2_with (first | ((with_reducible refine gate_dst (N := 4) rfl ?_); refine box_event ?hg (N := 4) ?hd (cs := #[.string ⟨#[]⟩, .bool false]) (t := 38) ?hr ?_; (case hd => rfl); (case hg => rfl); (case hr => first | (go_simp; done) | (go_simp; rfl)); intro gb hgb w0 hz hb; have HGB := Lib.hid hgb; have HZ0 := Lib.hid hz; have HB0 := Lib.hid hb; have c02 := (blk_cell (HG.out _ hb) 2).trans rfl; clear hgb hz hb) | (refine (HC88.out _ HB0.out).mono ?_; rintro e w1 ⟨rfl, hb1⟩; have HB1 := Lib.hid hb1; have c10 := (blk_cell (blk_below (HG.out _ HB0.out) hb1) 0).trans rfl; clear hb1 c02) | (refine wpList_store_row rfl rfl 38 (.tmp 4) (.tmp 35) rfl (g := gb) rfl rfl (blk_below HZ0.out HB1.out) (by kernel_rfl) rfl (one2 rfl rfl) ?_; intro w5 hz hg; have HZ5 := Lib.hid hz; have HG5 := Lib.hid hg; clear hz hg))
    refine bodyPost_ret (v := .tuple #[.agg #[.string ⟨#[]⟩, .bool false], .bool false]) ?_ rfl ?_
    · have hz0 := (blk_cell HZ5.out 0).trans rfl
      have hz1 := (blk_cell HZ5.out 1).trans rfl
      simp [results, Try.f35, go_sem, hz0, hz1]
    · rw [HGF.out]
      refine ⟨rfl, ?_⟩
      exact Below.grown ((HB0.out.trans (HB1.out.mono HB0.out.size))) HG5.out (by have := HB0.out.size; have := HB1.out.size; omega) (fun q e => by injection e with e; have := HGB.out; omega)
end Go.Proofs.Ytfemjlhfgmbcmaa

namespace Go.Proofs.Ytfemjlhfgmbcmaa
open Go.RowKit Go.Shelf Go.Proofs.YtfemjlhfgmbcmaaW.PrintWords Go.Proofs.YtfemjlhfgmbcmaaW.PrintLast Go.Proofs.YtfemjlhfgmbcmaaW.PrintMore
open Go.Proofs.Ytfemjlhfgmbcmaa.PRunBuilds
set_option linter.unusedVariables false
set_option linter.unusedSimpArgs false
attribute [local go_sem ↓] Go.wp_at_zero Go.wp_at_succ

theorem eqA38 (d : Nat) (w : World) (x0 y0 : ByteArray) (x1 y1 : Bool) :
    (Op.equalIn (d + 2) 38 (.agg #[.string x0, .bool x1]) (.agg #[.string y0, .bool y1])).run Try.prog w = .ok (x0.toList == y0.toList && (x1 == y1)) w := by
  refine eqA_of Try.underlying38 (by kernel_rfl) ?_
  refine eqf_cons (by rfl) (by go_simp; rfl) (by go_simp; rfl) (by go_simp) ?_
  exact eqf_last (by rfl) (by go_simp; rfl) (by go_simp; rfl) (by go_simp)
def cellEq (a : ByteArray) (b : Bool) (c : ByteArray) (d : Bool) : Bool := a.toList == c.toList && (b == d)
theorem eq38 (W : World) (a c : ByteArray) (b d : Bool) : Sem.run Try.prog (binOp BinOp.eql 38 (.agg #[.string a, .bool b]) (.agg #[.string c, .bool d])) W = .ok (.bool (cellEq a b c d)) W := by
  have h := eqA38 9998 W a c b d
  simp [binOp, Op.equal, Op.maxDepth, h, cellEq]
theorem neq38 (W : World) (a c : ByteArray) (b d : Bool) : Sem.run Try.prog (binOp BinOp.neq 38 (.agg #[.string a, .bool b]) (.agg #[.string c, .bool d])) W = .ok (.bool (!cellEq a b c d)) W := by
  have h := eqA38 9998 W a c b d
  simp [binOp, Op.equal, Op.maxDepth, h, cellEq]
theorem cellEq_iff (a c : ByteArray) (b d : Bool) : cellEq a b c d = true ↔ a = c ∧ b = d := by
  unfold cellEq
  rw [Bool.and_eq_true, beq_iff_eq, beq_iff_eq, Lib.toList_data, Lib.toList_data]
  exact ⟨fun h => ⟨ba_ext h.1, h.2⟩, fun h => ⟨by rw [h.1], h.2⟩⟩
/-- Few rows that may be are a run. -/
theorem buildF_few (b : Int) (l : List RRow) (hb0 : 64 ≤ b) (hb1 : b ≤ 4096) (h0 : (goB b l none ms0).1 = 0) (hl : l.length ≤ 10) : (buildF b l).2 = 0 := by
  obtain ⟨bl, cur, hm, hf⟩ := goB_mb hb1 l none ms0 [] [] MB.zero h0
  have hc := hm.close
  have hbd := hc.bounds
  obtain ⟨bl', hbl'⟩ : ∃ bl', bl' = (if cur = [] then bl else bl ++ [cur]) := ⟨_, rfl⟩
  rw [← hbl'] at hc hbd
  have hfl : bl'.flatten = l := by
    rw [hbl']
    by_cases hcu : cur = []
    · rw [if_pos hcu]; rw [hcu] at hf; simpa using hf
    · rw [if_neg hcu]; simpa using hf
  have hn := BlkOk.len hc.ok
  rw [hfl] at hn
  have hz := idxF_size (closeS (goB b l none ms0).2)
  have he := (encB_le (closeS (goB b l none ms0).2).many (by rw [hc.many]; omega)).1
  have hx : (idxF (closeS (goB b l none ms0).2)).2 = 0 := by
    unfold idxF putR
    rw [if_neg]
    rw [ByteArray.size_append]
    have h1 : (⟨(closeS (goB b l none ms0).2).idx.toArray⟩ : ByteArray).size = (closeS (goB b l none ms0).2).idx.length := rfl
    rw [h1]
    omega
  unfold buildF endB
  rw [if_neg (by omega), if_neg (by rw [h0]; exact fun h => h rfl)]
  dsimp only
  rw [if_neg]
  rintro (h | h)
  · exact h hx
  · omega
def x0 : RRow := ⟨⟨#[97]⟩, ⟨#[120]⟩, false⟩
theorem shown_build : ∃ s, buildF 64 [x0] = (s, 0) ∧ s.size ≤ maxLen ∧ openF s = some ([x0], 1) := by
  have h0 : (goB 64 [x0] none ms0).1 = 0 := by
    show (if rowE none x0 = 0 then goB 64 [] (some x0.k) (addS 64 ms0 x0) else (rowE none x0, ms0)).1 = 0
    rw [if_pos (by decide)]; rfl
  have h1 := buildF_few 64 [x0] (by decide) (by decide) h0 (by decide)
  obtain ⟨bl, hf, hok, hs, _, _, _, _⟩ := buildF_ok 64 [x0] h1
  have ho := openF_run bl hok
  have hn := BlkOk.len hok.ok
  rw [hf] at ho hn
  have hpos : bl ≠ [] := fun e => by rw [e] at hf; simp at hf
  have hl : bl.length = 1 := by have := List.length_pos_iff.2 hpos; simp at hn; omega
  rw [hl, ← hs] at ho
  refine ⟨(buildF 64 [x0]).1, Prod.ext rfl h1, ?_, ho⟩
  rw [hs]; have := hok.sz; unfold maxLen; omega
theorem findI_a : findI [x0] ⟨#[97]⟩ = 0 := by unfold findI; rw [List.takeWhile_cons, show ltB x0.k ⟨#[97]⟩ = false from ltB_irr _]; rfl
theorem findI_b : findI [x0] ⟨#[98]⟩ = 1 := by
  have h : ltB x0.k ⟨#[98]⟩ = true := by unfold ltB; rw [Lib.toList_data, Lib.toList_data]; decide
  unfold findI; rw [List.takeWhile_cons, h]; rfl
theorem getF_a : getF [x0] ⟨#[97]⟩ = (x0, true) := by unfold getF; rw [findI_a]; rfl
theorem getF_b : getF [x0] ⟨#[98]⟩ = (rz, false) := by unfold getF; rw [findI_b]; rfl
theorem Get_a {W : World} {g base n : Nat} (h : RunIs W g base [x0] n) : Calls Try.prog 35 #[.pointer (some ⟨g, 0, none⟩), .string ⟨#[97]⟩] W fun e w' => e = .returned (.tuple #[.agg #[.string ⟨#[120]⟩, .bool false], .bool true]) ∧ Below W.heap.size W w' := by
  have h1 := Get_calls ⟨#[97]⟩ h (by decide) (by decide)
  rw [getF_a] at h1
  exact h1
theorem Get_b {W : World} {g base n : Nat} (h : RunIs W g base [x0] n) : Calls Try.prog 35 #[.pointer (some ⟨g, 0, none⟩), .string ⟨#[98]⟩] W fun e w' => e = .returned (.tuple #[.agg #[.string ⟨#[]⟩, .bool false], .bool false]) ∧ Below W.heap.size W w' := by
  have h1 := Get_calls ⟨#[98]⟩ h (by decide) (by decide)
  rw [getF_b] at h1
  exact h1
theorem C_lit1 (w : World) (x : S54) : Kd.C k54 (w.alloc (.cells #[.string x.f0, .string x.f1.f0, .bool x.f1.f1] 54)) (some ⟨w.heap.size, 0, none⟩) 1 [x] := by
  have h : Kd.R k54 54 (w.alloc (.cells #[.string x.f0, .string x.f1.f0, .bool x.f1.f1] 54)) w.heap.size (fun _ => True) (.slice (some ⟨w.heap.size, 0, none⟩) 1 1) [x] :=
    ⟨fun _ _ => trivial, OwnRow.lit (ps := [x]) (inner := [.string x.f0, .string x.f1.f0, .bool x.f1.f1]) w w.heap.size (Reps.c3 (k54_mkM _ _ _ x) (Reps.none _ _)) (Nat.le_refl _) (by simp)⟩
  exact Kd.F_now (Kd.R_F h)
/-- A variable's own store leaves a run as it was. -/
theorem runIs_grown {w0 w w' : World} {g base n q : Nat} {rows : List RRow} (h0 : RunIs w0 g base rows n) (hb : Below w0.heap.size w0 w) (hg : w.grownBy w' (some q)) (hq : w0.heap.size ≤ q) : RunIs w' g base rows n := by
  obtain ⟨A, c, bx, h1, h2, h3, h4, h5, h6⟩ := h0
  have hb' : Below w0.heap.size w0 w' := Below.grown hb hg hb.size (fun k e => by injection e with e; omega)
  exact RunIs.below ⟨A, c, bx, h1, h2, h3, h4, h5, h6⟩ hb'

set_option maxRecDepth 100000 in
set_option maxHeartbeats 4000000 in
theorem shown7_calls (w : World) : Calls Try.prog 34 #[] w fun e w' => e = .returned (.bool true) ∧ Below w.heap.size w w' := by
  obtain ⟨s, hs, hsz, ho⟩ := shown_build
  have C41 := Lib.hid (show Calls Try.prog 41 #[.int .i64 64, .slice (some ⟨w.heap.size, 0, none⟩) 1 1] (w.alloc (.cells #[.string ⟨#[97]⟩, .string ⟨#[120]⟩, .bool false] 54)) fun e w' => e = .returned (.tuple #[.string s, .int .i64 0]) ∧ Below (w.alloc (.cells #[.string ⟨#[97]⟩, .string ⟨#[120]⟩, .bool false] 54)).heap.size (w.alloc (.cells #[.string ⟨#[97]⟩, .string ⟨#[120]⟩, .bool false] 54)) w' from by
    have h := built_calls 64 (some ⟨w.heap.size, 0, none⟩) 1 [⟨⟨#[97]⟩, ⟨⟨#[120]⟩, false⟩⟩] (w.alloc (.cells #[.string ⟨#[97]⟩, .string ⟨#[120]⟩, .bool false] 54)) (C_lit1 w ⟨⟨#[97]⟩, ⟨⟨#[120]⟩, false⟩⟩) (by decide)
    have e : ([⟨⟨#[97]⟩, ⟨⟨#[120]⟩, false⟩⟩] : List S54).map toR = [x0] := rfl
    rw [e, hs] at h
    exact h)
  have C42 := Lib.hid (fun W => show Calls Try.prog 42 #[.string s] W fun e w' => ∃ g, e = .returned (.tuple #[.pointer (some ⟨g, 0, none⟩), .int .i64 0]) ∧ Below W.heap.size W w' ∧ RunIs w' g W.heap.size [x0] 1 from by
    have h := Open_calls s W hsz
    rw [ho] at h
    exact h)
  have HB0 := Lib.hid (below_alloc (Below.refl w.heap.size w) (.cells #[.string ⟨#[97]⟩, .string ⟨#[120]⟩, .bool false] 54))
  have heq := fun W => eq38 W ⟨#[120]⟩ ⟨#[120]⟩ false false
  rw [show cellEq ⟨#[120]⟩ false ⟨#[120]⟩ false = true from (cellEq_iff _ _ _ _).2 ⟨rfl, rfl⟩] at heq
  have HFA : True := trivial
  clear hs hsz ho
  go_enter Try.func34, Try.ntmps34
  go_wp2_with (first | (go_at_call 41; refine C41.out.mono ?_; rintro e w1 ⟨rfl, hb1⟩; have HB1 := Lib.hid (HB0.out.trans (hb1.mono HB0.out.size)); clear hb1) | (go_at_call 42; refine (C42.out _).mono ?_; rintro e w2 ⟨g, rfl, hb2, hr2⟩; have HB2 := Lib.hid (HB1.out.trans (hb2.mono HB1.out.size)); have HR2 := Lib.hid hr2; clear hb2 hr2) | (go_at_call 35; clear HFA; refine (Get_a HR2.out).mono ?_; rintro e w3 ⟨rfl, hb3⟩; have HB3 := Lib.hid (HB2.out.trans (hb3.mono HB2.out.size)); have HR3 := Lib.hid (HR2.out.below hb3); clear hb3) | (go_at_call 35; refine (Get_b HR33.out).mono ?_; rintro e w4 ⟨rfl, hb4⟩; have HB4 := Lib.hid (HB33.out.trans (hb4.mono HB33.out.size)); have HR4 := Lib.hid (HR33.out.below hb4); have HZ4 := Lib.hid (blk_below HZ33.out hb4); clear c50 c51 hb4) | (go_at_call 39; refine (RLen_calls HR5.out).mono ?_; rintro e w' ⟨rfl, rfl⟩) | (go_at_call 40; refine (RBlocks_calls HR5.out).mono ?_; rintro e w' ⟨rfl, rfl⟩) | ((with_reducible refine gate_dst (N := 5) rfl ?_); refine box_event ?hg (N := 5) ?hd (cs := #[.string ⟨#[]⟩, .bool false]) (t := 38) ?hr ?_; (case hd => rfl); (case hg => rfl); (case hr => first | (go_simp; done) | (go_simp; rfl)); intro g5 hg w3b hz hb; have HG32 := Lib.hid hg; have HZ32 := Lib.hid hz; have HB32 := Lib.hid (HB3.out.trans (hb.mono HB3.out.size)); have HBX32 := Lib.hid hb; clear hg hz hb) | (refine wpList_store_row rfl rfl 38 (.tmp 5) (.tmp 26) rfl (g := g5) rfl rfl HZ32.out (by kernel_rfl) rfl (one2 rfl rfl) ?_; intro w33 hz hg; have HZ33 := Lib.hid hz; have hbb := Below.grown HB32.out hg HB32.out.size (fun q e => by injection e with e; have := HG32.out; have := HB3.out.size; omega); have HB33 := Lib.hid hbb; have HR33 := Lib.hid (runIs_grown HR3.out HBX32.out hg (by have := HG32.out; omega)); have c50 := (blk_cell hz 0).trans rfl; have c51 := (blk_cell hz 1).trans rfl; clear hz hg hbb) | ((with_reducible refine gate_dst (N := 7) rfl ?_); refine box_event ?hg (N := 7) ?hd (cs := #[.string ⟨#[]⟩, .bool false]) (t := 38) ?hr ?_; (case hd => rfl); (case hg => rfl); (case hr => first | (go_simp; done) | (go_simp; rfl)); intro g7 hg w4b hz hb; have HG42 := Lib.hid hg; have HZ42 := Lib.hid hz; have HB42 := Lib.hid (HB4.out.trans (hb.mono HB4.out.size)); have HBX42 := Lib.hid hb; have HZ42b := Lib.hid (blk_below HZ4.out hb); clear hg hz hb) | (refine wpList_store_row rfl rfl 38 (.tmp 7) (.tmp 31) rfl (g := g7) rfl rfl HZ42.out (by kernel_rfl) rfl (one2 rfl rfl) ?_; intro w5 hz hg; have HZ5 := Lib.hid hz; have hbb := Below.grown HB42.out hg HB42.out.size (fun q e => by injection e with e; have := HG42.out; have := HB4.out.size; omega); have HB5 := Lib.hid hbb; have HR5 := Lib.hid (runIs_grown HR4.out HBX42.out hg (by have := HG42.out; omega)); have hz5 := grown_blk hg HZ42b.out (by have := HG42.out; have := blk_lt HZ4.out; omega); have c50 := (blk_cell hz5 0).trans rfl; have c51 := (blk_cell hz5 1).trans rfl; clear hz hg hbb hz5))
  go_ret
  exact ⟨rfl, HB5.out⟩
end Go.Proofs.Ytfemjlhfgmbcmaa
