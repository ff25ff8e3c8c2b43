/- A strings.Builder at a place of a block: WriteString, Len, String. The walks after the shelf's own (Derived.Shelf.Strings.Builder1). -/
import Derived.Test.YtfemjlhfgmbcmaaJb
import Derived.Lib.Builder
import Derived.Lib.UnsafeStr
import Derived.Laws.Externs
import Derived.Lib.AppendStr
import Derived.Lib.Walk
import Derived.BigRegion
namespace Go.Proofs.Ytfemjlhfgmbcmaa
open Go.RowKit Go.Proofs.YtfemjlhfgmbcmaaW.PrintWords Go.Proofs.YtfemjlhfgmbcmaaW.PrintLast Go.Proofs.YtfemjlhfgmbcmaaW.PrintMore

/-- Of what was there, the blocks of S alone have turned. -/
structure Only2 (S : Nat → Prop) (w w' : World) : Prop where
  os : w'.os = w.os
  tape : w'.tape = w.tape
  output : w'.output = w.output
  size : w.heap.size ≤ w'.heap.size
  block : ∀ k, k < w.heap.size → ¬ S k → w'.heap[k]? = w.heap[k]?
namespace Only2
variable {S S' : Nat → Prop} {w w1 w2 : World}
theorem refl (S : Nat → Prop) (w : World) : Only2 S w w := ⟨rfl, rfl, rfl, Nat.le_refl _, fun _ _ _ => rfl⟩
theorem trans (h : Only2 S w w1) (k : Only2 S' w1 w2) (hs : ∀ k, S' k → S k ∨ w.heap.size ≤ k) : Only2 S w w2 :=
  ⟨k.os.trans h.os, k.tape.trans h.tape, k.output.trans h.output, Nat.le_trans h.size k.size, fun i hi hn => (k.block i (Nat.lt_of_lt_of_le hi h.size) (fun h2 => (hs i h2).elim hn (fun h3 => by omega))).trans (h.block i hi hn)⟩
theorem mono (h : Only2 S w w1) (hs : ∀ k, S k → S' k ∨ w.heap.size ≤ k) : Only2 S' w w1 := (refl S' w).trans h hs
theorem drew (h : Only2 S w w1) : Only2 S w w1.drew := ⟨h.os, h.tape, h.output, h.size, h.block⟩
theorem below (h : Only2 S w w1) (k : Below w1.heap.size w1 w2) : Only2 S w w2 := h.trans ⟨k.os, k.tape, k.output, k.size, fun i hi _ => k.block i hi⟩ (S' := fun _ => False) (fun _ hk => hk.elim)
theorem alloc (h : Only2 S w w1) (o : Obj) : Only2 S w (w1.alloc o) := h.below ((Below.refl _ _).alloc (Nat.le_refl _) o)
theorem set (h : Only2 S w w1) {p : Addr} (hp : S p.block ∨ w.heap.size ≤ p.block) (u : Value) : Only2 S w (w1.setCell p u) :=
  h.trans (S' := fun k => k = p.block) ⟨rfl, rfl, rfl, by simp [World.setCell], fun i _ hn => Below.heap_setCell w1 p u i hn⟩ (fun k hk => by rw [hk]; exact hp)
theorem grown {row : Option Nat} (h : Only2 S w w1) (hg : w1.grownBy w2 row) (hr : ∀ k, row = some k → S k ∨ w.heap.size ≤ k) : Only2 S w w2 :=
  h.trans (S' := fun k => row = some k) ⟨hg.os, hg.tape, hg.output, hg.size, fun i hi hn => hg.block i hi (fun e => hn e.symm)⟩ hr
theorem toBelow {B : Nat} {w0 : World} (h : Only2 S w w1) (hB : Below B w0 w) (hS : ∀ k, S k → B ≤ k) (hs : B ≤ w.heap.size) : Below B w0 w1 :=
  hB.trans ⟨h.os, h.tape, h.output, h.size, fun k hk => h.block k (by omega) (fun h2 => by have := hS k h2; omega)⟩
theorem blk {g : Nat} {o : Obj} (h : Only2 S w w1) (hb : w.heap[g]? = some o) (hne : ¬ S g) : w1.heap[g]? = some o := (h.block g (blk_lt hb) hne).trans hb
end Only2

section
variable {P : Program} (w : World)
/-- Appending a string's bytes to a row of one's own: and where the row lies then. -/
theorem append_str_at (base : Nat) (t u ty e : TypeId) (i : TypeInfo) (ht : P.underlying t = some (.slice e)) (hu : P.underlying u = some .string) (hi : P.info? e = some i) (hz : i.zero = some (.int .u8 0))
    (hsize : i.size = 1) (hby : i.bytes = 1) (v : Value) (n : Nat) (xs : List Value) (hown : w.ownsRow base e 1 v n xs) (s : ByteArray) (hbytes : n + s.size ≤ 140737488355328) (hbase : base ≤ w.heap.size) :
    ∃ v' w', (Builtin.append_ #[t, u] ty #[v, .string s]).run P w = .ok v' w' ∧ w'.ownsRow base e 1 v' (n + s.size) (xs ++ Lib.strCells s) ∧ w.grownBy w' v.ownBlock ∧
      (v'.ownBlock = v.ownBlock ∨ ∃ b, v'.ownBlock = some b ∧ w.heap.size ≤ b) := by
  have h63 : n + s.size ≤ maxLen := by simp only [maxLen]; omega
  obtain ⟨v', w', hr, h2, h3, h4⟩ := Lib.run_append_own_string (P := P) w base t u ty e i ht hu hi hz hsize hby v n xs hown s h63 hbytes hbase
  refine ⟨v', w', hr, h2, h3, ?_⟩
  have hxl : xs.length = n := by simpa using hown.1
  rcases hown.2 with ⟨rfl, rfl⟩ | ⟨g, cap, cur, rfl, hbg, hg, hnc, hcm, hcs, htake⟩
  · have hx : xs = [] := List.eq_nil_of_length_eq_zero hxl
    subst hx
    obtain ⟨v2, w2, hr2, k2, k3, _⟩ := Lib.run_append_own_string (P := P) w w.heap.size t u ty e i ht hu hi hz hsize hby (.slice none 0 0) 0 [] (World.ownsRow_nil w w.heap.size e 1) s h63 hbytes (Nat.le_refl _)
    rw [hr] at hr2
    injection hr2 with e1 e2
    subst e1 e2
    cases hv : v'.ownBlock with
    | none => exact .inl rfl
    | some b => exact .inr ⟨b, rfl, own_base k2 b hv⟩
  · by_cases hroom : n + s.size ≤ cap
    · have hcs' : cur.size = cap := by simpa using hcs
      have hr2 := Lib.run_append_room_string (P := P) w t u ty e i ht hu hi hsize g n cap cur hg s hroom (by omega)
      rw [hr] at hr2
      injection hr2 with e1 e2
      subst e1
      exact .inl rfl
    · have holds : ∀ j u, xs[j]? = some u → w.cell? ((⟨g, 0, none⟩ : Addr).add j) = some u := hown.cells (g := g) rfl
      have hr2 := Lib.run_append_grow_string (P := P) w t u ty e i (.int .u8 0) ht hu hi hz ⟨g, 0, none⟩ n cap xs (by rw [hsize]; simpa using hxl) holds s (by omega) (by simp only [maxLen] at h63; omega) (by rw [hby]; exact growslice_fits (by omega) (by omega))
      rw [hr] at hr2
      injection hr2 with e1 e2
      subst e1
      exact .inr ⟨w.heap.size, rfl, Nat.le_refl _⟩
theorem wpList_append_str_at {ops : Array Oper} {rest : List Oper} {o : Oper} {a : Act} {Q : Exit → Act → World → Prop} (hgd : o.guard = none) (sl x : Operand) (t u : TypeId)
    (ho : o.op = .call { callee := .builtin .append, args := #[sl, x], argTypes := #[t, u] })
    (base : Nat) (e : TypeId) (ht : P.underlying t = some (.slice e)) (hu : P.underlying u = some .string) (hinfo : (P.info? e).map (fun i => (i.zero, i.size, i.bytes)) = some (some (.int .u8 0), 1, 1))
    (v : Value) (n : Nat) (xs : List Value) (hs : a.eval sl = v) (hown : w.ownsRow base e 1 v n xs) (s : ByteArray) (hx : a.eval x = .string s)
    (hbytes : n + s.size ≤ 140737488355328) (hbase : base ≤ w.heap.size)
    (h : ∀ v' w', w'.ownsRow base e 1 v' (n + s.size) (xs ++ Lib.strCells s) → w.grownBy w' v.ownBlock → (v'.ownBlock = v.ownBlock ∨ ∃ b, v'.ownBlock = some b ∧ w.heap.size ≤ b) → wpList P ops Q rest (a.put o.dst v') w') : wpList P ops Q (o :: rest) a w := by
  obtain ⟨i, hi, hzz⟩ := Option.map_eq_some_iff.1 hinfo
  simp only [Prod.mk.injEq] at hzz
  obtain ⟨hz, hsize, hby⟩ := hzz
  refine wpList_plain hgd fun K hK => ?_
  obtain ⟨v', w', hr, h2, h3, h4⟩ := append_str_at (P := P) w base t u o.type e i ht hu hi hz hsize hby v n xs hown s hbytes hbase
  unfold Oper.wp execOp
  simp only [ho, resolve, invoke, builtin, Sem.run_bind, Sem.run_pure, Result.andThen_ok, List.map_toArray, List.map_cons, List.map_nil, hs, hx, hr]
  exact hK _ _ (h v' w' h2 h3 h4)
end

theorem infoB : (Try.prog.info? 5).map (fun i => (i.zero, i.size, i.bytes)) = some (some (.int .u8 0), 1, 1) := by kernel_rfl
theorem size128 : (Try.prog.info? 128).map (·.size) = some 2 := by kernel_rfl

theorem shape_of {w : World} {g : Nat} {T : TypeId} {cs : Array Value} (hb : w.heap[g]? = some (.cells cs T (0, 0))) : w.shape? g = some (T, cs.size) := by simp [World.shape?, hb]

set_option maxHeartbeats 1000000 in
set_option maxRecDepth 100000 in
theorem copy_used (g o : Nat) (w : World) (h0 : w.cell? ⟨g, o, none⟩ = some (.pointer (some ⟨g, o, none⟩))) :
    Calls Try.prog 106 #[.pointer (some ⟨g, o, none⟩)] w fun e w' => e = .returned (.tuple #[]) ∧ w' = w := by
  obtain ⟨j, hj, _⟩ := Option.map_eq_some_iff.1 size128
  go_enter Try.func106, Try.ntmps106
  go_wp2
  rw [Lib.run_neq_ptr_same w _ Try.underlying126 hj]
  go_wp2
  go_end0
  exact ⟨rfl, rfl⟩

set_option maxHeartbeats 1000000 in
set_option maxRecDepth 100000 in
theorem copy_fresh (g o : Nat) (T : TypeId) (cs : Array Value) (w : World) (hb : w.heap[g]? = some (.cells cs T (0, 0))) (h0 : cs[o]? = some (.pointer none)) (hlies : liesAt Try.prog Try.prog.depth T (cs.size / Try.prog.cellsOf T) o 128 1 = true) :
    Calls Try.prog 106 #[.pointer (some ⟨g, o, none⟩)] w fun e w' => e = .returned (.tuple #[]) ∧ w' = w.setCell ⟨g, o, none⟩ (.pointer (some ⟨g, o, none⟩)) := by
  obtain ⟨j, hj, hjs⟩ := Option.map_eq_some_iff.1 size128
  have c0 : w.cell? ⟨g, o, none⟩ = some (.pointer none) := by rw [blk_cell hb]; exact h0
  have hfz := blk_frozen hb o
  have hsh := shape_of hb
  have ho : o < cs.size := (Array.getElem?_eq_some_iff.1 h0).1
  have HL := Lib.hid hlies
  have HH := Lib.hid hb
  have HS := Lib.hid hsh
  clear hlies hb hsh h0
  go_enter Try.func106, Try.ntmps106
  go_wp2
  rw [Lib.run_to_unsafe w ⟨g, o, none⟩ Try.underlying126 Try.underlying165 hj (by rw [hjs]; decide) HS.out ho]
  simp only [Result.andThen]
  rw [Oper.upon_value]
  go_wp2
  rw [run_callFunc_extern Try.func107 (by kernel_rfl) (by kernel_rfl) (by kernel_rfl) (e := Extern.AbiNoEscape.same) (by kernel_rfl)]
  rw [Lib.run_noEscape]
  simp only [Result.andThen]
  rw [Oper.upon_value]
  go_wp2
  rw [Lib.run_from_unsafe w ⟨g, o, none⟩ Try.underlying165 Try.underlying126 hj HS.out HL.out]
  simp only [Result.andThen]
  rw [Oper.upon_value]
  go_wp2
  go_end0
  exact ⟨rfl, rfl⟩

theorem set_same {cs : Array Value} {o : Nat} {p : Value} (h : cs[o]? = some p) : cs.setIfInBounds o p = cs := by
  obtain ⟨h1, h2⟩ := Array.getElem?_eq_some_iff.1 h
  apply Array.ext
  · simp
  · intro i hi1 hi2
    rw [Array.getElem_setIfInBounds]
    split
    · rename_i e; subst e; exact h2.symm
    · rfl

theorem copy_any (g o : Nat) (T : TypeId) (cs : Array Value) (w : World) (hb : w.heap[g]? = some (.cells cs T (0, 0))) (h0 : cs[o]? = some (.pointer none) ∨ cs[o]? = some (.pointer (some ⟨g, o, none⟩))) (hlies : liesAt Try.prog Try.prog.depth T (cs.size / Try.prog.cellsOf T) o 128 1 = true) :
    Calls Try.prog 106 #[.pointer (some ⟨g, o, none⟩)] w fun e w' => e = .returned (.tuple #[]) ∧ w'.heap[g]? = some (.cells (cs.setIfInBounds o (.pointer (some ⟨g, o, none⟩))) T (0, 0)) ∧ Only2 (fun k => k = g) w w' := by
  rcases h0 with h0 | h0
  · refine (copy_fresh g o T cs w hb h0 hlies).mono ?_
    rintro e w' ⟨rfl, rfl⟩
    exact ⟨rfl, blk_set hb _ _, (Only2.refl (fun k => k = g) _).set (p := ⟨g, o, none⟩) (.inl rfl) _⟩
  · refine (copy_used g o w (by rw [blk_cell hb]; exact h0)).mono ?_
    rintro e w' ⟨rfl, rfl⟩
    exact ⟨rfl, by rw [set_same h0]; exact hb, Only2.refl _ _⟩

theorem own_only {S : Nat → Prop} {w w1 : World} {base n e : Nat} {v : Value} {xs : List Value} (h : w.ownsRow base e 1 v n xs) (ho : Only2 S w w1) (hS : ∀ k, v.ownBlock = some k → ¬ S k) : w1.ownsRow base e 1 v n xs :=
  own_move h (fun k hk => ho.block k (own_lt h k hk) (hS k hk))

theorem slice_of_own {w : World} {base n e : Nat} {v : Value} {xs : List Value} (h : w.ownsRow base e 1 v n xs) : ∃ ao cap, v = .slice ao n cap := by
  rcases h.2 with ⟨hv, h0⟩ | ⟨g, cap, cur, hv, _⟩
  · exact ⟨none, 0, by rw [hv, h0]⟩
  · exact ⟨_, _, hv⟩

set_option maxHeartbeats 2000000 in
set_option maxRecDepth 100000 in
theorem BWrite (g o : Nat) (T : TypeId) (cs : Array Value) (s : ByteArray) (base n : Nat) (v : Value) (xs : List Value) (w : World) (hb : w.heap[g]? = some (.cells cs T (0, 0))) (h0 : cs[o]? = some (.pointer none) ∨ cs[o]? = some (.pointer (some ⟨g, o, none⟩))) (hv : cs[o + 1]? = some v) (hT : 5 ≠ T)
    (hown : w.ownsRow base 5 1 v n xs) (hlen : n + s.size ≤ 140737488355328) (hbase : base ≤ w.heap.size) (hlies : liesAt Try.prog Try.prog.depth T (cs.size / Try.prog.cellsOf T) o 128 1 = true) :
    Calls Try.prog 91 #[.pointer (some ⟨g, o, none⟩), .string s] w fun e w' => e = .returned (.tuple #[.int .i64 s.size, .nilIface]) ∧ ∃ v', w'.heap[g]? = some (.cells ((cs.setIfInBounds o (.pointer (some ⟨g, o, none⟩))).setIfInBounds (o + 1) v') T (0, 0)) ∧
      w'.ownsRow base 5 1 v' (n + s.size) (xs ++ Lib.strCells s) ∧ (v'.ownBlock = v.ownBlock ∨ ∃ b, v'.ownBlock = some b ∧ w.heap.size ≤ b) ∧ Only2 (fun k => k = g ∨ v.ownBlock = some k) w w' := by
  have hne := own_ne hown hb hT
  have HC := Lib.hid (copy_any g o T cs w hb h0 hlies)
  have HO := Lib.hid hown
  have HN := Lib.hid hne
  have HV := Lib.hid hv
  clear hb h0 hlies hown hne hv
  go_enter Try.func91, Try.ntmps91
  go_wp2_with fail
  refine HC.out.mono ?_
  rintro e w1 ⟨rfl, hb1, ho1⟩
  have c1 : w1.cell? ⟨g, o + 1, none⟩ = some v := by
    rw [blk_cell hb1, Array.getElem?_setIfInBounds, if_neg (by omega)]; exact HV.out
  have HB1 := Lib.hid hb1
  have HO1 := Lib.hid ho1
  have HW := Lib.hid (own_only HO.out ho1 (fun k hk e => HN.out (by rw [← e, hk])))
  clear hb1 ho1
  go_wp2_with (at_builtin; refine wpList_append_str_at _ rfl _ _ 84 9 rfl base 5 Try.underlying84 Try.underlying9 infoB _ _ _ rfl HW.out s rfl ?c4 ?c5 ?_)
  case c4 => omega
  case c5 => have := HO1.out.size; omega
  intro v' w2 hown' hgrow hat
  have hb2 := blk_grown HB1.out hgrow HN.out
  have f1 : w2.frozen? ⟨g, o + 1, none⟩ = false := blk_frozen hb2 _
  have d1 : w2.cell? ⟨g, o + 1, none⟩ = some v := by
    rw [blk_cell hb2, Array.getElem?_setIfInBounds, if_neg (by omega)]; exact HV.out
  have HB2 := Lib.hid hb2
  have HG := Lib.hid hgrow
  have HA := Lib.hid hat
  have HW2 := Lib.hid hown'
  obtain ⟨ao, cap, rfl⟩ := slice_of_own hown'
  clear hb2 hgrow hat hown'
  go_wp2
  go_ret2
  refine ⟨rfl, _, blk_set HB2.out _ _, ?_, ?_, ?_⟩
  · exact own_move HW2.out (fun k hk => Below.heap_setCell _ _ _ _ (fun e => own_ne HW2.out HB2.out hT (by rw [hk]; exact congrArg some e.symm)))
  · rcases HA.out with h | ⟨b, h1, h2⟩
    · exact .inl h
    · exact .inr ⟨b, h1, by have := HO1.out.size; omega⟩
  · exact ((HO1.out.mono (fun k hk => .inl (.inl hk))).grown HG.out (fun k hk => .inl (.inr hk))).set (p := ⟨g, o + 1, none⟩) (.inl (.inl rfl)) _

set_option maxHeartbeats 1000000 in
set_option maxRecDepth 100000 in
theorem BLen (g o : Nat) (T : TypeId) (cs : Array Value) (base n : Nat) (v : Value) (xs : List Value) (w : World) (hb : w.heap[g]? = some (.cells cs T (0, 0))) (hv : cs[o + 1]? = some v) (hown : w.ownsRow base 5 1 v n xs) :
    Calls Try.prog 81 #[.pointer (some ⟨g, o, none⟩)] w fun e w' => e = .returned (.int .i64 n) ∧ w = w' := by
  obtain ⟨ao, cap, rfl⟩ := slice_of_own hown
  have c1 : w.cell? ⟨g, o + 1, none⟩ = some (.slice ao n cap) := by rw [blk_cell hb]; exact hv
  clear hown hb hv
  go_enter Try.func81, Try.ntmps81
  go_wp2
  go_ret
  exact ⟨rfl, rfl⟩

theorem only2_freeze {S : Nat → Prop} {w w1 : World} (h : Only2 S w w1) {p : Addr} (hp : S p.block) (n : Nat) : Only2 S w (w1.freeze p n) := by
  unfold World.freeze
  split
  · exact h
  · refine h.trans (S' := fun k => k = p.block) ⟨rfl, rfl, rfl, by simp, fun k hk hne => ?_⟩ (fun k hk => .inl (by rw [hk]; exact hp))
    simp only [Array.getElem?_modify]
    rw [if_neg (fun e => hne e.symm)]

theorem bsize5 : Try.prog.cellsOf 5 = 1 := by kernel_rfl

set_option maxHeartbeats 2000000 in
set_option maxRecDepth 100000 in
theorem BString_some (g o : Nat) (T : TypeId) (cs : Array Value) (base : Nat) (v : Value) (l : List UInt8) (w : World) (hb : w.heap[g]? = some (.cells cs T (0, 0))) (hv : cs[o + 1]? = some v)
    (hown : w.ownsRow base 5 1 v l.length (Lib.byteCells l)) (h0 : l ≠ []) :
    Calls Try.prog 80 #[.pointer (some ⟨g, o, none⟩)] w fun e w' => e = .returned (.string ⟨l.toArray⟩) ∧ Only2 (fun k => v.ownBlock = some k) w w' := by
  have hl0 : l.length ≠ 0 := by simpa using h0
  obtain ⟨r, cap, cur, rfl, hbg, hg, hnc, hcm, hcs, htake⟩ : ∃ g cap cur, v = .slice (some ⟨g, 0, none⟩) l.length cap ∧ base ≤ g ∧ w.heap[g]? = some (.cells cur 5 (0, 0)) ∧ l.length ≤ cap ∧ cap ≤ maxLen ∧ cur.size = cap * 1 ∧ cur.toList.take (l.length * 1) = Lib.byteCells l := by
    rcases hown.2 with ⟨_, hz⟩ | ⟨g, cap, cur, hv, r⟩
    · exact absurd hz hl0
    · exact ⟨g, cap, cur, hv, r⟩
  have c1 : w.drew.cell? ⟨g, o + 1, none⟩ = some (.slice (some ⟨r, 0, none⟩) l.length cap) := by
    have : w.drew.heap[g]? = some (.cells cs T (0, 0)) := hb
    rw [blk_cell this]; exact hv
  have hSD : (Builtin.unsafeSliceData_ #[84] 160 #[.slice (some ⟨r, 0, none⟩) l.length cap]).run Try.prog w.drew = .ok (.pointer (some ⟨r, 0, none⟩)) w.drew :=
    Lib.run_unsafeSliceData_row _ _ _ _ _ _ (by omega)
  have hUS : (Builtin.unsafeString_ #[160, 3] 9 #[.pointer (some ⟨r, 0, none⟩), .int .i64 l.length]).run Try.prog w.drew = .ok (.string ⟨l.toArray⟩) (w.drew.freeze ⟨r, 0, none⟩ l.length) := by
    refine Lib.run_unsafeString_row w.drew 160 3 9 5 Try.underlying160 bsize5 r cur.size (by have hg' : w.drew.heap[r]? = some (.cells cur 5 (0, 0)) := hg; simp [World.shape?, hg']) l h0 (by omega) (by unfold maxLen at hcm; omega) ?_
    intro j x hx
    have := hown.cells (g := r) rfl j (.int .u8 x.toNat) (by simp [Lib.byteCells, hx])
    exact this
  clear hown hb hv hg hcs htake
  go_enter Try.func80, Try.ntmps80
  go_wp2
  go_region
  all_goals (go_wp2; go_ret; exact ⟨rfl, only2_freeze (S := fun k => (Value.slice (some ⟨r, 0, none⟩) l.length cap).ownBlock = some k) (Only2.refl _ w).drew (p := ⟨r, 0, none⟩) rfl _⟩)

set_option maxHeartbeats 2000000 in
set_option maxRecDepth 100000 in
theorem BString_nil (g o : Nat) (T : TypeId) (cs : Array Value) (w : World) (hb : w.heap[g]? = some (.cells cs T (0, 0))) (hv : cs[o + 1]? = some (.slice none 0 0)) :
    Calls Try.prog 80 #[.pointer (some ⟨g, o, none⟩)] w fun e w' => e = .returned (.string ⟨#[]⟩) ∧ Only2 (fun _ => False) w w' := by
  have hUS := fun W q => Lib.run_unsafeString_none (P := Try.prog) W 160 3 9 q
  have c1 : w.drew.cell? ⟨g, o + 1, none⟩ = some (.slice none 0 0) := by
    have : w.drew.heap[g]? = some (.cells cs T (0, 0)) := hb
    rw [blk_cell this]; exact hv
  have hSD : (Builtin.unsafeSliceData_ #[84] 160 #[.slice none 0 0]).run Try.prog w.drew = .ok (.pointer none) w.drew := rfl
  clear hb hv
  go_enter Try.func80, Try.ntmps80
  go_wp2
  go_region
  all_goals (go_wp2; go_ret; exact ⟨rfl, (Only2.refl _ w).drew⟩)

set_option maxHeartbeats 2000000 in
set_option maxRecDepth 100000 in
theorem BString_noroom (g o r : Nat) (T : TypeId) (cs cur : Array Value) (w : World) (hb : w.heap[g]? = some (.cells cs T (0, 0))) (hv : cs[o + 1]? = some (.slice (some ⟨r, 0, none⟩) 0 0)) (hg : w.heap[r]? = some (.cells cur 5 (0, 0))) :
    Calls Try.prog 80 #[.pointer (some ⟨g, o, none⟩)] w fun e w' => e = .returned (.string ⟨#[]⟩) ∧ Only2 (fun _ => False) w w' := by
  have hUS := fun W q => Lib.run_unsafeString_none (P := Try.prog) W 160 3 9 q
  have hlt : g < w.heap.size := blk_lt hb
  have c1 : w.drew.cell? ⟨g, o + 1, none⟩ = some (.slice (some ⟨r, 0, none⟩) 0 0) := by
    have : w.drew.heap[g]? = some (.cells cs T (0, 0)) := hb
    rw [blk_cell this]; exact hv
  have hSD : (Builtin.unsafeSliceData_ #[84] 160 #[.slice (some ⟨r, 0, none⟩) 0 0]).run Try.prog w.drew = .ok (.pointer (some ⟨w.drew.heap.size, 0, none⟩)) (w.drew.alloc (.view ⟨r, 0, none⟩ 5)) :=
    Lib.run_unsafeSliceData_zero w.drew _ _ 5 Try.underlying160 ⟨r, 0, none⟩ 0 (5, cur.size) (by have hg' : w.drew.heap[r]? = some (.cells cur 5 (0, 0)) := hg; simp [World.shape?, hg'])
  have c2 : (w.drew.alloc (.view ⟨r, 0, none⟩ 5)).cell? ⟨g, o + 1, none⟩ = some (.slice (some ⟨r, 0, none⟩) 0 0) := by
    have : (w.drew.alloc (.view ⟨r, 0, none⟩ 5)).heap[g]? = _ := (Below.heap_alloc w.drew _ g hlt).trans hb
    rw [blk_cell this]; exact hv
  have c3 : (w.alloc (.view ⟨r, 0, none⟩ 5)).drew.cell? ⟨g, o + 1, none⟩ = some (.slice (some ⟨r, 0, none⟩) 0 0) := c2
  have c0 : w.cell? ⟨g, o + 1, none⟩ = some (.slice (some ⟨r, 0, none⟩) 0 0) := c1
  clear hb hv hg
  go_enter Try.func80, Try.ntmps80
  go_wp2
  go_region
  all_goals (go_wp2; go_ret; exact ⟨rfl, (Only2.refl _ w).drew.alloc _⟩)

set_option maxHeartbeats 2000000 in
set_option maxRecDepth 100000 in
theorem BString_room (g o r cap : Nat) (T : TypeId) (cs : Array Value) (w : World) (hc0 : cap ≠ 0) (hb : w.heap[g]? = some (.cells cs T (0, 0))) (hv : cs[o + 1]? = some (.slice (some ⟨r, 0, none⟩) 0 cap)) :
    Calls Try.prog 80 #[.pointer (some ⟨g, o, none⟩)] w fun e w' => e = .returned (.string ⟨#[]⟩) ∧ Only2 (fun _ => False) w w' := by
  have hUS := fun W q => Lib.run_unsafeString_none (P := Try.prog) W 160 3 9 q
  have c1 : w.drew.cell? ⟨g, o + 1, none⟩ = some (.slice (some ⟨r, 0, none⟩) 0 cap) := by
    have : w.drew.heap[g]? = some (.cells cs T (0, 0)) := hb
    rw [blk_cell this]; exact hv
  have hSD : (Builtin.unsafeSliceData_ #[84] 160 #[.slice (some ⟨r, 0, none⟩) 0 cap]).run Try.prog w.drew = .ok (.pointer (some ⟨r, 0, none⟩)) w.drew :=
    Lib.run_unsafeSliceData_row _ _ _ _ _ _ hc0
  clear hc0 hb hv
  go_enter Try.func80, Try.ntmps80
  go_wp2
  go_region
  all_goals (go_wp2; go_ret; exact ⟨rfl, (Only2.refl _ w).drew⟩)

/-- String: whatever the builder holds. -/
theorem BString (g o : Nat) (T : TypeId) (cs : Array Value) (base : Nat) (v : Value) (l : List UInt8) (w : World) (hb : w.heap[g]? = some (.cells cs T (0, 0))) (hv : cs[o + 1]? = some v)
    (hown : w.ownsRow base 5 1 v l.length (Lib.byteCells l)) :
    Calls Try.prog 80 #[.pointer (some ⟨g, o, none⟩)] w fun e w' => e = .returned (.string ⟨l.toArray⟩) ∧ Only2 (fun k => v.ownBlock = some k) w w' := by
  by_cases h0 : l = []
  · subst h0
    rcases hown.2 with ⟨rfl, _⟩ | ⟨r, cap, cur, rfl, hbg, hg, _, _, _, _⟩
    · exact (BString_nil g o T cs w hb hv).mono fun _ _ h => ⟨h.1, h.2.mono (fun _ hk => hk.elim)⟩
    · by_cases hc0 : cap = 0
      · subst hc0
        exact (BString_noroom g o r T cs cur w hb hv hg).mono fun _ _ h => ⟨h.1, h.2.mono (fun _ hk => hk.elim)⟩
      · exact (BString_room g o r cap T cs w hc0 hb hv).mono fun _ _ h => ⟨h.1, h.2.mono (fun _ hk => hk.elim)⟩
  · exact BString_some g o T cs base v l w hb hv hown h0
end Go.Proofs.Ytfemjlhfgmbcmaa
