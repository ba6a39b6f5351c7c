/- Walks: marks of places in memory; joining them. -/
import Derived.Test.YthgcefppeaopkaaDoorMatchP
import Derived.Test.YthgcefppeaopkaaDoorWorks
import Derived.Laws.Cover3
import Derived.BigQuiet
import Derived.Test.YthgcefppeaopkaaDoorRow
import Derived.Test.YthgcefppeaopkaaDoorReg
import Derived.Deep.OwnRows
import Derived.Test.YthgcefppeaopkaaDoorStandR
import Derived.Laws.CopyOwn
namespace Go.Proofs.YthgcefppeaopkaaDoor
open Go Go.RowKit Go.Sort
set_option maxRecDepth 100000
set_option linter.unusedSimpArgs false
set_option linter.unusedVariables false
set_option maxHeartbeats 4000000
/-- block g is a slice's, its first N cells are these marks -/
def MarksAt (N : Nat) (w : World) (g cap : Nat) (x : Mx.Pos) : Prop := ∃ cur : Array Value, Blk w g cur 4 ∧ cur.size = cap ∧ N ≤ cap ∧ cap ≤ maxLen ∧ ∀ j, j < N → cur[j]? = some (.bool (x j))
section
variable {N g cap : Nat} {w w' : World} {x y : Mx.Pos}
theorem MarksAt.lt (h : MarksAt N w g cap x) : g < w.heap.size := by obtain ⟨cur, hb, _⟩ := h; exact hb.lt
theorem MarksAt.cap_ (h : MarksAt N w g cap x) : N ≤ cap ∧ cap ≤ maxLen := by obtain ⟨cur, _, _, h1, h2, _⟩ := h; exact ⟨h1, h2⟩
theorem MarksAt.cell (h : MarksAt N w g cap x) {j : Nat} (hj : j < N) : w.cell? ⟨g, j, none⟩ = some (.bool (x j)) := by
  obtain ⟨cur, hb, _, _, _, hc⟩ := h
  rw [hb.cell j]; exact hc j hj
theorem MarksAt.frozen (h : MarksAt N w g cap x) (i : Nat) : w.frozen? ⟨g, i, none⟩ = false := by obtain ⟨cur, hb, _⟩ := h; exact hb.frozen i
theorem MarksAt.keep (h : MarksAt N w g cap x) (hb : w'.heap[g]? = w.heap[g]?) : MarksAt N w' g cap x := by
  obtain ⟨cur, h1, h2⟩ := h; exact ⟨cur, hb.trans h1, h2⟩
theorem MarksAt.call (h : MarksAt N w g cap x) (hb : Below w.heap.size w w') : MarksAt N w' g cap x := h.keep (hb.block g h.lt)
theorem MarksAt.put (h : MarksAt N w g cap x) {j : Nat} (hj : j < N) (b : Bool) (hy : ∀ i, i < N → y i = if i = j then b else x i) : MarksAt N (w.setCell ⟨g, j, none⟩ (.bool b)) g cap y := by
  obtain ⟨cur, h1, h2, h3, h4, h5⟩ := h
  refine ⟨_, h1.put j (.bool b), by simpa using h2, h3, h4, fun i hi => ?_⟩
  rw [hy i hi, Array.getElem?_setIfInBounds]
  by_cases hij : i = j
  · subst hij; rw [if_pos rfl, if_pos rfl, if_pos (by omega)]
  · rw [if_neg hij, if_neg (fun e => hij e.symm)]; exact h5 i hi
theorem MarksAt.congr (h : MarksAt N w g cap x) (hy : ∀ i, i < N → y i = x i) : MarksAt N w g cap y := by
  obtain ⟨cur, h1, h2, h3, h4, h5⟩ := h
  exact ⟨cur, h1, h2, h3, h4, fun i hi => by rw [h5 i hi, hy i hi]⟩
end
/-- what is joined so far -/
def jn (x y : Mx.Pos) (k : Nat) : Mx.Pos := fun j => if j < k then x j || y j else x j
def frs (x y : Mx.Pos) (k : Nat) : Bool := (List.range k).any (fun j => y j && !x j)
theorem frs_succ (x y : Mx.Pos) (k : Nat) : frs x y (k + 1) = (frs x y k || (y k && !x k)) := by unfold frs; rw [List.range_succ, List.any_append]; simp
theorem jn_succ (x y : Mx.Pos) (k i : Nat) : jn x y (k + 1) i = if i = k then x k || y k else jn x y k i := by
  unfold jn
  by_cases h : i = k
  · subst h; simp
  · rw [if_neg h]
    by_cases h2 : i < k
    · rw [if_pos h2, if_pos (by omega)]
    · rw [if_neg h2, if_neg (by omega)]
def JoinsAt (N g cap g2 : Nat) (x y : Mx.Pos) (w : World) (u v : Value) (wr : World) : Prop := ∃ k : Nat, v = .int .i64 (k : Nat) ∧ u = .bool (frs x y k) ∧ k ≤ N ∧ MarksAt N wr g cap (jn x y k) ∧ Only g w wr
theorem mjoin_any (N g cap g2 cap2 : Nat) (x y : Mx.Pos) (w : World) (hN : N ≤ 100000) (h1 : MarksAt N w g cap x) (h2 : MarksAt N w g2 cap2 y) (hne : g2 ≠ g) :
    Calls Tryd.prog 46 #[.slice (some ⟨g, 0, none⟩) N cap, .slice (some ⟨g2, 0, none⟩) N cap2] w (fun e w' => e = .returned (.bool (frs x y N)) ∧ MarksAt N w' g cap (Mx.orP x y) ∧ Only g w w') := by
  have H1 := hid_mk h1
  have H2 := hid_mk h2
  clear h1 h2
  go_enter Tryd.func46, Tryd.ntmps46
  go_wp2
  go_loopw [5, 9] (fun u v wr => JoinsAt N g cap g2 x y w u v wr) (fun _ v _ => N - (intOf v).toNat)
  case atStart => exact ⟨0, rfl, rfl, Nat.zero_le _, H1.out.congr (fun i _ => by simp [jn]), Only.refl _ _⟩
  case round =>
    obtain ⟨k, rfl, rfl, hk, hm, ho⟩ := hrel
    by_cases hlt : k < N
    · have cx : wr.cell? ⟨g, k, none⟩ = some (.bool (x k)) := by rw [hm.cell hlt]; simp [jn]
      have cy : wr.cell? ⟨g2, k, none⟩ = some (.bool (y k)) := (H2.out.keep (ho.block g2 H2.out.lt hne)).cell hlt
      have cf : ∀ i, wr.frozen? ⟨g, i, none⟩ = false := hm.frozen
      have HP : Hid (∀ b, b = (x k || y k) → MarksAt N (wr.setCell ⟨g, k, none⟩ (.bool b)) g cap (jn x y (k + 1))) := hid_mk (fun b hb => hm.put hlt b (fun i _ => by rw [jn_succ, hb]))
      have HF := hid_mk (frs_succ x y k)
      have HO := hid_mk ho
      clear hm ho
      generalize frs x y k = fr at *
      generalize x k = a at *
      generalize y k = b at *
      cases fr <;> cases a <;> cases b
      all_goals
        go_wp2
        go_roundw
        case rel => exact ⟨k + 1, by go_num, by rw [HF.out]; rfl, by omega, HP.out _ rfl, HO.out.set (Or.inl rfl) _⟩
        case measure => simp [intOf]; omega
    · obtain rfl : k = N := by omega
      have HM := hid_mk (hm.congr (y := Mx.orP x y) (fun i hi => by simp [jn, Mx.orP, hi]))
      have HO := hid_mk ho
      clear hm ho
      go_wp2
      exact bodyPost_ret (v := .bool (frs x y k)) (by simp [results, Tryd.results46, go_sem]) rfl ⟨rfl, HM.out, HO.out⟩
/-- new marks are handed back -/
def RetMk (N : Nat) (x : Mx.Pos) (w : World) (e : Ending) (w' : World) : Prop := ∃ (g cap : Nat), e = .returned (.slice (some ⟨g, 0, none⟩) N cap) ∧ MarksAt N w' g cap x ∧ w.heap.size ≤ g ∧ Below w.heap.size w w'
theorem bool_info : (Tryd.prog.info? 4).map (fun i => (i.zero, i.size, i.bytes)) = some (some (.bool false), 1, 1) := by kernel_rfl
theorem bool_parts : ∃ i, Tryd.prog.info? 4 = some i ∧ i.zero = some (.bool false) ∧ i.size = 1 ∧ i.bytes = 1 := by
  have h := bool_info
  cases hi : Tryd.prog.info? 4 with
  | none => rw [hi] at h; cases h
  | some i => rw [hi] at h; simp at h; exact ⟨i, rfl, h.1, h.2.1, h.2.2⟩
theorem marks_own {N : Nat} {w : World} {v : Value} {x : Mx.Pos} {base n : Nat} (hown : w.ownsRow base 4 1 v n ((List.range N).map fun j => Value.bool (x j))) (hn : n = N) (hv : v ≠ .slice none 0 0) :
    ∃ (g cap : Nat), v = .slice (some ⟨g, 0, none⟩) N cap ∧ MarksAt N w g cap x ∧ base ≤ g := by
  subst hn
  rcases hown.2 with ⟨h, _⟩ | ⟨g, cap, cur, rfl, hbg, hgl, hnc, hcm, hcs, hct⟩
  · exact absurd h hv
  · refine ⟨g, cap, rfl, ⟨cur, hgl, by omega, hnc, hcm, fun j hj => ?_⟩, hbg⟩
    have h1 : (cur.toList.take (n * 1))[j]? = some (.bool (x j)) := by rw [hct]; simp [hj]
    rw [List.getElem?_take, if_pos (by omega)] at h1
    simpa using h1
theorem mclone_any (N g cap : Nat) (x : Mx.Pos) (w : World) (hN : N ≤ 100000) (h1 : MarksAt N w g cap x) : Calls Tryd.prog 53 #[.slice (some ⟨g, 0, none⟩) N cap] w (RetMk N x w) := by
  obtain ⟨i0, hi, hz0, hz1, hz2⟩ := bool_parts
  have hown : (w.alloc (.cells #[] 4)).ownsRow w.heap.size 4 1 (.slice (some ⟨w.heap.size, 0, none⟩) 0 0) 0 [] := World.ownsRow_lit w #[] 0 (Nat.le_refl _) (Nat.zero_le _) rfl
  have hse : ∀ w, (binOp .eql 62 (.slice (some ⟨g, 0, none⟩) N cap) (.slice none 0 0)).run Tryd.prog w = .ok (.bool false) w := fun w => by
    simp only [binOp]
    simp [run_equal_slice_nil w 62 4 (some ⟨g, 0, none⟩) N cap Tryd.underlying62]
  have H1 := hid_mk (h1.call ((Below.refl w.heap.size w).alloc (Nat.le_refl _) (.cells #[] 4)))
  clear h1
  go_enter Tryd.func53, Tryd.ntmps53
  go_wp2_with (at_builtin; refine wpList_append_own_at _ rfl _ _ 62 rfl w.heap.size 4 i0 _ 1 1 Tryd.underlying62 hi hz0 hz1 hz2 rfl (by decide) _ _ [] rfl hown ⟨g, 0, none⟩ N cap ((List.range N).map fun j => Value.bool (x j)) rfl ?c1 ?c2 ?c3 ?c4 ?c5 ?c6 ?_)
  case c1 => simp
  case c2 =>
    intro j u hj
    rw [add_off, Nat.zero_add]
    have hjN : j < N := by have := (List.getElem?_eq_some_iff.1 hj).1; simpa using this
    rw [H1.out.cell hjN]
    simp [hjN] at hj
    rw [hj]
  case c3 => intro u hu; obtain ⟨j, _, rfl⟩ := List.mem_map.1 hu; rfl
  case c4 => unfold maxLen; omega
  case c5 => omega
  case c6 => simp
  intro v' w' hown' hg hnil hat
  have hv' : v' ≠ .slice none 0 0 := hnil
  obtain ⟨g', cap', rfl, hm, hbg⟩ := marks_own hown' rfl hv'
  have HB : Hid (Below w.heap.size w w') := hid_mk (((Below.refl w.heap.size w).alloc (Nat.le_refl _) (.cells #[] 4)).grown hg (by simp) (fun b hb => by cases hb; exact Nat.le_refl _))
  have HM := hid_mk hm
  clear hown hown' hg hnil hat hv' hm
  go_wp2
  exact bodyPost_ret (v := .slice (some ⟨g', 0, none⟩) N cap') (by simp [results, Tryd.results53, go_sem]) rfl ⟨g', cap', rfl, HM.out, hbg, HB.out⟩
def eqB (x y : Mx.Pos) (k : Nat) : Bool := (List.range k).all (fun j => x j == y j)
theorem eqB_succ (x y : Mx.Pos) (k : Nat) : eqB x y (k + 1) = (eqB x y k && (x k == y k)) := by unfold eqB; rw [List.range_succ, List.all_append]; simp
theorem eqB_no {x y : Mx.Pos} {k N : Nat} (hk : k < N) (h : (x k == y k) = false) : eqB x y N = false := by
  unfold eqB
  rw [List.all_eq_false]
  exact ⟨k, by simpa using hk, by simpa using h⟩
theorem eqB_iff {x y : Mx.Pos} {N : Nat} : eqB x y N = true ↔ ∀ j, j < N → x j = y j := by unfold eqB; simp
def EqsAt (N : Nat) (x y : Mx.Pos) (w : World) (v : Value) (wr : World) : Prop := ∃ k : Nat, v = .int .i64 (k : Nat) ∧ k ≤ N ∧ eqB x y k = true ∧ Below w.heap.size w wr
theorem mequal_any (N g cap g2 cap2 : Nat) (x y : Mx.Pos) (w : World) (hN : N ≤ 100000) (h1 : MarksAt N w g cap x) (h2 : MarksAt N w g2 cap2 y) : Calls Tryd.prog 54 #[.slice (some ⟨g, 0, none⟩) N cap, .slice (some ⟨g2, 0, none⟩) N cap2] w (RetG (.bool (eqB x y N)) w) := by
  have H1 := hid_mk h1
  have H2 := hid_mk h2
  clear h1 h2
  go_enter Tryd.func54, Tryd.ntmps54
  go_wp2
  go_loopw [13] (fun v wr => EqsAt N x y w v wr) (fun v _ => N - (intOf v).toNat)
  case atStart => exact ⟨0, rfl, Nat.zero_le _, rfl, Below.refl _ _⟩
  case round =>
    obtain ⟨k, rfl, hk, he, hb⟩ := hrel
    by_cases hlt : k < N
    · have cx : ∀ d os, (grow (redrawn wr d) os).cell? ⟨g, k, none⟩ = some (.bool (x k)) := fun d os => cell_regrown ((H1.out.call hb).cell hlt) d os
      have cy : ∀ d os, (grow (redrawn wr d) os).cell? ⟨g2, k, none⟩ = some (.bool (y k)) := fun d os => cell_regrown ((H2.out.call hb).cell hlt) d os
      have HNO := hid_mk (fun h => eqB_no (x := x) (y := y) hlt h)
      have HYS : Hid ((x k == y k) = true → eqB x y (k + 1) = true) := hid_mk (fun h => by rw [eqB_succ, he, h]; rfl)
      have HB := hid_mk hb
      clear he hb
      generalize x k = a at *
      generalize y k = b at *
      cases a <;> cases b
      case false.false =>
        have HT := hid_mk (HYS.out rfl)
        clear HNO HYS
        go_wp2
        (refine wp_region_quiet_below (by kernel_rfl) (by kernel_rfl) ?_; (repeat (first | go_big_quiet_step (fail) | quiet_step (fail))); refine wpQuiet_nil ?_; intro _ hw'; obtain ⟨⟨nq, osq⟩, hw''⟩ := hw'; subst hw'')
        have HBX := hid_mk (HB.out.trans ((below_regrown wr nq osq).mono HB.out.size))
        generalize grow (redrawn wr nq) osq = V at *
        go_wp2
        go_roundw
        case rel => exact ⟨k + 1, by go_num, by omega, HT.out, HBX.out⟩
        case measure => simp [intOf]; omega
      case true.true =>
        have HT := hid_mk (HYS.out rfl)
        clear HNO HYS
        go_wp2
        (refine wp_region_quiet_below (by kernel_rfl) (by kernel_rfl) ?_; (repeat (first | go_big_quiet_step (fail) | quiet_step (fail))); refine wpQuiet_nil ?_; intro _ hw'; obtain ⟨⟨nq, osq⟩, hw''⟩ := hw'; subst hw'')
        have HBX := hid_mk (HB.out.trans ((below_regrown wr nq osq).mono HB.out.size))
        generalize grow (redrawn wr nq) osq = V at *
        go_wp2
        go_roundw
        case rel => exact ⟨k + 1, by go_num, by omega, HT.out, HBX.out⟩
        case measure => simp [intOf]; omega
      all_goals
        have HE := hid_mk (HNO.out rfl)
        clear HNO HYS
        go_wp2
        (refine wp_region_quiet_below (by kernel_rfl) (by kernel_rfl) ?_; (repeat (first | go_big_quiet_step (fail) | quiet_step (fail))); refine wpQuiet_nil ?_; intro _ hw'; obtain ⟨⟨nq, osq⟩, hw''⟩ := hw'; subst hw'')
        have HBX := hid_mk (HB.out.trans ((below_regrown wr nq osq).mono HB.out.size))
        generalize grow (redrawn wr nq) osq = V at *
        go_wp2
        exact bodyPost_ret (v := .bool false) (by simp [results, Tryd.results54, go_sem]) rfl ⟨by rw [HE.out], HBX.out⟩
    · obtain rfl : k = N := by omega
      have HE := hid_mk he
      have HB := hid_mk hb
      clear he hb
      go_wp2
      exact bodyPost_ret (v := .bool true) (by simp [results, Tryd.results54, go_sem]) rfl ⟨by rw [HE.out], HB.out⟩
theorem marks_made (w : World) (N : Nat) (hN : N ≤ 100000) : MarksAt N (w.alloc (.cells (madeCells #[.bool false] N) 4)) w.heap.size N Mx.zr := by
  refine ⟨_, Blk.new w _ _, ?_, Nat.le_refl _, by unfold maxLen; omega, fun j hj => ?_⟩
  · simp [madeCells]
  · rw [← Array.getElem?_toList, toList_madeCells_one]
    simp [hj, Mx.zr]
/-- what a walk knows of a tree's contract -/
def MovedOk (s : ByteArray) (n : Node) : Prop := ∀ (A : Option Addr) (ca : Nat) (G : Nat → Prop) (g cap : Nat) (x : Mx.Pos) (w : World), (∀ b, G b → b < w.heap.size) → KidsAt G w A n.kids → MarksAt (s.size + 1) w g cap x → Mx.Sup (s.size + 1) x →
    Calls Tryd.prog 34 #[.agg #[.int .i64 (n.kind), .int .u64 ((n.set).a.toNat : Int), .int .u64 ((n.set).b.toNat : Int), .int .u64 ((n.set).c.toNat : Int), .int .u64 ((n.set).d.toNat : Int), .slice (A) (n.kids.length) (ca), .int .i64 (n.min), .int .i64 (n.max)], .string s, .slice (some ⟨g, 0, none⟩) ((s.size + 1 : Nat) : Nat) cap] w (RetMk (s.size + 1) (Mx.sp s.data.toList n x) w)
/-- what one byte has marked so far -/
def oneTo (S : CSet) (l : List UInt8) (x : Mx.Pos) (k : Nat) : Mx.Pos := fun j => if j ≤ k then Mx.one S l x j else false
theorem oneTo_succ (S : CSet) (l : List UInt8) (x : Mx.Pos) (k i : Nat) : oneTo S l x (k + 1) i = if i = k + 1 then Mx.one S l x (k + 1) else oneTo S l x k i := by
  unfold oneTo
  by_cases h : i = k + 1
  · subst h; simp
  · rw [if_neg h]
    by_cases h2 : i ≤ k
    · rw [if_pos h2, if_pos (by omega)]
    · rw [if_neg h2, if_neg (by omega)]
def OneAt (s : ByteArray) (g cap go : Nat) (S : CSet) (x : Mx.Pos) (n : Node) (A : Option Addr) (ca : Nat) (w : World) (v : Value) (wr : World) : Prop :=
  ∃ k : Nat, v = .int .i64 (k : Nat) ∧ k ≤ s.size ∧ MarksAt (s.size + 1) wr go (s.size + 1) (oneTo S s.data.toList x k) ∧ Below w.heap.size w wr ∧ Blk wr w.heap.size #[.int .i64 (n.kind), .int .u64 ((n.set).a.toNat : Int), .int .u64 ((n.set).b.toNat : Int), .int .u64 ((n.set).c.toNat : Int), .int .u64 ((n.set).d.toNat : Int), .slice (A) (n.kids.length) (ca), .int .i64 (n.min), .int .i64 (n.max)] 28
theorem moved_one (s : ByteArray) (hs : s.size ≤ 90000) (n : Node) (h1 : n.kind = 1) : MovedOk s n := by
  intro A ca G g cap x w hG hk hm hx
  have HE : Hid (Mx.sp s.data.toList n x = Mx.one n.set s.data.toList x) := hid_mk (by cases n; simp only [Node.kind] at h1; subst h1; unfold Mx.sp; simp [Node.set])
  rw [HE.out]
  obtain ⟨i0, hi, hz0, hz1, hz2⟩ := bool_parts
  have hz3 : i0.bytes * (s.size + 1) ≤ 281474976710656 := by rw [hz2]; omega
  have e1 : (n.kind == 1) = true := beq_iff_eq.2 h1
  have HM := hid_mk hm
  have hsz : (s.size + 1 : Nat) ≤ 9223372036854775807 := by omega
  clear hm hx hk hG HE h1
  go_enter Tryd.func34, Tryd.ntmps34
  go_wp2_with (refine wpList_make_row _ rfl _ _ 62 rfl 4 i0 (.bool false) Tryd.underlying62 hi hz0 hz1 rfl .i64 .i64 (s.size + 1) rfl rfl hz3 hsz ?_)
  go_loopw [22] (fun v wr => OneAt s g cap (w.heap.size + 1) n.set x n A ca w v wr) (fun v _ => s.size - (intOf v).toNat)
  case atStart =>
    have hm0 := marks_made (w.alloc (.cells #[.int .i64 (n.kind), .int .u64 ((n.set).a.toNat : Int), .int .u64 ((n.set).b.toNat : Int), .int .u64 ((n.set).c.toNat : Int), .int .u64 ((n.set).d.toNat : Int), .slice (A) (n.kids.length) (ca), .int .i64 (n.min), .int .i64 (n.max)] 28)) (s.size + 1) (by omega)
    simp only [World.size_alloc] at hm0 ⊢
    refine ⟨0, rfl, Nat.zero_le _, hm0.congr (fun i _ => ?_), ?_, Blk.alloc (Blk.new w _ _) _⟩
    · unfold oneTo
      by_cases h : i ≤ 0
      · obtain rfl : i = 0 := by omega
        rfl
      · rw [if_neg h]; rfl
    · exact (by repeat (first | with_reducible exact Below.refl _ _ | with_reducible assumption | with_reducible refine Below.setCell ?_ (by first | omega | (dsimp only; omega) | (simp <;> omega)) _ | with_reducible refine Below.alloc ?_ (by first | omega | (simp <;> omega)) _ | with_reducible refine below_drewN ?_ _ | with_reducible refine Below.drew ?_))
  case round =>
    obtain ⟨k, rfl, hk, hm, hb, hnb⟩ := hrel
    by_cases hlt : k < s.size
    · have hy0 : ∃ y, s[k]'hlt = y := ⟨_, rfl⟩
      obtain ⟨y, hy0⟩ := hy0
      have hyl : s.data.toList[k]? = some y := by rw [← hy0, List.getElem?_eq_getElem (by simpa using hlt)]; rfl
      have hon : Mx.one n.set s.data.toList x (k + 1) = (x k && n.set.has y.toNat) := by simp only [Mx.one, hyl]
      have cx : ∀ d os, (grow (redrawn wr d) os).cell? ⟨g, k, none⟩ = some (.bool (x k)) := fun d os => cell_regrown ((HM.out.call hb).cell (by omega)) d os
      (have q0 : ∀ d os, (grow (redrawn wr d) os).cell? ⟨w.heap.size, 1, none⟩ = some (.int .u64 ((n.set).a.toNat : Int)) := fun d os => cell_regrown (hnb.cell 1) d os; have q1 : ∀ d os, (grow (redrawn wr d) os).cell? ⟨w.heap.size, 2, none⟩ = some (.int .u64 ((n.set).b.toNat : Int)) := fun d os => cell_regrown (hnb.cell 2) d os; have q2 : ∀ d os, (grow (redrawn wr d) os).cell? ⟨w.heap.size, 3, none⟩ = some (.int .u64 ((n.set).c.toNat : Int)) := fun d os => cell_regrown (hnb.cell 3) d os; have q3 : ∀ d os, (grow (redrawn wr d) os).cell? ⟨w.heap.size, 4, none⟩ = some (.int .u64 ((n.set).d.toNat : Int)) := fun d os => cell_regrown (hnb.cell 4) d os)
      have HC : Hid (∀ d os, Calls Tryd.prog 45 #[.agg #[.int .u64 ((n.set).a.toNat : Int), .int .u64 ((n.set).b.toNat : Int), .int .u64 ((n.set).c.toNat : Int), .int .u64 ((n.set).d.toNat : Int)], .int .u8 (y.toNat : Int)] (grow (redrawn wr d) os) (fun e w'' => e = .returned (.bool (n.set.has y.toNat)) ∧ ∃ p : Regrown, w'' = grow (redrawn wr p.d) p.os)) := hid_mk (fun d os => retG_qq (has_any n.set y.toNat y.toNat_lt _))
      have hii : (k : Int) < (s.size : Int) := by omega
      have hkk : k < s.size + 1 := by omega
      have hi2 : (k : Int) < (s.size : Int) + 1 := by omega
      have hi3 : (k : Int) + 1 < (s.size : Int) + 1 := by omega
      have hk1 : k + 1 < s.size + 1 := by omega
      have hw1 : IntKind.i64.wrap ((k : Int) + 1) = (k : Int) + 1 := IntWalk.i64_in _ (by omega)
      have hw2 : (0 : Int) ≤ (k : Int) + 1 := by omega
      have hw3 : ((k : Int) + 1).toNat = k + 1 := by omega
      have HMR := hid_mk hm
      have HB := hid_mk hb
      have HNB := hid_mk hnb
      have HON := hid_mk hon
      clear hm hb hnb hon hyl
      generalize x k = a at *
      generalize n.set.has y.toNat = hs1 at *
      cases a <;> cases hs1
      all_goals
        go_wp2_with fail
        (refine region_below_tail 16 (by kernel_rfl) (by kernel_rfl) ?_; simp only [List.take_succ_cons, List.take_zero, List.drop_succ_cons, List.drop_zero]; (repeat (quiet_step ( (go_at_call 45; with_reducible exact HC.out _ _)))); refine wpQuiet_nil ?_; intro _ hw'; obtain ⟨⟨nq, osq⟩, hw''⟩ := hw'; subst hw'')
        have hbr := below_regrown wr nq osq
        have HB2 := hid_mk (HB.out.trans (hbr.mono HB.out.size))
        have HN2 := hid_mk (HNB.out.call hbr)
        have hm2 := HMR.out.call hbr
        clear hbr
        generalize grow (redrawn wr nq) osq = V at *
        have HP : Hid (∀ b, b = Mx.one n.set s.data.toList x (k + 1) → MarksAt (s.size + 1) (V.setCell ⟨w.heap.size + 1, k + 1, none⟩ (.bool b)) (w.heap.size + 1) (s.size + 1) (oneTo n.set s.data.toList x (k + 1))) := hid_mk (fun b hb => hm2.put hk1 b (fun i _ => by rw [oneTo_succ, hb]))
        have cv : V.cell? ⟨w.heap.size + 1, k + 1, none⟩ = some (.bool (oneTo n.set s.data.toList x k (k + 1))) := hm2.cell hk1
        have fv : ∀ i, V.frozen? ⟨w.heap.size + 1, i, none⟩ = false := hm2.frozen
        clear hm2 hw1 hw2 hw3
        go_wp2
        go_roundw
        case rel => exact ⟨k + 1, by go_num, by omega, HP.out _ (by rw [HON.out]; rfl), HB2.out.setCell (by simp) _, HN2.out.far (by simp) _⟩
        case measure => simp [intOf]; omega
    · obtain rfl : k = s.size := by omega
      have HR := hid_mk (hm.congr (y := Mx.one n.set s.data.toList x) (fun i hi => by unfold oneTo; rw [if_pos (by omega)]))
      have HB := hid_mk hb
      clear hm hb hnb
      go_wp2
      exact bodyPost_ret (v := .slice (some ⟨w.heap.size + 1, 0, none⟩) (s.size + 1 : Nat) (s.size + 1 : Nat)) (by simp [results, Tryd.results34, go_sem]) rfl ⟨_, _, rfl, HR.out, by omega, HB.out⟩
theorem spCat_append (s : List UInt8) : ∀ (a b : List Node) (x : Mx.Pos), Mx.spCat s (a ++ b) x = Mx.spCat s b (Mx.spCat s a x)
  | [], b, x => by simp [Mx.spCat]
  | n :: r, b, x => by
    rw [List.cons_append]
    show Mx.spCat s (r ++ b) (Mx.sp s n x) = Mx.spCat s b (Mx.spCat s r (Mx.sp s n x))
    exact spCat_append s r b _
theorem spCat_take {s : List UInt8} {kids : List Node} {k : Nat} (h : k < kids.length) (x : Mx.Pos) : Mx.spCat s (kids.take (k + 1)) x = Mx.sp s kids[k] (Mx.spCat s (kids.take k) x) := by
  rw [List.take_succ_eq_append_getElem h, spCat_append]
  simp [Mx.spCat]
theorem spAlt_append (s : List UInt8) : ∀ (a b : List Node) (x : Mx.Pos), Mx.spAlt s (a ++ b) x = Mx.orP (Mx.spAlt s a x) (Mx.spAlt s b x)
  | [], b, x => by simp [Mx.spAlt, Mx.none_or]
  | n :: r, b, x => by
    rw [List.cons_append]
    show Mx.orP (Mx.sp s n x) (Mx.spAlt s (r ++ b) x) = Mx.orP (Mx.orP (Mx.sp s n x) (Mx.spAlt s r x)) (Mx.spAlt s b x)
    rw [spAlt_append s r b x, Mx.or_assoc]
theorem spAlt_take {s : List UInt8} {kids : List Node} {k : Nat} (h : k < kids.length) (x : Mx.Pos) : Mx.spAlt s (kids.take (k + 1)) x = Mx.orP (Mx.spAlt s (kids.take k) x) (Mx.sp s kids[k] x) := by
  rw [List.take_succ_eq_append_getElem h, spAlt_append]
  simp [Mx.spAlt, Mx.or_none]
def AltMAt (s : ByteArray) (go : Nat) (x : Mx.Pos) (n : Node) (w : World) (v : Value) (wr : World) : Prop :=
  ∃ k : Nat, v = .int .i64 (k : Nat) ∧ k ≤ n.kids.length ∧ MarksAt (s.size + 1) wr go (s.size + 1) (Mx.spAlt s.data.toList (n.kids.take k) x) ∧ Below w.heap.size w wr
theorem moved_alt (s : ByteArray) (hs : s.size ≤ 90000) (n : Node) (h1 : n.kind = 3) (hal : n.kids.length ≤ 2 ^ 63 - 1) (ih : ∀ c ∈ n.kids, MovedOk s c) : MovedOk s n := by
  intro A ca G g cap x w hG hk hm hx
  have HE : Hid (Mx.sp s.data.toList n x = Mx.spAlt s.data.toList n.kids x) := hid_mk (by cases n; simp only [Node.kind] at h1; subst h1; unfold Mx.sp; simp [Node.kids])
  rw [HE.out]
  obtain ⟨i0, hi, hz0, hz1, hz2⟩ := bool_parts
  have hz3 : i0.bytes * (s.size + 1) ≤ 281474976710656 := by rw [hz2]; omega
  have e1 : (n.kind == 1) = false := by rw [h1]; rfl
  have e2 : (n.kind == 2) = false := by rw [h1]; rfl
  have e3 : (n.kind == 3) = true := by rw [h1]; rfl
  have HM := hid_mk hm
  have HX := hid_mk hx
  have HG := hid_mk hG
  have HKA := hid_mk hk
  have HIH := hid_mk ih
  have hsz : (s.size + 1 : Nat) ≤ 9223372036854775807 := by omega
  clear hm hx hk hG HE h1 ih
  go_enter Tryd.func34, Tryd.ntmps34
  go_wp2_with (refine wpList_make_row _ rfl _ _ 62 rfl 4 i0 (.bool false) Tryd.underlying62 hi hz0 hz1 rfl .i64 .i64 (s.size + 1) rfl rfl hz3 hsz ?_)
  go_loopw [64] (fun v wr => AltMAt s (w.heap.size + 1) x n w v wr) (fun v _ => n.kids.length - (intOf v).toNat)
  case atStart =>
    have hm0 := marks_made (w.alloc (.cells #[.int .i64 (n.kind), .int .u64 ((n.set).a.toNat : Int), .int .u64 ((n.set).b.toNat : Int), .int .u64 ((n.set).c.toNat : Int), .int .u64 ((n.set).d.toNat : Int), .slice (A) (n.kids.length) (ca), .int .i64 (n.min), .int .i64 (n.max)] 28)) (s.size + 1) (by omega)
    simp only [World.size_alloc] at hm0 ⊢
    exact ⟨0, rfl, Nat.zero_le _, hm0, (by repeat (first | with_reducible exact Below.refl _ _ | with_reducible assumption | with_reducible refine Below.setCell ?_ (by first | omega | (dsimp only; omega) | (simp <;> omega)) _ | with_reducible refine Below.alloc ?_ (by first | omega | (simp <;> omega)) _ | with_reducible refine below_drewN ?_ _ | with_reducible refine Below.drew ?_))⟩
  case round =>
    obtain ⟨k, rfl, hkl, hm, hb⟩ := hrel
    by_cases hlt : k < n.kids.length
    · have hka := kids_two HKA.out hb HG.out
      obtain ⟨ba, oa, A', ca', hAE, hga, hsa', hka', hca⟩ := kidsAt_at hka hlt
      subst hAE
      have HST := hid_mk (spAlt_take (s := s.data.toList) hlt x)
      have HIX := hid_mk (HIH.out n.kids[k] (List.getElem_mem hlt))
      generalize n.kids[k] = c at *
      (have z0 : wr.cell? ⟨ba, oa + k * 8, none⟩ = some (.int .i64 (c.kind)) := hca 0 _ rfl; have z1 : wr.cell? ⟨ba, oa + k * 8 + 1, none⟩ = some (.int .u64 ((c.set).a.toNat : Int)) := hca 1 _ rfl; have z2 : wr.cell? ⟨ba, oa + k * 8 + 2, none⟩ = some (.int .u64 ((c.set).b.toNat : Int)) := hca 2 _ rfl; have z3 : wr.cell? ⟨ba, oa + k * 8 + 3, none⟩ = some (.int .u64 ((c.set).c.toNat : Int)) := hca 3 _ rfl; have z4 : wr.cell? ⟨ba, oa + k * 8 + 4, none⟩ = some (.int .u64 ((c.set).d.toNat : Int)) := hca 4 _ rfl; have z5 : wr.cell? ⟨ba, oa + k * 8 + 5, none⟩ = some (.slice (A') (c.kids.length) (ca')) := hca 5 _ rfl; have z6 : wr.cell? ⟨ba, oa + k * 8 + 6, none⟩ = some (.int .i64 (c.min)) := hca 6 _ rfl; have z7 : wr.cell? ⟨ba, oa + k * 8 + 7, none⟩ = some (.int .i64 (c.max)) := hca 7 _ rfl)
      have hsz1 := hb.size
      have hgo := hm.lt
      have hgl := HM.out.lt
      have hb1 : Below wr.heap.size wr (wr.alloc (.cells #[.int .i64 (c.kind), .int .u64 ((c.set).a.toNat : Int), .int .u64 ((c.set).b.toNat : Int), .int .u64 ((c.set).c.toNat : Int), .int .u64 ((c.set).d.toNat : Int), .slice (A') (c.kids.length) (ca'), .int .i64 (c.min), .int .i64 (c.max)] 28)) := (Below.refl _ _).alloc (Nat.le_refl _) _
      have HCX := hide (HIX.out A' ca' G g cap x (wr.alloc (.cells #[.int .i64 (c.kind), .int .u64 ((c.set).a.toNat : Int), .int .u64 ((c.set).b.toNat : Int), .int .u64 ((c.set).c.toNat : Int), .int .u64 ((c.set).d.toNat : Int), .slice (A') (c.kids.length) (ca'), .int .i64 (c.min), .int .i64 (c.max)] 28)) (fun b hb => by have := HG.out b hb; have := hsz1; first | omega | (simp; omega)) (kidsAt_keep (below_keeps hb1 (fun b hb => by have := HG.out b hb; omega)) (fun b h => h) hka') ((HM.out.call hb).call hb1) HX.out)
      have HMW := hid_mk (hm.call hb1)
      have HBW := hid_mk (hb.trans (hb1.mono hsz1))
      clear hb hka hka' hca HIX hm hb1
      go_wp2_with fail
      refine (unhide HCX).mono ?_
      rintro e w3 ⟨g3, cap3, rfl, hm3, hg3, hb3⟩
      have hne : g3 ≠ w.heap.size + 1 := by simp at hg3; omega
      have HB3 := hid_mk (HBW.out.trans (hb3.mono HBW.out.size))
      have hgo3 := (HMW.out.call hb3)
      have hl3 := hgo3.lt
      have hlw := HB3.out.size
      have HJ := hide (mjoin_any (s.size + 1) (w.heap.size + 1) (s.size + 1) g3 cap3 _ _ w3 (by omega) hgo3 hm3 hne)
      clear hb3 hm3 hgo3 hg3
      go_wp2_with fail
      refine (unhide HJ).mono ?_
      rintro e w4 ⟨rfl, hm4, ho4⟩
      have HX4 : Hid (AltMAt s (w.heap.size + 1) x n w (.int .i64 ((k + 1 : Nat) : Int)) w4) := hid_mk ⟨k + 1, rfl, by omega, by rw [HST.out]; exact hm4, HB3.out.trans (ho4.below (by omega) (by omega))⟩
      clear hm4 ho4
      go_wp2
      go_roundw
      case rel => exact HX4.out
      case measure => simp [intOf]; omega
    · obtain rfl : k = n.kids.length := by omega
      rw [List.take_length] at hm
      have HMW := hid_mk hm
      have HB := hid_mk hb
      clear hm hb
      go_wp2
      exact bodyPost_ret (v := .slice (some ⟨w.heap.size + 1, 0, none⟩) (s.size + 1 : Nat) (s.size + 1 : Nat)) (by simp [results, Tryd.results34, go_sem]) rfl ⟨_, _, rfl, HMW.out, by omega, HB.out⟩
theorem splice_marks {N g : Nat} {w : World} {cur : Array Value} {x : Mx.Pos} (hb : Blk w g cur 4) (hc : cur.size = N) (hN : N ≤ 100000) :
    MarksAt N (w.setRow g (cur.toList.take 0 ++ (((List.range N).map fun j => Value.bool (x j)) ++ cur.toList.drop (0 + ((List.range N).map fun j => Value.bool (x j)).length))).toArray) g N x := by
  refine ⟨_, hb.row, ?_, Nat.le_refl _, by unfold maxLen; omega, fun j hj => ?_⟩
  · simp; omega
  · rw [List.getElem?_toArray, List.take_zero, List.nil_append, List.getElem?_append_left (by simpa using hj)]
    simp [hj]
def CatMAt (s : ByteArray) (x : Mx.Pos) (n : Node) (A : Option Addr) (ca : Nat) (w : World) (u v : Value) (wr : World) : Prop :=
  ∃ (k gg cc : Nat), v = .int .i64 (k : Nat) ∧ u = .slice (some ⟨gg, 0, none⟩) (s.size + 1 : Nat) cc ∧ k ≤ n.kids.length ∧ MarksAt (s.size + 1) wr gg cc (Mx.spCat s.data.toList (n.kids.take k) x) ∧ w.heap.size ≤ gg ∧ Below w.heap.size w wr
theorem moved_cat (s : ByteArray) (hs : s.size ≤ 90000) (n : Node) (h1 : n.kind = 2) (hal : n.kids.length ≤ 2 ^ 63 - 1) (ih : ∀ c ∈ n.kids, MovedOk s c) : MovedOk s n := by
  intro A ca G g cap x w hG hk hm hx
  have HE : Hid (Mx.sp s.data.toList n x = Mx.spCat s.data.toList n.kids x) := hid_mk (by cases n; simp only [Node.kind] at h1; subst h1; unfold Mx.sp; simp [Node.kids])
  rw [HE.out]
  obtain ⟨i0, hi, hz0, hz1, hz2⟩ := bool_parts
  have hz3 : i0.bytes * (s.size + 1) ≤ 281474976710656 := by rw [hz2]; omega
  have hi2 : (Tryd.prog.info? 4).map (·.size) = some 1 := by rw [hi]; simp [hz1]
  have e1 : (n.kind == 1) = false := by rw [h1]; rfl
  have e2 : (n.kind == 2) = true := by rw [h1]; rfl
  have HG := hid_mk hG
  have HKA := hid_mk hk
  have HIH := hid_mk ih
  have HSU := hid_mk (fun k => Mx.keeps_cat s.data.toList (n.kids.take k) x (by rw [len_data]; exact hx))
  have hsz : (s.size + 1 : Nat) ≤ 9223372036854775807 := by omega
  have hnw : Blk ((w.alloc (.cells #[.int .i64 (n.kind), .int .u64 ((n.set).a.toNat : Int), .int .u64 ((n.set).b.toNat : Int), .int .u64 ((n.set).c.toNat : Int), .int .u64 ((n.set).d.toNat : Int), .slice (A) (n.kids.length) (ca), .int .i64 (n.min), .int .i64 (n.max)] 28)).alloc (.cells (madeCells #[.bool false] (s.size + 1)) 4)) (w.heap.size + 1) (madeCells #[.bool false] (s.size + 1)) 4 := Blk.newAt (by simp)
  have hbw2 : Below w.heap.size w ((w.alloc (.cells #[.int .i64 (n.kind), .int .u64 ((n.set).a.toNat : Int), .int .u64 ((n.set).b.toNat : Int), .int .u64 ((n.set).c.toNat : Int), .int .u64 ((n.set).d.toNat : Int), .slice (A) (n.kids.length) (ca), .int .i64 (n.min), .int .i64 (n.max)] 28)).alloc (.cells (madeCells #[.bool false] (s.size + 1)) 4)) := (by repeat (first | with_reducible exact Below.refl _ _ | with_reducible assumption | with_reducible refine Below.setCell ?_ (by first | omega | (dsimp only; omega) | (simp <;> omega)) _ | with_reducible refine Below.alloc ?_ (by first | omega | (simp <;> omega)) _ | with_reducible refine below_drewN ?_ _ | with_reducible refine Below.drew ?_))
  have HM2 := hid_mk (hm.call hbw2)
  have HSP := hid_mk (splice_marks (x := x) hnw (size_madeCells _ _) (by omega))
  have HBL := hid_mk (fun ds => below_row hbw2 (g := w.heap.size + 1) (by omega) ds)
  have HMS := hid_mk (size_madeCells #[.bool false] (s.size + 1))
  have HNW := hid_mk hnw
  have hlen : ((List.range (s.size + 1)).map fun j => Value.bool (x j)).length = Nat.min (s.size + 1) (s.size + 1) := by simp
  have HLEN := hid_mk hlen
  have hn5 : ∀ ds, (((w.alloc (.cells #[.int .i64 (n.kind), .int .u64 ((n.set).a.toNat : Int), .int .u64 ((n.set).b.toNat : Int), .int .u64 ((n.set).c.toNat : Int), .int .u64 ((n.set).d.toNat : Int), .slice (A) (n.kids.length) (ca), .int .i64 (n.min), .int .i64 (n.max)] 28)).alloc (.cells (madeCells #[.bool false] (s.size + 1)) 4)).setRow (w.heap.size + 1) ds).cell? ⟨w.heap.size, 5, none⟩ = some (.slice A n.kids.length ca) := fun ds => (Blk.rowFar (Blk.alloc (Blk.new w _ _) _) (by omega) ds).cell 5
  clear hm hx hk hG HE h1 ih hnw hbw2 hlen
  go_enter Tryd.func34, Tryd.ntmps34
  go_wp2_with (first | (refine wpList_make_row _ rfl _ _ 62 rfl 4 i0 (.bool false) Tryd.underlying62 hi hz0 hz1 rfl .i64 .i64 (s.size + 1) rfl rfl hz3 hsz ?_) | (refine wpList_copy_own rfl _ _ 62 62 rfl 4 Tryd.underlying62 hi2 (w.heap.size + 1) 0 (s.size + 1) (s.size + 1) ⟨g, 0, none⟩ (s.size + 1) cap rfl rfl _ _ HNW.out ((List.range (s.size + 1)).map fun j => Value.bool (x j)) HLEN.out ?c1 ?c2 ?c3 ?_))
  case c1 =>
    intro j u hj
    rw [add_off, Nat.zero_add]
    have hjN : j < s.size + 1 := by have := (List.getElem?_eq_some_iff.1 hj).1; simpa using this
    rw [HM2.out.cell hjN]
    simp [hjN] at hj
    rw [hj]
  case c2 => rw [HMS.out]; simp
  case c3 => intro u hu; obtain ⟨j, _, rfl⟩ := List.mem_map.1 hu; rfl
  go_loopw [7, 50] (fun u v wr => CatMAt s x n A ca w u v wr) (fun _ v _ => n.kids.length - (intOf v).toNat)
  case atStart => exact ⟨0, _, _, rfl, rfl, Nat.zero_le _, by have h := HSP.out; simp [Mx.spCat, List.range_succ] at h ⊢; exact h, by omega, HBL.out _⟩
  case round =>
    obtain ⟨k, gg, cc, rfl, rfl, hkl, hm, hgg, hb⟩ := hrel
    by_cases hlt : k < n.kids.length
    · have hka := kids_two HKA.out hb HG.out
      obtain ⟨ba, oa, A', ca', hAE, hga, hsa', hka', hca⟩ := kidsAt_at hka hlt
      subst hAE
      have HST := hid_mk (spCat_take (s := s.data.toList) hlt x)
      have HIX := hid_mk (HIH.out n.kids[k] (List.getElem_mem hlt))
      generalize n.kids[k] = c at *
      (have z0 : wr.cell? ⟨ba, oa + k * 8, none⟩ = some (.int .i64 (c.kind)) := hca 0 _ rfl; have z1 : wr.cell? ⟨ba, oa + k * 8 + 1, none⟩ = some (.int .u64 ((c.set).a.toNat : Int)) := hca 1 _ rfl; have z2 : wr.cell? ⟨ba, oa + k * 8 + 2, none⟩ = some (.int .u64 ((c.set).b.toNat : Int)) := hca 2 _ rfl; have z3 : wr.cell? ⟨ba, oa + k * 8 + 3, none⟩ = some (.int .u64 ((c.set).c.toNat : Int)) := hca 3 _ rfl; have z4 : wr.cell? ⟨ba, oa + k * 8 + 4, none⟩ = some (.int .u64 ((c.set).d.toNat : Int)) := hca 4 _ rfl; have z5 : wr.cell? ⟨ba, oa + k * 8 + 5, none⟩ = some (.slice (A') (c.kids.length) (ca')) := hca 5 _ rfl; have z6 : wr.cell? ⟨ba, oa + k * 8 + 6, none⟩ = some (.int .i64 (c.min)) := hca 6 _ rfl; have z7 : wr.cell? ⟨ba, oa + k * 8 + 7, none⟩ = some (.int .i64 (c.max)) := hca 7 _ rfl)
      have hsz1 := hb.size
      have hb1 : Below wr.heap.size wr (wr.alloc (.cells #[.int .i64 (c.kind), .int .u64 ((c.set).a.toNat : Int), .int .u64 ((c.set).b.toNat : Int), .int .u64 ((c.set).c.toNat : Int), .int .u64 ((c.set).d.toNat : Int), .slice (A') (c.kids.length) (ca'), .int .i64 (c.min), .int .i64 (c.max)] 28)) := (Below.refl _ _).alloc (Nat.le_refl _) _
      have HCX := hide (HIX.out A' ca' G gg cc _ (wr.alloc (.cells #[.int .i64 (c.kind), .int .u64 ((c.set).a.toNat : Int), .int .u64 ((c.set).b.toNat : Int), .int .u64 ((c.set).c.toNat : Int), .int .u64 ((c.set).d.toNat : Int), .slice (A') (c.kids.length) (ca'), .int .i64 (c.min), .int .i64 (c.max)] 28)) (fun b hb => by have := HG.out b hb; have := hsz1; first | omega | (simp; omega)) (kidsAt_keep (below_keeps hb1 (fun b hb => by have := HG.out b hb; omega)) (fun b h => h) hka') (hm.call hb1) (by have := HSU.out k; rwa [len_data] at this))
      have HBW := hid_mk (hb.trans (hb1.mono hsz1))
      clear hb hka hka' hca HIX hm hb1
      go_wp2_with fail
      refine (unhide HCX).mono ?_
      rintro e w3 ⟨g3, cap3, rfl, hm3, hg3, hb3⟩
      have HX4 : Hid (CatMAt s x n (some ⟨ba, oa, none⟩) ca w (.slice (some ⟨g3, 0, none⟩) (s.size + 1 : Nat) cap3) (.int .i64 ((k + 1 : Nat) : Int)) w3) := hid_mk ⟨k + 1, g3, cap3, rfl, rfl, by omega, by rw [HST.out]; exact hm3, by simp at hg3; omega, HBW.out.trans (hb3.mono HBW.out.size)⟩
      clear hm3 hb3 hg3
      go_wp2
      go_roundw
      case rel => exact HX4.out
      case measure => simp [intOf]; omega
    · obtain rfl : k = n.kids.length := by omega
      rw [List.take_length] at hm
      have HMW := hid_mk hm
      have HB := hid_mk hb
      clear hm hb
      go_wp2
      exact bodyPost_ret (v := .slice (some ⟨gg, 0, none⟩) (s.size + 1 : Nat) cc) (by simp [results, Tryd.results34, go_sem]) rfl ⟨_, _, rfl, HMW.out, hgg, HB.out⟩
end Go.Proofs.YthgcefppeaopkaaDoor
