/- Walks over the reference's match: one byte, parts one behind the other, one or another. -/
import Derived.Test.YthgcefppeaopkaaDoorMatchI
import Derived.Test.YthgcefppeaopkaaDoorMatchW
namespace Go.Proofs.YthgcefppeaopkaaDoor
open Go Go.RowKit Go.Sort
set_option maxRecDepth 100000
set_option linter.unusedSimpArgs false
set_option linter.unusedVariables false
set_option maxHeartbeats 4000000
theorem one_single (S : CSet) (l : List UInt8) (i j : Nat) : Mx.one S l (Mx.single i) j = if j = i + 1 then (match l[i]? with | some c => S.has c.toNat | _ => false) else false := by
  cases j with
  | zero => rw [if_neg (by omega)]; rfl
  | succ j =>
    by_cases h : j = i
    · subst h; rw [if_pos rfl]; simp [Mx.one, Mx.single]; cases l[j]? <;> rfl
    · rw [if_neg (by omega)]; simp [Mx.one, Mx.single, h]
theorem rends_one (s : ByteArray) (hs : s.size ≤ 90000) (n : Node) (h1 : n.kind = 1) : REndsOk s n := by
  intro i A ca G w hi hG hk
  have HE : Hid (Mx.sp s.data.toList n (Mx.single i) = Mx.one n.set s.data.toList (Mx.single i)) := hid_mk (by cases n; simp only [Node.kind] at h1; subst h1; unfold Mx.sp; simp [Node.set])
  rw [HE.out]
  obtain ⟨i0, hi0, hz0, hz1, hz2⟩ := bool_parts
  have hz3 : i0.bytes * (s.size + 1) ≤ 281474976710656 := by rw [hz2]; omega
  have hsz : (s.size + 1 : Nat) ≤ 9223372036854775807 := by omega
  have hi3 : i < s.size + 1 := by omega
  have hi4 : (i : Int) < (s.size : Int) + 1 := by omega
  have e1 : (n.kind == 1) = true := by rw [h1]; rfl
  have e2 : (n.kind == 2) = false := by rw [h1]; rfl
  have e3 : (n.kind == 3) = false := by rw [h1]; rfl
  clear hk hG HE h1
  by_cases hlt : i < s.size
  · have hlt2 : (i : Int) < (s.size : Int) := by omega
    have hy0 : ∃ y, s[i]'hlt = y := ⟨_, rfl⟩
    obtain ⟨y, hy0⟩ := hy0
    have hyl : s.data.toList[i]? = some y := by rw [← hy0, List.getElem?_eq_getElem (by simpa using hlt)]; rfl
    have HON : Hid (∀ j, Mx.one n.set s.data.toList (Mx.single i) j = if j = i + 1 then n.set.has y.toNat else false) := hid_mk (fun j => by rw [one_single, hyl])
    have HC : Hid (∀ (X : World) d os, Calls Tryd.prog 48 #[.agg #[.int .u64 ((n.set).a.toNat : Int), .int .u64 ((n.set).b.toNat : Int), .int .u64 ((n.set).c.toNat : Int), .int .u64 ((n.set).d.toNat : Int)], .int .i64 (y.toNat : Nat)] (grow (redrawn X d) os) (fun e w'' => e = .returned (.bool (n.set.has y.toNat)) ∧ ∃ p : Regrown, w'' = grow (redrawn X p.d) p.os)) := hid_mk (fun X d os => retG_qq (rhas_any n.set y.toNat y.toNat_lt _))
    have hi5 : (i : Int) + 1 < (s.size : Int) + 1 := by omega
    have hi6 : i + 1 < s.size + 1 := by omega
    have hw1 : IntKind.i64.wrap ((i : Int) + 1) = (i : Int) + 1 := IntWalk.i64_in _ (by omega)
    have hw2 : (0 : Int) ≤ (i : Int) + 1 := by omega
    have hw3 : ((i : Int) + 1).toNat = i + 1 := by omega
    have hwy : wrap64 (y.toNat : Int) = (y.toNat : Int) := by unfold wrap64; have := y.toNat_lt; omega
    clear hyl
    generalize n.set.has y.toNat = hs1 at *
    go_enter Tryd.func35, Tryd.ntmps35
    have hz4 := hz3
    go_wp2_with (first
      | (
         refine wpList_make_row _ rfl _ _ 61 rfl 4 i0 (.bool false) Tryd.underlying61 hi0 hz0 hz1 rfl .i64 .i64 (s.size + 1) rfl rfl hz4 hsz ?_
         clear hz4
         simp only [World.size_alloc]
         have HM0 := hid_mk (show MarksAt (s.size + 1) ((w.alloc (.cells #[.int .i64 (n.kind), .int .u64 ((n.set).a.toNat : Int), .int .u64 ((n.set).b.toNat : Int), .int .u64 ((n.set).c.toNat : Int), .int .u64 ((n.set).d.toNat : Int), .slice (A) (n.kids.length) (ca), .int .i64 (n.min), .int .i64 (n.max)] 28)).alloc (.cells (madeCells #[.bool false] (s.size + 1)) 4)) (w.heap.size + 1) (s.size + 1) Mx.zr from by have := marks_made (w.alloc (.cells #[.int .i64 (n.kind), .int .u64 ((n.set).a.toNat : Int), .int .u64 ((n.set).b.toNat : Int), .int .u64 ((n.set).c.toNat : Int), .int .u64 ((n.set).d.toNat : Int), .slice (A) (n.kids.length) (ca), .int .i64 (n.min), .int .i64 (n.max)] 28)) (s.size + 1) (by omega); rwa [World.size_alloc] at this)
         have HB0 := hid_mk (show Below w.heap.size w ((w.alloc (.cells #[.int .i64 (n.kind), .int .u64 ((n.set).a.toNat : Int), .int .u64 ((n.set).b.toNat : Int), .int .u64 ((n.set).c.toNat : Int), .int .u64 ((n.set).d.toNat : Int), .slice (A) (n.kids.length) (ca), .int .i64 (n.min), .int .i64 (n.max)] 28)).alloc (.cells (madeCells #[.bool false] (s.size + 1)) 4)) from (by repeat (first | with_reducible exact Below.refl _ _ | with_reducible assumption | with_reducible refine Below.setCell ?_ (by first | omega | (dsimp only; omega) | (simp <;> omega)) _ | with_reducible refine Below.alloc ?_ (by first | omega | (simp <;> omega)) _ | with_reducible refine below_drewN ?_ _ | with_reducible refine Below.drew ?_)))
         have HN0 := hid_mk (show Blk ((w.alloc (.cells #[.int .i64 (n.kind), .int .u64 ((n.set).a.toNat : Int), .int .u64 ((n.set).b.toNat : Int), .int .u64 ((n.set).c.toNat : Int), .int .u64 ((n.set).d.toNat : Int), .slice (A) (n.kids.length) (ca), .int .i64 (n.min), .int .i64 (n.max)] 28)).alloc (.cells (madeCells #[.bool false] (s.size + 1)) 4)) w.heap.size #[.int .i64 (n.kind), .int .u64 ((n.set).a.toNat : Int), .int .u64 ((n.set).b.toNat : Int), .int .u64 ((n.set).c.toNat : Int), .int .u64 ((n.set).d.toNat : Int), .slice (A) (n.kids.length) (ca), .int .i64 (n.min), .int .i64 (n.max)] 28 from Blk.alloc (Blk.new w _ _) _)
         have hV : ((w.alloc (.cells #[.int .i64 (n.kind), .int .u64 ((n.set).a.toNat : Int), .int .u64 ((n.set).b.toNat : Int), .int .u64 ((n.set).c.toNat : Int), .int .u64 ((n.set).d.toNat : Int), .slice (A) (n.kids.length) (ca), .int .i64 (n.min), .int .i64 (n.max)] 28)).alloc (.cells (madeCells #[.bool false] (s.size + 1)) 4)).heap.size = w.heap.size + 2 := by simp only [World.size_alloc]
         generalize ((w.alloc (.cells #[.int .i64 (n.kind), .int .u64 ((n.set).a.toNat : Int), .int .u64 ((n.set).b.toNat : Int), .int .u64 ((n.set).c.toNat : Int), .int .u64 ((n.set).d.toNat : Int), .slice (A) (n.kids.length) (ca), .int .i64 (n.min), .int .i64 (n.max)] 28)).alloc (.cells (madeCells #[.bool false] (s.size + 1)) 4)) = V at *
         have cv : (madeCells #[.bool false] (s.size + 1))[i]? = some (.bool false) := by rw [← Array.getElem?_toList, toList_madeCells_one]; simp [hi3]
         have hn0 := HN0.out
         (have n0 : V.cell? ⟨w.heap.size, 0, none⟩ = some (.int .i64 (n.kind)) := hn0.cell 0; have n1 : V.cell? ⟨w.heap.size, 1, none⟩ = some (.int .u64 ((n.set).a.toNat : Int)) := hn0.cell 1; have n2 : V.cell? ⟨w.heap.size, 2, none⟩ = some (.int .u64 ((n.set).b.toNat : Int)) := hn0.cell 2; have n3 : V.cell? ⟨w.heap.size, 3, none⟩ = some (.int .u64 ((n.set).c.toNat : Int)) := hn0.cell 3; have n4 : V.cell? ⟨w.heap.size, 4, none⟩ = some (.int .u64 ((n.set).d.toNat : Int)) := hn0.cell 4; have n5 : V.cell? ⟨w.heap.size, 5, none⟩ = some (.slice (A) (n.kids.length) (ca)) := hn0.cell 5; have n6 : V.cell? ⟨w.heap.size, 6, none⟩ = some (.int .i64 (n.min)) := hn0.cell 6; have n7 : V.cell? ⟨w.heap.size, 7, none⟩ = some (.int .i64 (n.max)) := hn0.cell 7; have nf : ∀ i, V.frozen? ⟨w.heap.size, i, none⟩ = false := hn0.frozen)
         have hlv : w.heap.size < V.heap.size := by omega
         have HM1 := hid_mk (marks_single V (s.size + 1) i hi3 (by omega))
         have hb2 : Below V.heap.size V (V.alloc (.cells ((madeCells #[.bool false] (s.size + 1)).setIfInBounds i (.bool true)) 4)) := (Below.refl _ _).alloc (Nat.le_refl _) _
         have HM2 := hid_mk (HM0.out.call hb2)
         have HB2 := hid_mk (HB0.out.trans (hb2.mono HB0.out.size))
         have HN2 := hid_mk (HN0.out.call hb2)
         clear hb2 hn0)
      | (refine wpList_make_row _ rfl _ _ 61 rfl 4 i0 (.bool false) Tryd.underlying61 hi0 hz0 hz1 rfl .i64 .i64 (s.size + 1) rfl rfl hz3 hsz ?_))
    have hn2 := HN2.out
    generalize (V.alloc (.cells ((madeCells #[.bool false] (s.size + 1)).setIfInBounds i (.bool true)) 4)) = X at *
    (have q0 : ∀ d os, (grow (redrawn X d) os).cell? ⟨w.heap.size, 1, none⟩ = some (.int .u64 ((n.set).a.toNat : Int)) := fun d os => cell_regrown (hn2.cell 1) d os; have q1 : ∀ d os, (grow (redrawn X d) os).cell? ⟨w.heap.size, 2, none⟩ = some (.int .u64 ((n.set).b.toNat : Int)) := fun d os => cell_regrown (hn2.cell 2) d os; have q2 : ∀ d os, (grow (redrawn X d) os).cell? ⟨w.heap.size, 3, none⟩ = some (.int .u64 ((n.set).c.toNat : Int)) := fun d os => cell_regrown (hn2.cell 3) d os; have q3 : ∀ d os, (grow (redrawn X d) os).cell? ⟨w.heap.size, 4, none⟩ = some (.int .u64 ((n.set).d.toNat : Int)) := fun d os => cell_regrown (hn2.cell 4) d os)
    cases hs1
    all_goals
      (refine wp_region_quiet_below (by kernel_rfl) (by kernel_rfl) ?_; (repeat (first | go_big_quiet_step ((go_at_call 48; with_reducible exact HC.out _ _ _)) | quiet_step ((go_at_call 48; with_reducible exact HC.out _ _ _)))); refine wpQuiet_nil ?_; intro _ hw'; obtain ⟨⟨nq, osq⟩, hw''⟩ := hw'; subst hw'')
      have hbr := below_regrown X nq osq
      have HB3 := hid_mk (HB2.out.trans (hbr.mono HB2.out.size))
      have hm2 := HM2.out.call hbr
      have cv2 : (grow (redrawn X nq) osq).cell? ⟨w.heap.size + 1, i + 1, none⟩ = some (.bool false) := hm2.cell hi6
      have fv2 : ∀ j, (grow (redrawn X nq) osq).frozen? ⟨w.heap.size + 1, j, none⟩ = false := hm2.frozen
      clear hbr
      generalize grow (redrawn X nq) osq = Y at *
      have HP : Hid (MarksAt (s.size + 1) (Y.setCell ⟨w.heap.size + 1, i + 1, none⟩ (.bool true)) (w.heap.size + 1) (s.size + 1) (fun j => if j = i + 1 then true else Mx.zr j)) := hid_mk (hm2.put hi6 true (fun j _ => rfl))
      have HM3 := hid_mk hm2
      clear hm2
      go_wp2
    · exact bodyPost_ret (v := .slice (some ⟨w.heap.size + 1, 0, none⟩) (s.size + 1 : Nat) (s.size + 1 : Nat)) (by simp [results, Tryd.results35, go_sem]) rfl ⟨_, _, rfl, HM3.out.congr (fun j _ => by rw [HON.out]; simp [Mx.zr]), Nat.le_succ _, HB3.out⟩
    · exact bodyPost_ret (v := .slice (some ⟨w.heap.size + 1, 0, none⟩) (s.size + 1 : Nat) (s.size + 1 : Nat)) (by simp [results, Tryd.results35, go_sem]) rfl ⟨_, _, rfl, HP.out.congr (fun j _ => by rw [HON.out]; simp [Mx.zr]), Nat.le_succ _, HB3.out.setCell (by simp) _⟩
  · have hlt2 : ¬ (i : Int) < (s.size : Int) := by omega
    have HON : Hid (∀ j, Mx.one n.set s.data.toList (Mx.single i) j = false) := hid_mk (fun j => by rw [one_single, List.getElem?_eq_none (by simpa using hlt)]; simp)
    go_enter Tryd.func35, Tryd.ntmps35
    have hz4 := hz3
    go_wp2_with (first
      | (
         refine wpList_make_row _ rfl _ _ 61 rfl 4 i0 (.bool false) Tryd.underlying61 hi0 hz0 hz1 rfl .i64 .i64 (s.size + 1) rfl rfl hz4 hsz ?_
         clear hz4
         simp only [World.size_alloc]
         have HM0 := hid_mk (show MarksAt (s.size + 1) ((w.alloc (.cells #[.int .i64 (n.kind), .int .u64 ((n.set).a.toNat : Int), .int .u64 ((n.set).b.toNat : Int), .int .u64 ((n.set).c.toNat : Int), .int .u64 ((n.set).d.toNat : Int), .slice (A) (n.kids.length) (ca), .int .i64 (n.min), .int .i64 (n.max)] 28)).alloc (.cells (madeCells #[.bool false] (s.size + 1)) 4)) (w.heap.size + 1) (s.size + 1) Mx.zr from by have := marks_made (w.alloc (.cells #[.int .i64 (n.kind), .int .u64 ((n.set).a.toNat : Int), .int .u64 ((n.set).b.toNat : Int), .int .u64 ((n.set).c.toNat : Int), .int .u64 ((n.set).d.toNat : Int), .slice (A) (n.kids.length) (ca), .int .i64 (n.min), .int .i64 (n.max)] 28)) (s.size + 1) (by omega); rwa [World.size_alloc] at this)
         have HB0 := hid_mk (show Below w.heap.size w ((w.alloc (.cells #[.int .i64 (n.kind), .int .u64 ((n.set).a.toNat : Int), .int .u64 ((n.set).b.toNat : Int), .int .u64 ((n.set).c.toNat : Int), .int .u64 ((n.set).d.toNat : Int), .slice (A) (n.kids.length) (ca), .int .i64 (n.min), .int .i64 (n.max)] 28)).alloc (.cells (madeCells #[.bool false] (s.size + 1)) 4)) from (by repeat (first | with_reducible exact Below.refl _ _ | with_reducible assumption | with_reducible refine Below.setCell ?_ (by first | omega | (dsimp only; omega) | (simp <;> omega)) _ | with_reducible refine Below.alloc ?_ (by first | omega | (simp <;> omega)) _ | with_reducible refine below_drewN ?_ _ | with_reducible refine Below.drew ?_)))
         have HN0 := hid_mk (show Blk ((w.alloc (.cells #[.int .i64 (n.kind), .int .u64 ((n.set).a.toNat : Int), .int .u64 ((n.set).b.toNat : Int), .int .u64 ((n.set).c.toNat : Int), .int .u64 ((n.set).d.toNat : Int), .slice (A) (n.kids.length) (ca), .int .i64 (n.min), .int .i64 (n.max)] 28)).alloc (.cells (madeCells #[.bool false] (s.size + 1)) 4)) w.heap.size #[.int .i64 (n.kind), .int .u64 ((n.set).a.toNat : Int), .int .u64 ((n.set).b.toNat : Int), .int .u64 ((n.set).c.toNat : Int), .int .u64 ((n.set).d.toNat : Int), .slice (A) (n.kids.length) (ca), .int .i64 (n.min), .int .i64 (n.max)] 28 from Blk.alloc (Blk.new w _ _) _)
         have hV : ((w.alloc (.cells #[.int .i64 (n.kind), .int .u64 ((n.set).a.toNat : Int), .int .u64 ((n.set).b.toNat : Int), .int .u64 ((n.set).c.toNat : Int), .int .u64 ((n.set).d.toNat : Int), .slice (A) (n.kids.length) (ca), .int .i64 (n.min), .int .i64 (n.max)] 28)).alloc (.cells (madeCells #[.bool false] (s.size + 1)) 4)).heap.size = w.heap.size + 2 := by simp only [World.size_alloc]
         generalize ((w.alloc (.cells #[.int .i64 (n.kind), .int .u64 ((n.set).a.toNat : Int), .int .u64 ((n.set).b.toNat : Int), .int .u64 ((n.set).c.toNat : Int), .int .u64 ((n.set).d.toNat : Int), .slice (A) (n.kids.length) (ca), .int .i64 (n.min), .int .i64 (n.max)] 28)).alloc (.cells (madeCells #[.bool false] (s.size + 1)) 4)) = V at *
         have cv : (madeCells #[.bool false] (s.size + 1))[i]? = some (.bool false) := by rw [← Array.getElem?_toList, toList_madeCells_one]; simp [hi3]
         have hn0 := HN0.out
         (have n0 : V.cell? ⟨w.heap.size, 0, none⟩ = some (.int .i64 (n.kind)) := hn0.cell 0; have n1 : V.cell? ⟨w.heap.size, 1, none⟩ = some (.int .u64 ((n.set).a.toNat : Int)) := hn0.cell 1; have n2 : V.cell? ⟨w.heap.size, 2, none⟩ = some (.int .u64 ((n.set).b.toNat : Int)) := hn0.cell 2; have n3 : V.cell? ⟨w.heap.size, 3, none⟩ = some (.int .u64 ((n.set).c.toNat : Int)) := hn0.cell 3; have n4 : V.cell? ⟨w.heap.size, 4, none⟩ = some (.int .u64 ((n.set).d.toNat : Int)) := hn0.cell 4; have n5 : V.cell? ⟨w.heap.size, 5, none⟩ = some (.slice (A) (n.kids.length) (ca)) := hn0.cell 5; have n6 : V.cell? ⟨w.heap.size, 6, none⟩ = some (.int .i64 (n.min)) := hn0.cell 6; have n7 : V.cell? ⟨w.heap.size, 7, none⟩ = some (.int .i64 (n.max)) := hn0.cell 7; have nf : ∀ i, V.frozen? ⟨w.heap.size, i, none⟩ = false := hn0.frozen)
         have hlv : w.heap.size < V.heap.size := by omega
         have HM1 := hid_mk (marks_single V (s.size + 1) i hi3 (by omega))
         have hb2 : Below V.heap.size V (V.alloc (.cells ((madeCells #[.bool false] (s.size + 1)).setIfInBounds i (.bool true)) 4)) := (Below.refl _ _).alloc (Nat.le_refl _) _
         have HM2 := hid_mk (HM0.out.call hb2)
         have HB2 := hid_mk (HB0.out.trans (hb2.mono HB0.out.size))
         have HN2 := hid_mk (HN0.out.call hb2)
         clear hb2 hn0)
      | (refine wpList_make_row _ rfl _ _ 61 rfl 4 i0 (.bool false) Tryd.underlying61 hi0 hz0 hz1 rfl .i64 .i64 (s.size + 1) rfl rfl hz3 hsz ?_))
    generalize (V.alloc (.cells ((madeCells #[.bool false] (s.size + 1)).setIfInBounds i (.bool true)) 4)) = X at *
    (refine wp_region_quiet_below (by kernel_rfl) (by kernel_rfl) ?_; (repeat (first | go_big_quiet_step (fail) | quiet_step (fail))); refine wpQuiet_nil ?_; intro _ hw'; obtain ⟨⟨nq, osq⟩, hw''⟩ := hw'; subst hw'')
    have hbr := below_regrown X nq osq
    have HB3 := hid_mk (HB2.out.trans (hbr.mono HB2.out.size))
    have HM3 := hid_mk (HM2.out.call hbr)
    clear hbr
    generalize grow (redrawn X nq) osq = Y at *
    go_wp2
    exact bodyPost_ret (v := .slice (some ⟨w.heap.size + 1, 0, none⟩) (s.size + 1 : Nat) (s.size + 1 : Nat)) (by simp [results, Tryd.results35, go_sem]) rfl ⟨_, _, rfl, HM3.out.congr (fun j _ => by rw [HON.out]; rfl), Nat.le_succ _, HB3.out⟩
def CatRAt (s : ByteArray) (x : Mx.Pos) (n : Node) (w : World) (NB : Array Value) (u v : Value) (wr : World) : Prop :=
  ∃ (k gg cc : Nat), v = .int .i64 (k : Nat) ∧ u = .slice (some ⟨gg, 0, none⟩) (s.size + 1 : Nat) cc ∧ k ≤ n.kids.length ∧ MarksAt (s.size + 1) wr gg cc (Mx.spCat s.data.toList (n.kids.take k) x) ∧ w.heap.size ≤ gg ∧ Below w.heap.size w wr ∧ Blk wr w.heap.size NB 28
theorem rends_cat (s : ByteArray) (hs : s.size ≤ 90000) (n : Node) (h1 : n.kind = 2) (hal : n.kids.length ≤ 2 ^ 63 - 1) (ih : ∀ c ∈ n.kids, REndsOk s c) : REndsOk s n := by
  intro i A ca G w hi hG hk
  have HE : Hid (Mx.sp s.data.toList n (Mx.single i) = Mx.spCat s.data.toList n.kids (Mx.single i)) := hid_mk (by cases n; simp only [Node.kind] at h1; subst h1; unfold Mx.sp; simp [Node.kids])
  rw [HE.out]
  obtain ⟨i0, hi0, hz0, hz1, hz2⟩ := bool_parts
  have hz3 : i0.bytes * (s.size + 1) ≤ 281474976710656 := by rw [hz2]; omega
  have hsz : (s.size + 1 : Nat) ≤ 9223372036854775807 := by omega
  have hi3 : i < s.size + 1 := by omega
  have hi4 : (i : Int) < (s.size : Int) + 1 := by omega
  have e1 : (n.kind == 1) = false := by rw [h1]; rfl
  have e2 : (n.kind == 2) = true := by rw [h1]; rfl
  have e3 : (n.kind == 3) = false := by rw [h1]; rfl
  have HG := hid_mk hG
  have HKA := hid_mk hk
  have HIH := hid_mk ih
  have HSU := hid_mk (fun k => Mx.keeps_cat s.data.toList (n.kids.take k) (Mx.single i) (by rw [len_data]; exact Mx.sup_single hi3))
  clear hk hG HE h1 ih
  go_enter Tryd.func35, Tryd.ntmps35
  have hz4 := hz3
  go_wp2_with (first
    | (
       refine wpList_make_row _ rfl _ _ 61 rfl 4 i0 (.bool false) Tryd.underlying61 hi0 hz0 hz1 rfl .i64 .i64 (s.size + 1) rfl rfl hz4 hsz ?_
       clear hz4
       simp only [World.size_alloc]
       have HM0 := hid_mk (show MarksAt (s.size + 1) ((w.alloc (.cells #[.int .i64 (n.kind), .int .u64 ((n.set).a.toNat : Int), .int .u64 ((n.set).b.toNat : Int), .int .u64 ((n.set).c.toNat : Int), .int .u64 ((n.set).d.toNat : Int), .slice (A) (n.kids.length) (ca), .int .i64 (n.min), .int .i64 (n.max)] 28)).alloc (.cells (madeCells #[.bool false] (s.size + 1)) 4)) (w.heap.size + 1) (s.size + 1) Mx.zr from by have := marks_made (w.alloc (.cells #[.int .i64 (n.kind), .int .u64 ((n.set).a.toNat : Int), .int .u64 ((n.set).b.toNat : Int), .int .u64 ((n.set).c.toNat : Int), .int .u64 ((n.set).d.toNat : Int), .slice (A) (n.kids.length) (ca), .int .i64 (n.min), .int .i64 (n.max)] 28)) (s.size + 1) (by omega); rwa [World.size_alloc] at this)
       have HB0 := hid_mk (show Below w.heap.size w ((w.alloc (.cells #[.int .i64 (n.kind), .int .u64 ((n.set).a.toNat : Int), .int .u64 ((n.set).b.toNat : Int), .int .u64 ((n.set).c.toNat : Int), .int .u64 ((n.set).d.toNat : Int), .slice (A) (n.kids.length) (ca), .int .i64 (n.min), .int .i64 (n.max)] 28)).alloc (.cells (madeCells #[.bool false] (s.size + 1)) 4)) from (by repeat (first | with_reducible exact Below.refl _ _ | with_reducible assumption | with_reducible refine Below.setCell ?_ (by first | omega | (dsimp only; omega) | (simp <;> omega)) _ | with_reducible refine Below.alloc ?_ (by first | omega | (simp <;> omega)) _ | with_reducible refine below_drewN ?_ _ | with_reducible refine Below.drew ?_)))
       have HN0 := hid_mk (show Blk ((w.alloc (.cells #[.int .i64 (n.kind), .int .u64 ((n.set).a.toNat : Int), .int .u64 ((n.set).b.toNat : Int), .int .u64 ((n.set).c.toNat : Int), .int .u64 ((n.set).d.toNat : Int), .slice (A) (n.kids.length) (ca), .int .i64 (n.min), .int .i64 (n.max)] 28)).alloc (.cells (madeCells #[.bool false] (s.size + 1)) 4)) w.heap.size #[.int .i64 (n.kind), .int .u64 ((n.set).a.toNat : Int), .int .u64 ((n.set).b.toNat : Int), .int .u64 ((n.set).c.toNat : Int), .int .u64 ((n.set).d.toNat : Int), .slice (A) (n.kids.length) (ca), .int .i64 (n.min), .int .i64 (n.max)] 28 from Blk.alloc (Blk.new w _ _) _)
       have hV : ((w.alloc (.cells #[.int .i64 (n.kind), .int .u64 ((n.set).a.toNat : Int), .int .u64 ((n.set).b.toNat : Int), .int .u64 ((n.set).c.toNat : Int), .int .u64 ((n.set).d.toNat : Int), .slice (A) (n.kids.length) (ca), .int .i64 (n.min), .int .i64 (n.max)] 28)).alloc (.cells (madeCells #[.bool false] (s.size + 1)) 4)).heap.size = w.heap.size + 2 := by simp only [World.size_alloc]
       generalize ((w.alloc (.cells #[.int .i64 (n.kind), .int .u64 ((n.set).a.toNat : Int), .int .u64 ((n.set).b.toNat : Int), .int .u64 ((n.set).c.toNat : Int), .int .u64 ((n.set).d.toNat : Int), .slice (A) (n.kids.length) (ca), .int .i64 (n.min), .int .i64 (n.max)] 28)).alloc (.cells (madeCells #[.bool false] (s.size + 1)) 4)) = V at *
       have cv : (madeCells #[.bool false] (s.size + 1))[i]? = some (.bool false) := by rw [← Array.getElem?_toList, toList_madeCells_one]; simp [hi3]
       have hn0 := HN0.out
       (have n0 : V.cell? ⟨w.heap.size, 0, none⟩ = some (.int .i64 (n.kind)) := hn0.cell 0; have n1 : V.cell? ⟨w.heap.size, 1, none⟩ = some (.int .u64 ((n.set).a.toNat : Int)) := hn0.cell 1; have n2 : V.cell? ⟨w.heap.size, 2, none⟩ = some (.int .u64 ((n.set).b.toNat : Int)) := hn0.cell 2; have n3 : V.cell? ⟨w.heap.size, 3, none⟩ = some (.int .u64 ((n.set).c.toNat : Int)) := hn0.cell 3; have n4 : V.cell? ⟨w.heap.size, 4, none⟩ = some (.int .u64 ((n.set).d.toNat : Int)) := hn0.cell 4; have n5 : V.cell? ⟨w.heap.size, 5, none⟩ = some (.slice (A) (n.kids.length) (ca)) := hn0.cell 5; have n6 : V.cell? ⟨w.heap.size, 6, none⟩ = some (.int .i64 (n.min)) := hn0.cell 6; have n7 : V.cell? ⟨w.heap.size, 7, none⟩ = some (.int .i64 (n.max)) := hn0.cell 7; have nf : ∀ i, V.frozen? ⟨w.heap.size, i, none⟩ = false := hn0.frozen)
       have hlv : w.heap.size < V.heap.size := by omega
       have HM1 := hid_mk (marks_single V (s.size + 1) i hi3 (by omega))
       have hb2 : Below V.heap.size V (V.alloc (.cells ((madeCells #[.bool false] (s.size + 1)).setIfInBounds i (.bool true)) 4)) := (Below.refl _ _).alloc (Nat.le_refl _) _
       have HM2 := hid_mk (HM0.out.call hb2)
       have HB2 := hid_mk (HB0.out.trans (hb2.mono HB0.out.size))
       have HN2 := hid_mk (HN0.out.call hb2)
       clear hb2 hn0)
    | (refine wpList_make_row _ rfl _ _ 61 rfl 4 i0 (.bool false) Tryd.underlying61 hi0 hz0 hz1 rfl .i64 .i64 (s.size + 1) rfl rfl hz3 hsz ?_))
  generalize (V.alloc (.cells ((madeCells #[.bool false] (s.size + 1)).setIfInBounds i (.bool true)) 4)) = X at *
  have hlx := HN2.out.lt
  go_loopw [8, 9] (fun u v wr => CatRAt s (Mx.single i) n w #[.int .i64 (n.kind), .int .u64 ((n.set).a.toNat : Int), .int .u64 ((n.set).b.toNat : Int), .int .u64 ((n.set).c.toNat : Int), .int .u64 ((n.set).d.toNat : Int), .slice (A) (n.kids.length) (ca), .int .i64 (n.min), .int .i64 (n.max)] u v wr) (fun _ v _ => n.kids.length - (intOf v).toNat)
  case atStart => exact ⟨0, _, _, rfl, rfl, Nat.zero_le _, by have h := HM1.out; rw [hV] at h; exact h, by omega, HB2.out, HN2.out⟩
  case round =>
    obtain ⟨k, gg, cc, rfl, rfl, hkl, hm, hgg, hb, hnb⟩ := hrel
    clear n0 n1 n2 n3 n4 n5 n6 n7 nf cv
    (have n0 : wr.cell? ⟨w.heap.size, 0, none⟩ = some (.int .i64 (n.kind)) := hnb.cell 0; have n1 : wr.cell? ⟨w.heap.size, 1, none⟩ = some (.int .u64 ((n.set).a.toNat : Int)) := hnb.cell 1; have n2 : wr.cell? ⟨w.heap.size, 2, none⟩ = some (.int .u64 ((n.set).b.toNat : Int)) := hnb.cell 2; have n3 : wr.cell? ⟨w.heap.size, 3, none⟩ = some (.int .u64 ((n.set).c.toNat : Int)) := hnb.cell 3; have n4 : wr.cell? ⟨w.heap.size, 4, none⟩ = some (.int .u64 ((n.set).d.toNat : Int)) := hnb.cell 4; have n5 : wr.cell? ⟨w.heap.size, 5, none⟩ = some (.slice (A) (n.kids.length) (ca)) := hnb.cell 5; have n6 : wr.cell? ⟨w.heap.size, 6, none⟩ = some (.int .i64 (n.min)) := hnb.cell 6; have n7 : wr.cell? ⟨w.heap.size, 7, none⟩ = some (.int .i64 (n.max)) := hnb.cell 7; have nf : ∀ i, wr.frozen? ⟨w.heap.size, i, none⟩ = false := hnb.frozen)
    by_cases hlt : k < n.kids.length
    · have hka := kids_two HKA.out hb HG.out
      obtain ⟨ba, oa, A', ca', hAE, hga, hsa', hka', hca⟩ := kidsAt_at hka hlt
      subst hAE
      have HST := hid_mk (spCat_take (s := s.data.toList) hlt (Mx.single i))
      have HIX := hid_mk (HIH.out n.kids[k] (List.getElem_mem hlt))
      have hsz1 := hb.size
      generalize n.kids[k] = c at *
      (have z0 : wr.cell? ⟨ba, oa + k * 8, none⟩ = some (.int .i64 (c.kind)) := hca 0 _ rfl; have z1 : wr.cell? ⟨ba, oa + k * 8 + 1, none⟩ = some (.int .u64 ((c.set).a.toNat : Int)) := hca 1 _ rfl; have z2 : wr.cell? ⟨ba, oa + k * 8 + 2, none⟩ = some (.int .u64 ((c.set).b.toNat : Int)) := hca 2 _ rfl; have z3 : wr.cell? ⟨ba, oa + k * 8 + 3, none⟩ = some (.int .u64 ((c.set).c.toNat : Int)) := hca 3 _ rfl; have z4 : wr.cell? ⟨ba, oa + k * 8 + 4, none⟩ = some (.int .u64 ((c.set).d.toNat : Int)) := hca 4 _ rfl; have z5 : wr.cell? ⟨ba, oa + k * 8 + 5, none⟩ = some (.slice (A') (c.kids.length) (ca')) := hca 5 _ rfl; have z6 : wr.cell? ⟨ba, oa + k * 8 + 6, none⟩ = some (.int .i64 (c.min)) := hca 6 _ rfl; have z7 : wr.cell? ⟨ba, oa + k * 8 + 7, none⟩ = some (.int .i64 (c.max)) := hca 7 _ rfl)
      have HCX := hide (rfrom_any s hs c HIX.out A' ca' G gg cc _ wr (fun b hb => by have := HG.out b hb; omega) hka' hm (by have := HSU.out k; rwa [len_data] at this))
      have HBW := hid_mk hb
      have HNB := hid_mk hnb
      clear hb hnb hka hka' hca HIX hm
      go_wp2_with fail
      refine (unhide HCX).mono ?_
      rintro e w3 ⟨g3, cap3, rfl, hm3, hg3, hb3⟩
      have HX4 : Hid (CatRAt s (Mx.single i) n w #[.int .i64 (n.kind), .int .u64 ((n.set).a.toNat : Int), .int .u64 ((n.set).b.toNat : Int), .int .u64 ((n.set).c.toNat : Int), .int .u64 ((n.set).d.toNat : Int), .slice (some ⟨ba, oa, none⟩) (n.kids.length) (ca), .int .i64 (n.min), .int .i64 (n.max)] (.slice (some ⟨g3, 0, none⟩) (s.size + 1 : Nat) cap3) (.int .i64 ((k + 1 : Nat) : Int)) w3) := hid_mk ⟨k + 1, g3, cap3, rfl, rfl, by omega, by rw [HST.out]; exact hm3, by omega, HBW.out.trans (hb3.mono HBW.out.size), HNB.out.call hb3⟩
      clear hm3 hb3 hg3
      go_wp2
      go_roundw
      case rel => exact HX4.out
      case measure => simp [intOf]; omega
    · obtain rfl : k = n.kids.length := by omega
      rw [List.take_length] at hm
      have HMW := hid_mk hm
      have HB := hid_mk hb
      clear hm hb hnb
      go_wp2
      exact bodyPost_ret (v := .slice (some ⟨gg, 0, none⟩) (s.size + 1 : Nat) cc) (by simp [results, Tryd.results35, go_sem]) rfl ⟨_, _, rfl, HMW.out, hgg, HB.out⟩
def AltRAt (s : ByteArray) (x : Mx.Pos) (n : Node) (w : World) (NB : Array Value) (v : Value) (wr : World) : Prop :=
  ∃ k : Nat, v = .int .i64 (k : Nat) ∧ k ≤ n.kids.length ∧ MarksAt (s.size + 1) wr (w.heap.size + 1) (s.size + 1) (Mx.spAlt s.data.toList (n.kids.take k) x) ∧ Below w.heap.size w wr ∧ Blk wr w.heap.size NB 28
theorem rends_alt (s : ByteArray) (hs : s.size ≤ 90000) (n : Node) (h1 : n.kind = 3) (hal : n.kids.length ≤ 2 ^ 63 - 1) (ih : ∀ c ∈ n.kids, REndsOk s c) : REndsOk s n := by
  intro i A ca G w hi hG hk
  have HE : Hid (Mx.sp s.data.toList n (Mx.single i) = Mx.spAlt s.data.toList n.kids (Mx.single i)) := hid_mk (by cases n; simp only [Node.kind] at h1; subst h1; unfold Mx.sp; simp [Node.kids])
  rw [HE.out]
  obtain ⟨i0, hi0, hz0, hz1, hz2⟩ := bool_parts
  have hz3 : i0.bytes * (s.size + 1) ≤ 281474976710656 := by rw [hz2]; omega
  have hsz : (s.size + 1 : Nat) ≤ 9223372036854775807 := by omega
  have hi3 : i < s.size + 1 := by omega
  have hi4 : (i : Int) < (s.size : Int) + 1 := by omega
  have e1 : (n.kind == 1) = false := by rw [h1]; rfl
  have e2 : (n.kind == 2) = false := by rw [h1]; rfl
  have e3 : (n.kind == 3) = true := by rw [h1]; rfl
  have HG := hid_mk hG
  have HKA := hid_mk hk
  have HIH := hid_mk ih
  have HI := hid_mk hi
  clear hk hG HE h1 ih hi
  go_enter Tryd.func35, Tryd.ntmps35
  have hz4 := hz3
  go_wp2_with (first
    | (
       refine wpList_make_row _ rfl _ _ 61 rfl 4 i0 (.bool false) Tryd.underlying61 hi0 hz0 hz1 rfl .i64 .i64 (s.size + 1) rfl rfl hz4 hsz ?_
       clear hz4
       simp only [World.size_alloc]
       have HM0 := hid_mk (show MarksAt (s.size + 1) ((w.alloc (.cells #[.int .i64 (n.kind), .int .u64 ((n.set).a.toNat : Int), .int .u64 ((n.set).b.toNat : Int), .int .u64 ((n.set).c.toNat : Int), .int .u64 ((n.set).d.toNat : Int), .slice (A) (n.kids.length) (ca), .int .i64 (n.min), .int .i64 (n.max)] 28)).alloc (.cells (madeCells #[.bool false] (s.size + 1)) 4)) (w.heap.size + 1) (s.size + 1) Mx.zr from by have := marks_made (w.alloc (.cells #[.int .i64 (n.kind), .int .u64 ((n.set).a.toNat : Int), .int .u64 ((n.set).b.toNat : Int), .int .u64 ((n.set).c.toNat : Int), .int .u64 ((n.set).d.toNat : Int), .slice (A) (n.kids.length) (ca), .int .i64 (n.min), .int .i64 (n.max)] 28)) (s.size + 1) (by omega); rwa [World.size_alloc] at this)
       have HB0 := hid_mk (show Below w.heap.size w ((w.alloc (.cells #[.int .i64 (n.kind), .int .u64 ((n.set).a.toNat : Int), .int .u64 ((n.set).b.toNat : Int), .int .u64 ((n.set).c.toNat : Int), .int .u64 ((n.set).d.toNat : Int), .slice (A) (n.kids.length) (ca), .int .i64 (n.min), .int .i64 (n.max)] 28)).alloc (.cells (madeCells #[.bool false] (s.size + 1)) 4)) from (by repeat (first | with_reducible exact Below.refl _ _ | with_reducible assumption | with_reducible refine Below.setCell ?_ (by first | omega | (dsimp only; omega) | (simp <;> omega)) _ | with_reducible refine Below.alloc ?_ (by first | omega | (simp <;> omega)) _ | with_reducible refine below_drewN ?_ _ | with_reducible refine Below.drew ?_)))
       have HN0 := hid_mk (show Blk ((w.alloc (.cells #[.int .i64 (n.kind), .int .u64 ((n.set).a.toNat : Int), .int .u64 ((n.set).b.toNat : Int), .int .u64 ((n.set).c.toNat : Int), .int .u64 ((n.set).d.toNat : Int), .slice (A) (n.kids.length) (ca), .int .i64 (n.min), .int .i64 (n.max)] 28)).alloc (.cells (madeCells #[.bool false] (s.size + 1)) 4)) w.heap.size #[.int .i64 (n.kind), .int .u64 ((n.set).a.toNat : Int), .int .u64 ((n.set).b.toNat : Int), .int .u64 ((n.set).c.toNat : Int), .int .u64 ((n.set).d.toNat : Int), .slice (A) (n.kids.length) (ca), .int .i64 (n.min), .int .i64 (n.max)] 28 from Blk.alloc (Blk.new w _ _) _)
       have hV : ((w.alloc (.cells #[.int .i64 (n.kind), .int .u64 ((n.set).a.toNat : Int), .int .u64 ((n.set).b.toNat : Int), .int .u64 ((n.set).c.toNat : Int), .int .u64 ((n.set).d.toNat : Int), .slice (A) (n.kids.length) (ca), .int .i64 (n.min), .int .i64 (n.max)] 28)).alloc (.cells (madeCells #[.bool false] (s.size + 1)) 4)).heap.size = w.heap.size + 2 := by simp only [World.size_alloc]
       generalize ((w.alloc (.cells #[.int .i64 (n.kind), .int .u64 ((n.set).a.toNat : Int), .int .u64 ((n.set).b.toNat : Int), .int .u64 ((n.set).c.toNat : Int), .int .u64 ((n.set).d.toNat : Int), .slice (A) (n.kids.length) (ca), .int .i64 (n.min), .int .i64 (n.max)] 28)).alloc (.cells (madeCells #[.bool false] (s.size + 1)) 4)) = V at *
       have cv : (madeCells #[.bool false] (s.size + 1))[i]? = some (.bool false) := by rw [← Array.getElem?_toList, toList_madeCells_one]; simp [hi3]
       have hn0 := HN0.out
       (have n0 : V.cell? ⟨w.heap.size, 0, none⟩ = some (.int .i64 (n.kind)) := hn0.cell 0; have n1 : V.cell? ⟨w.heap.size, 1, none⟩ = some (.int .u64 ((n.set).a.toNat : Int)) := hn0.cell 1; have n2 : V.cell? ⟨w.heap.size, 2, none⟩ = some (.int .u64 ((n.set).b.toNat : Int)) := hn0.cell 2; have n3 : V.cell? ⟨w.heap.size, 3, none⟩ = some (.int .u64 ((n.set).c.toNat : Int)) := hn0.cell 3; have n4 : V.cell? ⟨w.heap.size, 4, none⟩ = some (.int .u64 ((n.set).d.toNat : Int)) := hn0.cell 4; have n5 : V.cell? ⟨w.heap.size, 5, none⟩ = some (.slice (A) (n.kids.length) (ca)) := hn0.cell 5; have n6 : V.cell? ⟨w.heap.size, 6, none⟩ = some (.int .i64 (n.min)) := hn0.cell 6; have n7 : V.cell? ⟨w.heap.size, 7, none⟩ = some (.int .i64 (n.max)) := hn0.cell 7; have nf : ∀ i, V.frozen? ⟨w.heap.size, i, none⟩ = false := hn0.frozen)
       have hlv : w.heap.size < V.heap.size := by omega
       have HM1 := hid_mk (marks_single V (s.size + 1) i hi3 (by omega))
       have hb2 : Below V.heap.size V (V.alloc (.cells ((madeCells #[.bool false] (s.size + 1)).setIfInBounds i (.bool true)) 4)) := (Below.refl _ _).alloc (Nat.le_refl _) _
       have HM2 := hid_mk (HM0.out.call hb2)
       have HB2 := hid_mk (HB0.out.trans (hb2.mono HB0.out.size))
       have HN2 := hid_mk (HN0.out.call hb2)
       clear hb2 hn0)
    | (refine wpList_make_row _ rfl _ _ 61 rfl 4 i0 (.bool false) Tryd.underlying61 hi0 hz0 hz1 rfl .i64 .i64 (s.size + 1) rfl rfl hz3 hsz ?_))
  generalize (V.alloc (.cells ((madeCells #[.bool false] (s.size + 1)).setIfInBounds i (.bool true)) 4)) = X at *
  have hlx := HN2.out.lt
  go_loopw [10] (fun v wr => AltRAt s (Mx.single i) n w #[.int .i64 (n.kind), .int .u64 ((n.set).a.toNat : Int), .int .u64 ((n.set).b.toNat : Int), .int .u64 ((n.set).c.toNat : Int), .int .u64 ((n.set).d.toNat : Int), .slice (A) (n.kids.length) (ca), .int .i64 (n.min), .int .i64 (n.max)] v wr) (fun v _ => n.kids.length - (intOf v).toNat)
  case atStart => exact ⟨0, rfl, Nat.zero_le _, HM2.out, HB2.out, HN2.out⟩
  case round =>
    obtain ⟨k, rfl, hkl, hm, hb, hnb⟩ := hrel
    clear n0 n1 n2 n3 n4 n5 n6 n7 nf cv
    (have n0 : wr.cell? ⟨w.heap.size, 0, none⟩ = some (.int .i64 (n.kind)) := hnb.cell 0; have n1 : wr.cell? ⟨w.heap.size, 1, none⟩ = some (.int .u64 ((n.set).a.toNat : Int)) := hnb.cell 1; have n2 : wr.cell? ⟨w.heap.size, 2, none⟩ = some (.int .u64 ((n.set).b.toNat : Int)) := hnb.cell 2; have n3 : wr.cell? ⟨w.heap.size, 3, none⟩ = some (.int .u64 ((n.set).c.toNat : Int)) := hnb.cell 3; have n4 : wr.cell? ⟨w.heap.size, 4, none⟩ = some (.int .u64 ((n.set).d.toNat : Int)) := hnb.cell 4; have n5 : wr.cell? ⟨w.heap.size, 5, none⟩ = some (.slice (A) (n.kids.length) (ca)) := hnb.cell 5; have n6 : wr.cell? ⟨w.heap.size, 6, none⟩ = some (.int .i64 (n.min)) := hnb.cell 6; have n7 : wr.cell? ⟨w.heap.size, 7, none⟩ = some (.int .i64 (n.max)) := hnb.cell 7; have nf : ∀ i, wr.frozen? ⟨w.heap.size, i, none⟩ = false := hnb.frozen)
    by_cases hlt : k < n.kids.length
    · have hka := kids_two HKA.out hb HG.out
      obtain ⟨ba, oa, A', ca', hAE, hga, hsa', hka', hca⟩ := kidsAt_at hka hlt
      subst hAE
      have HST := hid_mk (spAlt_take (s := s.data.toList) hlt (Mx.single i))
      have HIX := hid_mk (HIH.out n.kids[k] (List.getElem_mem hlt))
      have hsz1 := hb.size
      generalize n.kids[k] = c at *
      (have z0 : wr.cell? ⟨ba, oa + k * 8, none⟩ = some (.int .i64 (c.kind)) := hca 0 _ rfl; have z1 : wr.cell? ⟨ba, oa + k * 8 + 1, none⟩ = some (.int .u64 ((c.set).a.toNat : Int)) := hca 1 _ rfl; have z2 : wr.cell? ⟨ba, oa + k * 8 + 2, none⟩ = some (.int .u64 ((c.set).b.toNat : Int)) := hca 2 _ rfl; have z3 : wr.cell? ⟨ba, oa + k * 8 + 3, none⟩ = some (.int .u64 ((c.set).c.toNat : Int)) := hca 3 _ rfl; have z4 : wr.cell? ⟨ba, oa + k * 8 + 4, none⟩ = some (.int .u64 ((c.set).d.toNat : Int)) := hca 4 _ rfl; have z5 : wr.cell? ⟨ba, oa + k * 8 + 5, none⟩ = some (.slice (A') (c.kids.length) (ca')) := hca 5 _ rfl; have z6 : wr.cell? ⟨ba, oa + k * 8 + 6, none⟩ = some (.int .i64 (c.min)) := hca 6 _ rfl; have z7 : wr.cell? ⟨ba, oa + k * 8 + 7, none⟩ = some (.int .i64 (c.max)) := hca 7 _ rfl)
      have HCX := hide (HIX.out i A' ca' G wr HI.out (fun b hb => by have := HG.out b hb; omega) hka')
      have HMO := hid_mk hm
      have HBW := hid_mk hb
      have HNB := hid_mk hnb
      clear hb hnb hka hka' hca HIX hm
      go_wp2_with fail
      refine (unhide HCX).mono ?_
      rintro e w3 ⟨ge, ce, rfl, hme, hge, hb3⟩
      have HB3 := hid_mk (HBW.out.trans (hb3.mono HBW.out.size))
      have HN3 := hid_mk (HNB.out.call hb3)
      have hgl := HMO.out.lt
      have hne : ge ≠ w.heap.size + 1 := by omega
      have HO3 := hid_mk (HMO.out.call hb3)
      have HME := hid_mk hme
      generalize Mx.sp s.data.toList c (Mx.single i) = E at *
      generalize Mx.spAlt s.data.toList (n.kids.take k) (Mx.single i) = F at *
      have hlw := HB3.out.size
      have hlo := HO3.out.lt
      clear hb3 hme z0 z1 z2 z3 z4 z5 z6 z7 n0 n1 n2 n3 n4 n5 n6 n7 nf
      go_wp2
      go_loopw [12] (fun v wq => RInAt (s.size + 1) (w.heap.size + 1) ge ce F E w3 v wq) (fun v _ => s.size + 1 - (intOf v).toNat)
      case atStart => exact ⟨0, rfl, Nat.zero_le _, HO3.out.congr (fun j _ => by simp [jn]), HME.out, Only.refl _ _⟩
      case round =>
        obtain ⟨q, rfl, hiN, hmi, hmei, hoi⟩ := hrel
        by_cases hli : q < s.size + 1
        · have cF : wr.cell? ⟨w.heap.size + 1, q, none⟩ = some (.bool (F q)) := by rw [hmi.cell hli]; simp [jn]
          have cE : wr.cell? ⟨ge, q, none⟩ = some (.bool (E q)) := hmei.cell hli
          have cf : ∀ j, wr.frozen? ⟨w.heap.size + 1, j, none⟩ = false := hmi.frozen
          have HP : Hid (∀ b, b = (F q || E q) → RInAt (s.size + 1) (w.heap.size + 1) ge ce F E w3 (.int .i64 ((q + 1 : Nat) : Int)) (wr.setCell ⟨w.heap.size + 1, q, none⟩ (.bool b))) := hid_mk (fun b hb => ⟨q + 1, rfl, by omega, hmi.put hli b (fun j _ => by rw [jn_succ, hb]), hmei.keep (Below.heap_setCell _ _ _ _ hne), hoi.set (Or.inl rfl) _⟩)
          have hi5 : (q : Int) < (s.size : Int) + 1 := by omega
          clear hmi hmei hoi
          generalize F q = a at *
          generalize E q = b at *
          cases a <;> cases b
          all_goals
            go_wp2
            go_roundw
            case rel => exact HP.out _ rfl
            case measure => simp [intOf]; omega
        · obtain rfl : q = s.size + 1 := by omega
          have HX : Hid (AltRAt s (Mx.single i) n w #[.int .i64 (n.kind), .int .u64 ((n.set).a.toNat : Int), .int .u64 ((n.set).b.toNat : Int), .int .u64 ((n.set).c.toNat : Int), .int .u64 ((n.set).d.toNat : Int), .slice (some ⟨ba, oa, none⟩) (n.kids.length) (ca), .int .i64 (n.min), .int .i64 (n.max)] (.int .i64 ((k + 1 : Nat) : Int)) wr) := by
            refine hid_mk ⟨k + 1, rfl, by omega, hmi.congr (fun j hj => ?_), HB3.out.trans (hoi.below (Nat.le_succ _) (by omega)), hoi.blk (by omega) HN3.out⟩
            rw [HST.out]; simp [jn, hj, Mx.orP]
          clear hmi hmei hoi
          go_wp2
          go_roundw
          case rel => exact HX.out
          case measure => simp [intOf]; omega
    · obtain rfl : k = n.kids.length := by omega
      rw [List.take_length] at hm
      have HMW := hid_mk hm
      have HB := hid_mk hb
      clear hm hb hnb
      go_wp2
      exact bodyPost_ret (v := .slice (some ⟨w.heap.size + 1, 0, none⟩) (s.size + 1 : Nat) (s.size + 1 : Nat)) (by simp [results, Tryd.results35, go_sem]) rfl ⟨_, _, rfl, HMW.out, Nat.le_succ _, HB.out⟩
end Go.Proofs.YthgcefppeaopkaaDoor
