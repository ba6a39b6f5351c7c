/- Walks over the reference's match: a part that comes several times; every right tree. -/
import Derived.Test.YthgcefppeaopkaaDoorMatchJ
import Derived.Test.YthgcefppeaopkaaDoorMatchO
namespace Go.Proofs.YthgcefppeaopkaaDoor
open Go Go.RowKit Go.Sort
set_option maxRecDepth 100000
set_option linter.unusedSimpArgs false
set_option linter.unusedVariables false
set_option maxHeartbeats 4000000
theorem iter_add (f : Mx.Pos → Mx.Pos) (j : Nat) : ∀ (M : Nat) (x : Mx.Pos), Mx.iter f j (Mx.iter f M x) = Mx.iter f (M + j) x
  | 0, x => by rw [Nat.zero_add]; rfl
  | M + 1, x => by
    rw [show M + 1 + j = (M + j) + 1 by omega]
    exact iter_add f j M (f x)
/-- what has come out by the k-th round's head -/
def outK (f : Mx.Pos → Mx.Pos) (x : Mx.Pos) (M k : Nat) : Mx.Pos := if k ≤ M then Mx.zr else Mx.upto f (k - 1 - M) (Mx.iter f M x)
theorem outK_low {f : Mx.Pos → Mx.Pos} {x : Mx.Pos} {M k : Nat} (h : k < M) : outK f x M (k + 1) = outK f x M k := by unfold outK; rw [if_pos (by omega), if_pos (by omega)]
theorem outK_step {f : Mx.Pos → Mx.Pos} (hf : Mx.Adds f) {x : Mx.Pos} {M k : Nat} (h : M ≤ k) : outK f x M (k + 1) = Mx.orP (outK f x M k) (Mx.iter f k x) := by
  unfold outK
  rw [if_neg (by omega), show k + 1 - 1 - M = k - M by omega]
  by_cases h1 : k = M
  · subst h1; rw [if_pos (Nat.le_refl _), Nat.sub_self, Mx.none_or]; rfl
  · rw [if_neg (by omega)]
    obtain ⟨j, rfl⟩ : ∃ j, k = M + j + 1 := ⟨k - M - 1, by omega⟩
    rw [show M + j + 1 - M = j + 1 by omega, show M + j + 1 - 1 - M = j by omega, Mx.upto_succ hf, iter_add, Nat.add_assoc]
theorem outK_end (f : Mx.Pos → Mx.Pos) (x : Mx.Pos) (M T : Nat) (h : M ≤ T) : outK f x M (T + 1) = Mx.upto f (T - M) (Mx.iter f M x) := by
  unfold outK
  rw [if_neg (by omega), show T + 1 - 1 - M = T - M by omega]
def RepRAt (s : ByteArray) (f : Mx.Pos → Mx.Pos) (x : Mx.Pos) (M T : Nat) (w : World) (NB : Array Value) (u v : Value) (wr : World) : Prop :=
  ∃ (k gg cc : Nat), v = .int .i64 (k : Nat) ∧ u = .slice (some ⟨gg, 0, none⟩) (s.size + 1 : Nat) cc ∧ k ≤ T + 1 ∧ MarksAt (s.size + 1) wr gg cc (Mx.iter f k x) ∧ MarksAt (s.size + 1) wr (w.heap.size + 1) (s.size + 1) (outK f x M k) ∧ w.heap.size + 1 < gg ∧ Below w.heap.size w wr ∧ Blk wr w.heap.size NB 28
theorem rends_rep_star (s : ByteArray) (hs : s.size ≤ 90000) (n c : Node) (hc : n.kids = [c]) (h1 : n.kind = 4) (M : Nat) (hM : n.min = (M : Int)) (hM16 : M ≤ 16) (hX : n.max = -1) (ih : REndsOk s c) : REndsOk s n := by
  intro i A ca G w hi hG hk
  have h0 : 0 < n.kids.length := by rw [hc]; simp
  have HRP : Hid (Mx.sp s.data.toList n (Mx.single i) = Mx.upto (Mx.sp s.data.toList c) ((M + s.size) - M) (Mx.iter (Mx.sp s.data.toList c) M (Mx.single i))) := hid_mk (by
    cases n with
    | mk kd S kids mn mx =>
      simp only [Node.kind, Node.kids, Node.min, Node.max] at *
      subst h1 hc
      have e : Mx.sp s.data.toList (.mk 4 S [c] mn mx) (Mx.single i) = Mx.spRep s.data.toList [c] mn mx (Mx.single i) := by rw [Mx.sp]; simp
      rw [e]
      show Mx.upto (Mx.sp s.data.toList c) (Mx.more s.data.toList.length mn mx) (Mx.iter (Mx.sp s.data.toList c) mn.toNat (Mx.single i)) = _
      rw [hM, Int.toNat_natCast]
      congr 1
      unfold Mx.more
      rw [if_pos (by first | rfl | assumption), len_data]; omega)
  rw [HRP.out]
  obtain ⟨i0, hi0, hz0, hz1, hz2⟩ := bool_parts
  have hz3 : i0.bytes * (s.size + 1) ≤ 281474976710656 := by rw [hz2]; omega
  have hsz : (s.size + 1 : Nat) ≤ 9223372036854775807 := by omega
  have hi3 : i < s.size + 1 := by omega
  have hi4 : (i : Int) < (s.size : Int) + 1 := by omega
  have e1 : (n.kind == 1) = false := by rw [h1]; rfl
  have e2 : (n.kind == 2) = false := by rw [h1]; rfl
  have e3 : (n.kind == 3) = false := by rw [h1]; rfl
  have e5 : (n.max == -1) = true := by rw [hX]; rfl
  have HXX := hid_mk hX
  have HMXT : Hid (True) := hid_mk (by first | trivial | omega)
  have HT2 : Hid ((M + s.size) ≤ 100000) := hid_mk (by omega)
  have HIH := hid_mk ih
  have HG := hid_mk hG
  have HKA := hid_mk hk
  have HAD := hid_mk (Mx.adds_sp s.data.toList c)
  have HKP : Hid (Mx.Keeps (s.size + 1) (Mx.sp s.data.toList c)) := hid_mk (by have := Mx.keeps_sp s.data.toList c; rwa [len_data] at this)
  have HKX := hid_mk (fun j => HKP.out.iter j _ (Mx.sup_single hi3))
  have HMN := hid_mk hM
  obtain ⟨ba, oa, A', ca', hAE, hga, hsa', hkc, hcc⟩ := kidsAt_at hk h0
  subst hAE
  have hc0 : n.kids[0] = c := by simp [hc]
  rw [hc0] at hkc hcc hsa'
  have HKC := hid_mk hkc
  have HCA : Hid (∀ (V : World), Below w.heap.size w V → ∀ j u, [.int .i64 (c.kind), .int .u64 ((c.set).a.toNat : Int), .int .u64 ((c.set).b.toNat : Int), .int .u64 ((c.set).c.toNat : Int), .int .u64 ((c.set).d.toNat : Int), .slice (A') (c.kids.length) (ca'), .int .i64 (c.min), .int .i64 (c.max)][j]? = some u → V.cell? ⟨ba, oa + j, none⟩ = some u) := hid_mk (fun V hV j u hj => by
    have h1 := hcc j u hj
    rw [← h1, hV.cell (p := ⟨ba, oa + j, none⟩) (HG.out ba hga)]
    rw [show oa + 0 * 8 + j = oa + j by omega])
  clear hc h1 ih hG hk hkc hcc hc0 hM hi hX
  have hm0 : 0 ≤ n.min := HMN.out ▸ Int.natCast_nonneg M
  have hm16 : n.min ≤ 16 := by have := HMN.out; omega
  go_enter Tryd.func35, Tryd.ntmps35
  have hz4 := hz3
  go_wp2_with (first
    | (
       refine wpList_make_row _ rfl _ _ 61 rfl 4 i0 (.bool false) Tryd.underlying61 hi0 hz0 hz1 rfl .i64 .i64 (s.size + 1) rfl rfl hz4 hsz ?_
       clear hz4
       simp only [World.size_alloc]
       have HM0 := hid_mk (show MarksAt (s.size + 1) ((w.alloc (.cells #[.int .i64 (n.kind), .int .u64 ((n.set).a.toNat : Int), .int .u64 ((n.set).b.toNat : Int), .int .u64 ((n.set).c.toNat : Int), .int .u64 ((n.set).d.toNat : Int), .slice (some ⟨ba, oa, none⟩) (n.kids.length) (ca), .int .i64 (n.min), .int .i64 (n.max)] 28)).alloc (.cells (madeCells #[.bool false] (s.size + 1)) 4)) (w.heap.size + 1) (s.size + 1) Mx.zr from by have := marks_made (w.alloc (.cells #[.int .i64 (n.kind), .int .u64 ((n.set).a.toNat : Int), .int .u64 ((n.set).b.toNat : Int), .int .u64 ((n.set).c.toNat : Int), .int .u64 ((n.set).d.toNat : Int), .slice (some ⟨ba, oa, none⟩) (n.kids.length) (ca), .int .i64 (n.min), .int .i64 (n.max)] 28)) (s.size + 1) (by omega); rwa [World.size_alloc] at this)
       have HB0 := hid_mk (show Below w.heap.size w ((w.alloc (.cells #[.int .i64 (n.kind), .int .u64 ((n.set).a.toNat : Int), .int .u64 ((n.set).b.toNat : Int), .int .u64 ((n.set).c.toNat : Int), .int .u64 ((n.set).d.toNat : Int), .slice (some ⟨ba, oa, none⟩) (n.kids.length) (ca), .int .i64 (n.min), .int .i64 (n.max)] 28)).alloc (.cells (madeCells #[.bool false] (s.size + 1)) 4)) from (by repeat (first | with_reducible exact Below.refl _ _ | with_reducible assumption | with_reducible refine Below.setCell ?_ (by first | omega | (dsimp only; omega) | (simp <;> omega)) _ | with_reducible refine Below.alloc ?_ (by first | omega | (simp <;> omega)) _ | with_reducible refine below_drewN ?_ _ | with_reducible refine Below.drew ?_)))
       have HN0 := hid_mk (show Blk ((w.alloc (.cells #[.int .i64 (n.kind), .int .u64 ((n.set).a.toNat : Int), .int .u64 ((n.set).b.toNat : Int), .int .u64 ((n.set).c.toNat : Int), .int .u64 ((n.set).d.toNat : Int), .slice (some ⟨ba, oa, none⟩) (n.kids.length) (ca), .int .i64 (n.min), .int .i64 (n.max)] 28)).alloc (.cells (madeCells #[.bool false] (s.size + 1)) 4)) w.heap.size #[.int .i64 (n.kind), .int .u64 ((n.set).a.toNat : Int), .int .u64 ((n.set).b.toNat : Int), .int .u64 ((n.set).c.toNat : Int), .int .u64 ((n.set).d.toNat : Int), .slice (some ⟨ba, oa, none⟩) (n.kids.length) (ca), .int .i64 (n.min), .int .i64 (n.max)] 28 from Blk.alloc (Blk.new w _ _) _)
       have hV : ((w.alloc (.cells #[.int .i64 (n.kind), .int .u64 ((n.set).a.toNat : Int), .int .u64 ((n.set).b.toNat : Int), .int .u64 ((n.set).c.toNat : Int), .int .u64 ((n.set).d.toNat : Int), .slice (some ⟨ba, oa, none⟩) (n.kids.length) (ca), .int .i64 (n.min), .int .i64 (n.max)] 28)).alloc (.cells (madeCells #[.bool false] (s.size + 1)) 4)).heap.size = w.heap.size + 2 := by simp only [World.size_alloc]
       generalize ((w.alloc (.cells #[.int .i64 (n.kind), .int .u64 ((n.set).a.toNat : Int), .int .u64 ((n.set).b.toNat : Int), .int .u64 ((n.set).c.toNat : Int), .int .u64 ((n.set).d.toNat : Int), .slice (some ⟨ba, oa, none⟩) (n.kids.length) (ca), .int .i64 (n.min), .int .i64 (n.max)] 28)).alloc (.cells (madeCells #[.bool false] (s.size + 1)) 4)) = V at *
       have cv : (madeCells #[.bool false] (s.size + 1))[i]? = some (.bool false) := by rw [← Array.getElem?_toList, toList_madeCells_one]; simp [hi3]
       have hn0 := HN0.out
       (have n0 : V.cell? ⟨w.heap.size, 0, none⟩ = some (.int .i64 (n.kind)) := hn0.cell 0; have n1 : V.cell? ⟨w.heap.size, 1, none⟩ = some (.int .u64 ((n.set).a.toNat : Int)) := hn0.cell 1; have n2 : V.cell? ⟨w.heap.size, 2, none⟩ = some (.int .u64 ((n.set).b.toNat : Int)) := hn0.cell 2; have n3 : V.cell? ⟨w.heap.size, 3, none⟩ = some (.int .u64 ((n.set).c.toNat : Int)) := hn0.cell 3; have n4 : V.cell? ⟨w.heap.size, 4, none⟩ = some (.int .u64 ((n.set).d.toNat : Int)) := hn0.cell 4; have n5 : V.cell? ⟨w.heap.size, 5, none⟩ = some (.slice (some ⟨ba, oa, none⟩) (n.kids.length) (ca)) := hn0.cell 5; have n6 : V.cell? ⟨w.heap.size, 6, none⟩ = some (.int .i64 (n.min)) := hn0.cell 6; have n7 : V.cell? ⟨w.heap.size, 7, none⟩ = some (.int .i64 (n.max)) := hn0.cell 7; have nf : ∀ i, V.frozen? ⟨w.heap.size, i, none⟩ = false := hn0.frozen)
       have hlv : w.heap.size < V.heap.size := by omega
       have HM1 := hid_mk (marks_single V (s.size + 1) i hi3 (by omega))
       have hb2 : Below V.heap.size V (V.alloc (.cells ((madeCells #[.bool false] (s.size + 1)).setIfInBounds i (.bool true)) 4)) := (Below.refl _ _).alloc (Nat.le_refl _) _
       have HM2 := hid_mk (HM0.out.call hb2)
       have HB2 := hid_mk (HB0.out.trans (hb2.mono HB0.out.size))
       have HN2 := hid_mk (HN0.out.call hb2)
       clear hb2 hn0)
    | (refine wpList_make_row _ rfl _ _ 61 rfl 4 i0 (.bool false) Tryd.underlying61 hi0 hz0 hz1 rfl .i64 .i64 (s.size + 1) rfl rfl hz3 hsz ?_))
  generalize (V.alloc (.cells ((madeCells #[.bool false] (s.size + 1)).setIfInBounds i (.bool true)) 4)) = X at *
  have hlx := HN2.out.lt
  have hbx := HB2.out
  have hgv := HM1.out.lt
  have hnx := HN2.out
  clear n0 n1 n2 n3 n4 n5 n6 n7 nf cv
  (have n0 : X.cell? ⟨w.heap.size, 0, none⟩ = some (.int .i64 (n.kind)) := hnx.cell 0; have n1 : X.cell? ⟨w.heap.size, 1, none⟩ = some (.int .u64 ((n.set).a.toNat : Int)) := hnx.cell 1; have n2 : X.cell? ⟨w.heap.size, 2, none⟩ = some (.int .u64 ((n.set).b.toNat : Int)) := hnx.cell 2; have n3 : X.cell? ⟨w.heap.size, 3, none⟩ = some (.int .u64 ((n.set).c.toNat : Int)) := hnx.cell 3; have n4 : X.cell? ⟨w.heap.size, 4, none⟩ = some (.int .u64 ((n.set).d.toNat : Int)) := hnx.cell 4; have n5 : X.cell? ⟨w.heap.size, 5, none⟩ = some (.slice (some ⟨ba, oa, none⟩) (n.kids.length) (ca)) := hnx.cell 5; have n6 : X.cell? ⟨w.heap.size, 6, none⟩ = some (.int .i64 (n.min)) := hnx.cell 6; have n7 : X.cell? ⟨w.heap.size, 7, none⟩ = some (.int .i64 (n.max)) := hnx.cell 7; have nf : ∀ i, X.frozen? ⟨w.heap.size, i, none⟩ = false := hnx.frozen)
  clear hbx hnx
  go_wp2
  go_loopw [8, 14] (fun u v wr => RepRAt s (Mx.sp s.data.toList c) (Mx.single i) M (M + s.size) w #[.int .i64 (n.kind), .int .u64 ((n.set).a.toNat : Int), .int .u64 ((n.set).b.toNat : Int), .int .u64 ((n.set).c.toNat : Int), .int .u64 ((n.set).d.toNat : Int), .slice (some ⟨ba, oa, none⟩) (n.kids.length) (ca), .int .i64 (n.min), .int .i64 (n.max)] u v wr) (fun _ v _ => (M + s.size) + 1 - (intOf v).toNat)
  case atStart => exact ⟨0, _, _, rfl, rfl, Nat.zero_le _, by have h := HM1.out; rw [hV] at h; exact h, by unfold outK; rw [if_pos (Nat.zero_le _)]; exact HM2.out, by omega, HB2.out, HN2.out⟩
  case round =>
    obtain ⟨k, gg, cc, rfl, rfl, hkT, hmg, hmo, hgg, hb, hnb⟩ := hrel
    clear n0 n1 n2 n3 n4 n5 n6 n7 nf
    (have n0 : wr.cell? ⟨w.heap.size, 0, none⟩ = some (.int .i64 (n.kind)) := hnb.cell 0; have n1 : wr.cell? ⟨w.heap.size, 1, none⟩ = some (.int .u64 ((n.set).a.toNat : Int)) := hnb.cell 1; have n2 : wr.cell? ⟨w.heap.size, 2, none⟩ = some (.int .u64 ((n.set).b.toNat : Int)) := hnb.cell 2; have n3 : wr.cell? ⟨w.heap.size, 3, none⟩ = some (.int .u64 ((n.set).c.toNat : Int)) := hnb.cell 3; have n4 : wr.cell? ⟨w.heap.size, 4, none⟩ = some (.int .u64 ((n.set).d.toNat : Int)) := hnb.cell 4; have n5 : wr.cell? ⟨w.heap.size, 5, none⟩ = some (.slice (some ⟨ba, oa, none⟩) (n.kids.length) (ca)) := hnb.cell 5; have n6 : wr.cell? ⟨w.heap.size, 6, none⟩ = some (.int .i64 (n.min)) := hnb.cell 6; have n7 : wr.cell? ⟨w.heap.size, 7, none⟩ = some (.int .i64 (n.max)) := hnb.cell 7; have nf : ∀ i, wr.frozen? ⟨w.heap.size, i, none⟩ = false := hnb.frozen)
    have hT2 := HT2.out
    by_cases hlt : k < (M + s.size) + 1
    · have t1 : decide ((k : Int) ≤ (n.min + (s.size : Int))) = true := by have := HMN.out; have := HMXT.out; simp; omega
      have t1' : (k : Int) ≤ (n.min + (s.size : Int)) := by simpa using t1
      have hcx := HCA.out wr hb
      (have z0 : wr.cell? ⟨ba, oa, none⟩ = some (.int .i64 (c.kind)) := hcx 0 _ rfl; have z1 : wr.cell? ⟨ba, oa + 1, none⟩ = some (.int .u64 ((c.set).a.toNat : Int)) := hcx 1 _ rfl; have z2 : wr.cell? ⟨ba, oa + 2, none⟩ = some (.int .u64 ((c.set).b.toNat : Int)) := hcx 2 _ rfl; have z3 : wr.cell? ⟨ba, oa + 3, none⟩ = some (.int .u64 ((c.set).c.toNat : Int)) := hcx 3 _ rfl; have z4 : wr.cell? ⟨ba, oa + 4, none⟩ = some (.int .u64 ((c.set).d.toNat : Int)) := hcx 4 _ rfl; have z5 : wr.cell? ⟨ba, oa + 5, none⟩ = some (.slice (A') (c.kids.length) (ca')) := hcx 5 _ rfl; have z6 : wr.cell? ⟨ba, oa + 6, none⟩ = some (.int .i64 (c.min)) := hcx 6 _ rfl; have z7 : wr.cell? ⟨ba, oa + 7, none⟩ = some (.int .i64 (c.max)) := hcx 7 _ rfl)
      have hszw := hb.size
      have hlo := hmo.lt
      have HBW := hid_mk hb
      have HNB := hid_mk hnb
      have HMO := hid_mk hmo
      have HMG := hid_mk hmg
      have HIS := hid_mk (Mx.iter_succ (Mx.sp s.data.toList c) k (Mx.single i))
      have HCX := hide (rfrom_any s hs c HIH.out A' ca' G gg cc _ wr (fun b hb => by have := HG.out b hb; omega) (kids_two HKC.out hb HG.out) hmg (HKX.out k))
      by_cases hkM : k < M
      · have t2 : decide (n.min ≤ (k : Int)) = false := by have := HMN.out; simp; omega
        have t2' : ¬ n.min ≤ (k : Int) := by simpa using t2
        clear hb hnb hmo hmg hcx
        go_wp2_with fail
        refine (unhide HCX).mono ?_
        rintro e w4 ⟨g3, cap3, rfl, hm3, hg3, hb4⟩
        have HX4 : Hid (RepRAt s (Mx.sp s.data.toList c) (Mx.single i) M (M + s.size) w #[.int .i64 (n.kind), .int .u64 ((n.set).a.toNat : Int), .int .u64 ((n.set).b.toNat : Int), .int .u64 ((n.set).c.toNat : Int), .int .u64 ((n.set).d.toNat : Int), .slice (some ⟨ba, oa, none⟩) (n.kids.length) (ca), .int .i64 (n.min), .int .i64 (n.max)] (.slice (some ⟨g3, 0, none⟩) (s.size + 1 : Nat) cap3) (.int .i64 ((k + 1 : Nat) : Int)) w4) := hid_mk ⟨k + 1, g3, cap3, rfl, rfl, by omega, by rw [HIS.out]; exact hm3, by rw [outK_low hkM]; exact HMO.out.call hb4, by omega, HBW.out.trans (hb4.mono HBW.out.size), HNB.out.call hb4⟩
        clear hm3 hb4 hg3
        go_wp2
        go_roundw
        case rel => exact HX4.out
        case measure => simp [intOf]; omega
      · have t2 : decide (n.min ≤ (k : Int)) = true := by have := HMN.out; simp; omega
        have t2' : n.min ≤ (k : Int) := by simpa using t2
        have HST := hid_mk (outK_step HAD.out (x := Mx.single i) (M := M) (k := k) (by omega))
        have HKM := hid_mk hkM
        have hne : gg ≠ w.heap.size + 1 := by omega
        clear hb hnb hmo hmg hcx hkM HCX
        generalize hE : Mx.iter (Mx.sp s.data.toList c) k (Mx.single i) = E at *
        have HE := hid_mk hE
        generalize outK (Mx.sp s.data.toList c) (Mx.single i) M k = F at *
        clear hE
        rename World => W1
        go_wp2
        go_loopw [15] (fun v wq => RInAt (s.size + 1) (w.heap.size + 1) gg cc F E W1 v wq) (fun v _ => s.size + 1 - (intOf v).toNat)
        case atStart => exact ⟨0, rfl, Nat.zero_le _, HMO.out.congr (fun j _ => by simp [jn]), HMG.out, Only.refl _ _⟩
        case round =>
          obtain ⟨q, rfl, hiN, hmi, hmei, hoi⟩ := hrel
          by_cases hli : q < s.size + 1
          · have cF : wr.cell? ⟨w.heap.size + 1, q, none⟩ = some (.bool (F q)) := by rw [hmi.cell hli]; simp [jn]
            have cE : wr.cell? ⟨gg, q, none⟩ = some (.bool (E q)) := hmei.cell hli
            have cf : ∀ j, wr.frozen? ⟨w.heap.size + 1, j, none⟩ = false := hmi.frozen
            have HP : Hid (∀ b, b = (F q || E q) → RInAt (s.size + 1) (w.heap.size + 1) gg cc F E W1 (.int .i64 ((q + 1 : Nat) : Int)) (wr.setCell ⟨w.heap.size + 1, q, none⟩ (.bool b))) := hid_mk (fun b hb => ⟨q + 1, rfl, by omega, hmi.put hli b (fun j _ => by rw [jn_succ, hb]), hmei.keep (Below.heap_setCell _ _ _ _ hne), hoi.set (Or.inl rfl) _⟩)
            have hi5 : (q : Int) < (s.size : Int) + 1 := by omega
            clear hmi hmei hoi
            generalize F q = a at *
            generalize E q = b at *
            cases a <;> cases b
            all_goals
              go_wp2
              go_roundw
              case rel => exact HP.out _ rfl
              case measure => simp [intOf]; omega
          · obtain rfl : q = s.size + 1 := by omega
            have HMQ := hid_mk (hmi.congr (y := Mx.orP F E) (fun j hj => by simp [jn, hj, Mx.orP]))
            have HBQ : Hid (Below w.heap.size w wr) := hid_mk (HBW.out.trans (hoi.below (Nat.le_succ _) (by omega)))
            have HNQ : Hid (Blk wr w.heap.size #[.int .i64 (n.kind), .int .u64 ((n.set).a.toNat : Int), .int .u64 ((n.set).b.toNat : Int), .int .u64 ((n.set).c.toNat : Int), .int .u64 ((n.set).d.toNat : Int), .slice (some ⟨ba, oa, none⟩) (n.kids.length) (ca), .int .i64 (n.min), .int .i64 (n.max)] 28) := hid_mk (hoi.blk (by omega) HNB.out)
            have hszq := HBQ.out.size
            have hlq := hmi.lt
            have hcx := HCA.out wr HBQ.out
            have hnq := HNQ.out
            have HCQ := hide (rfrom_any s hs c HIH.out A' ca' G gg cc _ wr (fun b hb => by have := HG.out b hb; omega) (kids_two HKC.out HBQ.out HG.out) hmei (HE.out ▸ HKX.out k))
            clear hmi hmei hoi z0 z1 z2 z3 z4 z5 z6 z7 n0 n1 n2 n3 n4 n5 n6 n7 nf
            (have n0 : wr.cell? ⟨w.heap.size, 0, none⟩ = some (.int .i64 (n.kind)) := hnq.cell 0; have n1 : wr.cell? ⟨w.heap.size, 1, none⟩ = some (.int .u64 ((n.set).a.toNat : Int)) := hnq.cell 1; have n2 : wr.cell? ⟨w.heap.size, 2, none⟩ = some (.int .u64 ((n.set).b.toNat : Int)) := hnq.cell 2; have n3 : wr.cell? ⟨w.heap.size, 3, none⟩ = some (.int .u64 ((n.set).c.toNat : Int)) := hnq.cell 3; have n4 : wr.cell? ⟨w.heap.size, 4, none⟩ = some (.int .u64 ((n.set).d.toNat : Int)) := hnq.cell 4; have n5 : wr.cell? ⟨w.heap.size, 5, none⟩ = some (.slice (some ⟨ba, oa, none⟩) (n.kids.length) (ca)) := hnq.cell 5; have n6 : wr.cell? ⟨w.heap.size, 6, none⟩ = some (.int .i64 (n.min)) := hnq.cell 6; have n7 : wr.cell? ⟨w.heap.size, 7, none⟩ = some (.int .i64 (n.max)) := hnq.cell 7; have nf : ∀ i, wr.frozen? ⟨w.heap.size, i, none⟩ = false := hnq.frozen)
            (have z0 : wr.cell? ⟨ba, oa, none⟩ = some (.int .i64 (c.kind)) := hcx 0 _ rfl; have z1 : wr.cell? ⟨ba, oa + 1, none⟩ = some (.int .u64 ((c.set).a.toNat : Int)) := hcx 1 _ rfl; have z2 : wr.cell? ⟨ba, oa + 2, none⟩ = some (.int .u64 ((c.set).b.toNat : Int)) := hcx 2 _ rfl; have z3 : wr.cell? ⟨ba, oa + 3, none⟩ = some (.int .u64 ((c.set).c.toNat : Int)) := hcx 3 _ rfl; have z4 : wr.cell? ⟨ba, oa + 4, none⟩ = some (.int .u64 ((c.set).d.toNat : Int)) := hcx 4 _ rfl; have z5 : wr.cell? ⟨ba, oa + 5, none⟩ = some (.slice (A') (c.kids.length) (ca')) := hcx 5 _ rfl; have z6 : wr.cell? ⟨ba, oa + 6, none⟩ = some (.int .i64 (c.min)) := hcx 6 _ rfl; have z7 : wr.cell? ⟨ba, oa + 7, none⟩ = some (.int .i64 (c.max)) := hcx 7 _ rfl)
            clear hcx hnq
            go_wp2_with fail
            refine (unhide HCQ).mono ?_
            rintro e w4 ⟨g3, cap3, rfl, hm3, hg3, hb4⟩
            have HX4 : Hid (RepRAt s (Mx.sp s.data.toList c) (Mx.single i) M (M + s.size) w #[.int .i64 (n.kind), .int .u64 ((n.set).a.toNat : Int), .int .u64 ((n.set).b.toNat : Int), .int .u64 ((n.set).c.toNat : Int), .int .u64 ((n.set).d.toNat : Int), .slice (some ⟨ba, oa, none⟩) (n.kids.length) (ca), .int .i64 (n.min), .int .i64 (n.max)] (.slice (some ⟨g3, 0, none⟩) (s.size + 1 : Nat) cap3) (.int .i64 ((k + 1 : Nat) : Int)) w4) := hid_mk ⟨k + 1, g3, cap3, rfl, rfl, by omega, by rw [HIS.out]; exact hm3, by rw [HST.out]; exact HMQ.out.call hb4, by omega, HBQ.out.trans (hb4.mono HBQ.out.size), HNQ.out.call hb4⟩
            clear hm3 hb4 hg3
            go_wp2
            go_roundw
            case rel => exact HX4.out
            case measure => simp [intOf]; omega
    · obtain rfl : k = (M + s.size) + 1 := by omega
      have t1 : decide ((((M + s.size) + 1 : Nat) : Int) ≤ (n.min + (s.size : Int))) = false := by have := HMN.out; have := HMXT.out; simp; omega
      have t1' : ¬ ((((M + s.size) + 1 : Nat) : Int) ≤ (n.min + (s.size : Int))) := by simpa using t1
      have HMW := hid_mk hmo
      have HB := hid_mk hb
      clear hmg hmo hb hnb
      go_wp2
      exact bodyPost_ret (v := .slice (some ⟨w.heap.size + 1, 0, none⟩) (s.size + 1 : Nat) (s.size + 1 : Nat)) (by simp [results, Tryd.results35, go_sem]) rfl ⟨_, _, rfl, by have h := HMW.out; rw [outK_end _ _ M (M + s.size) (by first | omega | (have := HMXT.out; omega))] at h; first | exact h | (rw [Nat.add_sub_cancel_left] at h; exact h), Nat.le_succ _, HB.out⟩
theorem rends_rep_most (s : ByteArray) (hs : s.size ≤ 90000) (n c : Node) (hc : n.kids = [c]) (h1 : n.kind = 4) (M T : Nat) (hM : n.min = (M : Int)) (hM16 : M ≤ 16) (hX : n.max = (T : Int)) (hMT : M ≤ T) (hT16 : T ≤ 16) (ih : REndsOk s c) : REndsOk s n := by
  intro i A ca G w hi hG hk
  have h0 : 0 < n.kids.length := by rw [hc]; simp
  have HRP : Hid (Mx.sp s.data.toList n (Mx.single i) = Mx.upto (Mx.sp s.data.toList c) (T - M) (Mx.iter (Mx.sp s.data.toList c) M (Mx.single i))) := hid_mk (by
    cases n with
    | mk kd S kids mn mx =>
      simp only [Node.kind, Node.kids, Node.min, Node.max] at *
      subst h1 hc
      have e : Mx.sp s.data.toList (.mk 4 S [c] mn mx) (Mx.single i) = Mx.spRep s.data.toList [c] mn mx (Mx.single i) := by rw [Mx.sp]; simp
      rw [e]
      show Mx.upto (Mx.sp s.data.toList c) (Mx.more s.data.toList.length mn mx) (Mx.iter (Mx.sp s.data.toList c) mn.toNat (Mx.single i)) = _
      rw [hM, Int.toNat_natCast]
      congr 1
      unfold Mx.more
      rw [if_neg (by omega), hX]; omega)
  rw [HRP.out]
  obtain ⟨i0, hi0, hz0, hz1, hz2⟩ := bool_parts
  have hz3 : i0.bytes * (s.size + 1) ≤ 281474976710656 := by rw [hz2]; omega
  have hsz : (s.size + 1 : Nat) ≤ 9223372036854775807 := by omega
  have hi3 : i < s.size + 1 := by omega
  have hi4 : (i : Int) < (s.size : Int) + 1 := by omega
  have e1 : (n.kind == 1) = false := by rw [h1]; rfl
  have e2 : (n.kind == 2) = false := by rw [h1]; rfl
  have e3 : (n.kind == 3) = false := by rw [h1]; rfl
  have e5 : (n.max == -1) = false := by rw [hX]; simp; try omega
  have HXX := hid_mk hX
  have HMXT : Hid (n.max = (T : Int) ∧ M ≤ T) := hid_mk (by first | trivial | omega)
  have HT2 : Hid (T ≤ 100000) := hid_mk (by omega)
  have HIH := hid_mk ih
  have HG := hid_mk hG
  have HKA := hid_mk hk
  have HAD := hid_mk (Mx.adds_sp s.data.toList c)
  have HKP : Hid (Mx.Keeps (s.size + 1) (Mx.sp s.data.toList c)) := hid_mk (by have := Mx.keeps_sp s.data.toList c; rwa [len_data] at this)
  have HKX := hid_mk (fun j => HKP.out.iter j _ (Mx.sup_single hi3))
  have HMN := hid_mk hM
  obtain ⟨ba, oa, A', ca', hAE, hga, hsa', hkc, hcc⟩ := kidsAt_at hk h0
  subst hAE
  have hc0 : n.kids[0] = c := by simp [hc]
  rw [hc0] at hkc hcc hsa'
  have HKC := hid_mk hkc
  have HCA : Hid (∀ (V : World), Below w.heap.size w V → ∀ j u, [.int .i64 (c.kind), .int .u64 ((c.set).a.toNat : Int), .int .u64 ((c.set).b.toNat : Int), .int .u64 ((c.set).c.toNat : Int), .int .u64 ((c.set).d.toNat : Int), .slice (A') (c.kids.length) (ca'), .int .i64 (c.min), .int .i64 (c.max)][j]? = some u → V.cell? ⟨ba, oa + j, none⟩ = some u) := hid_mk (fun V hV j u hj => by
    have h1 := hcc j u hj
    rw [← h1, hV.cell (p := ⟨ba, oa + j, none⟩) (HG.out ba hga)]
    rw [show oa + 0 * 8 + j = oa + j by omega])
  have hmx0 : 0 ≤ n.max := by omega
  have hmx1 : n.max ≤ 16 := by omega
  clear hc h1 ih hG hk hkc hcc hc0 hM hi hX
  have hm0 : 0 ≤ n.min := HMN.out ▸ Int.natCast_nonneg M
  have hm16 : n.min ≤ 16 := by have := HMN.out; omega
  go_enter Tryd.func35, Tryd.ntmps35
  have hz4 := hz3
  go_wp2_with (first
    | (
       refine wpList_make_row _ rfl _ _ 61 rfl 4 i0 (.bool false) Tryd.underlying61 hi0 hz0 hz1 rfl .i64 .i64 (s.size + 1) rfl rfl hz4 hsz ?_
       clear hz4
       simp only [World.size_alloc]
       have HM0 := hid_mk (show MarksAt (s.size + 1) ((w.alloc (.cells #[.int .i64 (n.kind), .int .u64 ((n.set).a.toNat : Int), .int .u64 ((n.set).b.toNat : Int), .int .u64 ((n.set).c.toNat : Int), .int .u64 ((n.set).d.toNat : Int), .slice (some ⟨ba, oa, none⟩) (n.kids.length) (ca), .int .i64 (n.min), .int .i64 (n.max)] 28)).alloc (.cells (madeCells #[.bool false] (s.size + 1)) 4)) (w.heap.size + 1) (s.size + 1) Mx.zr from by have := marks_made (w.alloc (.cells #[.int .i64 (n.kind), .int .u64 ((n.set).a.toNat : Int), .int .u64 ((n.set).b.toNat : Int), .int .u64 ((n.set).c.toNat : Int), .int .u64 ((n.set).d.toNat : Int), .slice (some ⟨ba, oa, none⟩) (n.kids.length) (ca), .int .i64 (n.min), .int .i64 (n.max)] 28)) (s.size + 1) (by omega); rwa [World.size_alloc] at this)
       have HB0 := hid_mk (show Below w.heap.size w ((w.alloc (.cells #[.int .i64 (n.kind), .int .u64 ((n.set).a.toNat : Int), .int .u64 ((n.set).b.toNat : Int), .int .u64 ((n.set).c.toNat : Int), .int .u64 ((n.set).d.toNat : Int), .slice (some ⟨ba, oa, none⟩) (n.kids.length) (ca), .int .i64 (n.min), .int .i64 (n.max)] 28)).alloc (.cells (madeCells #[.bool false] (s.size + 1)) 4)) from (by repeat (first | with_reducible exact Below.refl _ _ | with_reducible assumption | with_reducible refine Below.setCell ?_ (by first | omega | (dsimp only; omega) | (simp <;> omega)) _ | with_reducible refine Below.alloc ?_ (by first | omega | (simp <;> omega)) _ | with_reducible refine below_drewN ?_ _ | with_reducible refine Below.drew ?_)))
       have HN0 := hid_mk (show Blk ((w.alloc (.cells #[.int .i64 (n.kind), .int .u64 ((n.set).a.toNat : Int), .int .u64 ((n.set).b.toNat : Int), .int .u64 ((n.set).c.toNat : Int), .int .u64 ((n.set).d.toNat : Int), .slice (some ⟨ba, oa, none⟩) (n.kids.length) (ca), .int .i64 (n.min), .int .i64 (n.max)] 28)).alloc (.cells (madeCells #[.bool false] (s.size + 1)) 4)) w.heap.size #[.int .i64 (n.kind), .int .u64 ((n.set).a.toNat : Int), .int .u64 ((n.set).b.toNat : Int), .int .u64 ((n.set).c.toNat : Int), .int .u64 ((n.set).d.toNat : Int), .slice (some ⟨ba, oa, none⟩) (n.kids.length) (ca), .int .i64 (n.min), .int .i64 (n.max)] 28 from Blk.alloc (Blk.new w _ _) _)
       have hV : ((w.alloc (.cells #[.int .i64 (n.kind), .int .u64 ((n.set).a.toNat : Int), .int .u64 ((n.set).b.toNat : Int), .int .u64 ((n.set).c.toNat : Int), .int .u64 ((n.set).d.toNat : Int), .slice (some ⟨ba, oa, none⟩) (n.kids.length) (ca), .int .i64 (n.min), .int .i64 (n.max)] 28)).alloc (.cells (madeCells #[.bool false] (s.size + 1)) 4)).heap.size = w.heap.size + 2 := by simp only [World.size_alloc]
       generalize ((w.alloc (.cells #[.int .i64 (n.kind), .int .u64 ((n.set).a.toNat : Int), .int .u64 ((n.set).b.toNat : Int), .int .u64 ((n.set).c.toNat : Int), .int .u64 ((n.set).d.toNat : Int), .slice (some ⟨ba, oa, none⟩) (n.kids.length) (ca), .int .i64 (n.min), .int .i64 (n.max)] 28)).alloc (.cells (madeCells #[.bool false] (s.size + 1)) 4)) = V at *
       have cv : (madeCells #[.bool false] (s.size + 1))[i]? = some (.bool false) := by rw [← Array.getElem?_toList, toList_madeCells_one]; simp [hi3]
       have hn0 := HN0.out
       (have n0 : V.cell? ⟨w.heap.size, 0, none⟩ = some (.int .i64 (n.kind)) := hn0.cell 0; have n1 : V.cell? ⟨w.heap.size, 1, none⟩ = some (.int .u64 ((n.set).a.toNat : Int)) := hn0.cell 1; have n2 : V.cell? ⟨w.heap.size, 2, none⟩ = some (.int .u64 ((n.set).b.toNat : Int)) := hn0.cell 2; have n3 : V.cell? ⟨w.heap.size, 3, none⟩ = some (.int .u64 ((n.set).c.toNat : Int)) := hn0.cell 3; have n4 : V.cell? ⟨w.heap.size, 4, none⟩ = some (.int .u64 ((n.set).d.toNat : Int)) := hn0.cell 4; have n5 : V.cell? ⟨w.heap.size, 5, none⟩ = some (.slice (some ⟨ba, oa, none⟩) (n.kids.length) (ca)) := hn0.cell 5; have n6 : V.cell? ⟨w.heap.size, 6, none⟩ = some (.int .i64 (n.min)) := hn0.cell 6; have n7 : V.cell? ⟨w.heap.size, 7, none⟩ = some (.int .i64 (n.max)) := hn0.cell 7; have nf : ∀ i, V.frozen? ⟨w.heap.size, i, none⟩ = false := hn0.frozen)
       have hlv : w.heap.size < V.heap.size := by omega
       have HM1 := hid_mk (marks_single V (s.size + 1) i hi3 (by omega))
       have hb2 : Below V.heap.size V (V.alloc (.cells ((madeCells #[.bool false] (s.size + 1)).setIfInBounds i (.bool true)) 4)) := (Below.refl _ _).alloc (Nat.le_refl _) _
       have HM2 := hid_mk (HM0.out.call hb2)
       have HB2 := hid_mk (HB0.out.trans (hb2.mono HB0.out.size))
       have HN2 := hid_mk (HN0.out.call hb2)
       clear hb2 hn0)
    | (refine wpList_make_row _ rfl _ _ 61 rfl 4 i0 (.bool false) Tryd.underlying61 hi0 hz0 hz1 rfl .i64 .i64 (s.size + 1) rfl rfl hz3 hsz ?_))
  generalize (V.alloc (.cells ((madeCells #[.bool false] (s.size + 1)).setIfInBounds i (.bool true)) 4)) = X at *
  have hlx := HN2.out.lt
  have hbx := HB2.out
  have hgv := HM1.out.lt
  have hnx := HN2.out
  clear n0 n1 n2 n3 n4 n5 n6 n7 nf cv
  (have n0 : X.cell? ⟨w.heap.size, 0, none⟩ = some (.int .i64 (n.kind)) := hnx.cell 0; have n1 : X.cell? ⟨w.heap.size, 1, none⟩ = some (.int .u64 ((n.set).a.toNat : Int)) := hnx.cell 1; have n2 : X.cell? ⟨w.heap.size, 2, none⟩ = some (.int .u64 ((n.set).b.toNat : Int)) := hnx.cell 2; have n3 : X.cell? ⟨w.heap.size, 3, none⟩ = some (.int .u64 ((n.set).c.toNat : Int)) := hnx.cell 3; have n4 : X.cell? ⟨w.heap.size, 4, none⟩ = some (.int .u64 ((n.set).d.toNat : Int)) := hnx.cell 4; have n5 : X.cell? ⟨w.heap.size, 5, none⟩ = some (.slice (some ⟨ba, oa, none⟩) (n.kids.length) (ca)) := hnx.cell 5; have n6 : X.cell? ⟨w.heap.size, 6, none⟩ = some (.int .i64 (n.min)) := hnx.cell 6; have n7 : X.cell? ⟨w.heap.size, 7, none⟩ = some (.int .i64 (n.max)) := hnx.cell 7; have nf : ∀ i, X.frozen? ⟨w.heap.size, i, none⟩ = false := hnx.frozen)
  clear hbx hnx
  go_wp2
  go_loopw [8, 14] (fun u v wr => RepRAt s (Mx.sp s.data.toList c) (Mx.single i) M T w #[.int .i64 (n.kind), .int .u64 ((n.set).a.toNat : Int), .int .u64 ((n.set).b.toNat : Int), .int .u64 ((n.set).c.toNat : Int), .int .u64 ((n.set).d.toNat : Int), .slice (some ⟨ba, oa, none⟩) (n.kids.length) (ca), .int .i64 (n.min), .int .i64 (n.max)] u v wr) (fun _ v _ => T + 1 - (intOf v).toNat)
  case atStart => exact ⟨0, _, _, rfl, rfl, Nat.zero_le _, by have h := HM1.out; rw [hV] at h; exact h, by unfold outK; rw [if_pos (Nat.zero_le _)]; exact HM2.out, by omega, HB2.out, HN2.out⟩
  case round =>
    obtain ⟨k, gg, cc, rfl, rfl, hkT, hmg, hmo, hgg, hb, hnb⟩ := hrel
    clear n0 n1 n2 n3 n4 n5 n6 n7 nf
    (have n0 : wr.cell? ⟨w.heap.size, 0, none⟩ = some (.int .i64 (n.kind)) := hnb.cell 0; have n1 : wr.cell? ⟨w.heap.size, 1, none⟩ = some (.int .u64 ((n.set).a.toNat : Int)) := hnb.cell 1; have n2 : wr.cell? ⟨w.heap.size, 2, none⟩ = some (.int .u64 ((n.set).b.toNat : Int)) := hnb.cell 2; have n3 : wr.cell? ⟨w.heap.size, 3, none⟩ = some (.int .u64 ((n.set).c.toNat : Int)) := hnb.cell 3; have n4 : wr.cell? ⟨w.heap.size, 4, none⟩ = some (.int .u64 ((n.set).d.toNat : Int)) := hnb.cell 4; have n5 : wr.cell? ⟨w.heap.size, 5, none⟩ = some (.slice (some ⟨ba, oa, none⟩) (n.kids.length) (ca)) := hnb.cell 5; have n6 : wr.cell? ⟨w.heap.size, 6, none⟩ = some (.int .i64 (n.min)) := hnb.cell 6; have n7 : wr.cell? ⟨w.heap.size, 7, none⟩ = some (.int .i64 (n.max)) := hnb.cell 7; have nf : ∀ i, wr.frozen? ⟨w.heap.size, i, none⟩ = false := hnb.frozen)
    have hT2 := HT2.out
    by_cases hlt : k < T + 1
    · have t1 : decide ((k : Int) ≤ n.max) = true := by have := HMN.out; have := HMXT.out; simp; omega
      have t1' : (k : Int) ≤ n.max := by simpa using t1
      have hcx := HCA.out wr hb
      (have z0 : wr.cell? ⟨ba, oa, none⟩ = some (.int .i64 (c.kind)) := hcx 0 _ rfl; have z1 : wr.cell? ⟨ba, oa + 1, none⟩ = some (.int .u64 ((c.set).a.toNat : Int)) := hcx 1 _ rfl; have z2 : wr.cell? ⟨ba, oa + 2, none⟩ = some (.int .u64 ((c.set).b.toNat : Int)) := hcx 2 _ rfl; have z3 : wr.cell? ⟨ba, oa + 3, none⟩ = some (.int .u64 ((c.set).c.toNat : Int)) := hcx 3 _ rfl; have z4 : wr.cell? ⟨ba, oa + 4, none⟩ = some (.int .u64 ((c.set).d.toNat : Int)) := hcx 4 _ rfl; have z5 : wr.cell? ⟨ba, oa + 5, none⟩ = some (.slice (A') (c.kids.length) (ca')) := hcx 5 _ rfl; have z6 : wr.cell? ⟨ba, oa + 6, none⟩ = some (.int .i64 (c.min)) := hcx 6 _ rfl; have z7 : wr.cell? ⟨ba, oa + 7, none⟩ = some (.int .i64 (c.max)) := hcx 7 _ rfl)
      have hszw := hb.size
      have hlo := hmo.lt
      have HBW := hid_mk hb
      have HNB := hid_mk hnb
      have HMO := hid_mk hmo
      have HMG := hid_mk hmg
      have HIS := hid_mk (Mx.iter_succ (Mx.sp s.data.toList c) k (Mx.single i))
      have HCX := hide (rfrom_any s hs c HIH.out A' ca' G gg cc _ wr (fun b hb => by have := HG.out b hb; omega) (kids_two HKC.out hb HG.out) hmg (HKX.out k))
      by_cases hkM : k < M
      · have t2 : decide (n.min ≤ (k : Int)) = false := by have := HMN.out; simp; omega
        have t2' : ¬ n.min ≤ (k : Int) := by simpa using t2
        clear hb hnb hmo hmg hcx
        go_wp2_with fail
        refine (unhide HCX).mono ?_
        rintro e w4 ⟨g3, cap3, rfl, hm3, hg3, hb4⟩
        have HX4 : Hid (RepRAt s (Mx.sp s.data.toList c) (Mx.single i) M T w #[.int .i64 (n.kind), .int .u64 ((n.set).a.toNat : Int), .int .u64 ((n.set).b.toNat : Int), .int .u64 ((n.set).c.toNat : Int), .int .u64 ((n.set).d.toNat : Int), .slice (some ⟨ba, oa, none⟩) (n.kids.length) (ca), .int .i64 (n.min), .int .i64 (n.max)] (.slice (some ⟨g3, 0, none⟩) (s.size + 1 : Nat) cap3) (.int .i64 ((k + 1 : Nat) : Int)) w4) := hid_mk ⟨k + 1, g3, cap3, rfl, rfl, by omega, by rw [HIS.out]; exact hm3, by rw [outK_low hkM]; exact HMO.out.call hb4, by omega, HBW.out.trans (hb4.mono HBW.out.size), HNB.out.call hb4⟩
        clear hm3 hb4 hg3
        go_wp2
        go_roundw
        case rel => exact HX4.out
        case measure => simp [intOf]; omega
      · have t2 : decide (n.min ≤ (k : Int)) = true := by have := HMN.out; simp; omega
        have t2' : n.min ≤ (k : Int) := by simpa using t2
        have HST := hid_mk (outK_step HAD.out (x := Mx.single i) (M := M) (k := k) (by omega))
        have HKM := hid_mk hkM
        have hne : gg ≠ w.heap.size + 1 := by omega
        clear hb hnb hmo hmg hcx hkM HCX
        generalize hE : Mx.iter (Mx.sp s.data.toList c) k (Mx.single i) = E at *
        have HE := hid_mk hE
        generalize outK (Mx.sp s.data.toList c) (Mx.single i) M k = F at *
        clear hE
        rename World => W1
        go_wp2
        go_loopw [15] (fun v wq => RInAt (s.size + 1) (w.heap.size + 1) gg cc F E W1 v wq) (fun v _ => s.size + 1 - (intOf v).toNat)
        case atStart => exact ⟨0, rfl, Nat.zero_le _, HMO.out.congr (fun j _ => by simp [jn]), HMG.out, Only.refl _ _⟩
        case round =>
          obtain ⟨q, rfl, hiN, hmi, hmei, hoi⟩ := hrel
          by_cases hli : q < s.size + 1
          · have cF : wr.cell? ⟨w.heap.size + 1, q, none⟩ = some (.bool (F q)) := by rw [hmi.cell hli]; simp [jn]
            have cE : wr.cell? ⟨gg, q, none⟩ = some (.bool (E q)) := hmei.cell hli
            have cf : ∀ j, wr.frozen? ⟨w.heap.size + 1, j, none⟩ = false := hmi.frozen
            have HP : Hid (∀ b, b = (F q || E q) → RInAt (s.size + 1) (w.heap.size + 1) gg cc F E W1 (.int .i64 ((q + 1 : Nat) : Int)) (wr.setCell ⟨w.heap.size + 1, q, none⟩ (.bool b))) := hid_mk (fun b hb => ⟨q + 1, rfl, by omega, hmi.put hli b (fun j _ => by rw [jn_succ, hb]), hmei.keep (Below.heap_setCell _ _ _ _ hne), hoi.set (Or.inl rfl) _⟩)
            have hi5 : (q : Int) < (s.size : Int) + 1 := by omega
            clear hmi hmei hoi
            generalize F q = a at *
            generalize E q = b at *
            cases a <;> cases b
            all_goals
              go_wp2
              go_roundw
              case rel => exact HP.out _ rfl
              case measure => simp [intOf]; omega
          · obtain rfl : q = s.size + 1 := by omega
            have HMQ := hid_mk (hmi.congr (y := Mx.orP F E) (fun j hj => by simp [jn, hj, Mx.orP]))
            have HBQ : Hid (Below w.heap.size w wr) := hid_mk (HBW.out.trans (hoi.below (Nat.le_succ _) (by omega)))
            have HNQ : Hid (Blk wr w.heap.size #[.int .i64 (n.kind), .int .u64 ((n.set).a.toNat : Int), .int .u64 ((n.set).b.toNat : Int), .int .u64 ((n.set).c.toNat : Int), .int .u64 ((n.set).d.toNat : Int), .slice (some ⟨ba, oa, none⟩) (n.kids.length) (ca), .int .i64 (n.min), .int .i64 (n.max)] 28) := hid_mk (hoi.blk (by omega) HNB.out)
            have hszq := HBQ.out.size
            have hlq := hmi.lt
            have hcx := HCA.out wr HBQ.out
            have hnq := HNQ.out
            have HCQ := hide (rfrom_any s hs c HIH.out A' ca' G gg cc _ wr (fun b hb => by have := HG.out b hb; omega) (kids_two HKC.out HBQ.out HG.out) hmei (HE.out ▸ HKX.out k))
            clear hmi hmei hoi z0 z1 z2 z3 z4 z5 z6 z7 n0 n1 n2 n3 n4 n5 n6 n7 nf
            (have n0 : wr.cell? ⟨w.heap.size, 0, none⟩ = some (.int .i64 (n.kind)) := hnq.cell 0; have n1 : wr.cell? ⟨w.heap.size, 1, none⟩ = some (.int .u64 ((n.set).a.toNat : Int)) := hnq.cell 1; have n2 : wr.cell? ⟨w.heap.size, 2, none⟩ = some (.int .u64 ((n.set).b.toNat : Int)) := hnq.cell 2; have n3 : wr.cell? ⟨w.heap.size, 3, none⟩ = some (.int .u64 ((n.set).c.toNat : Int)) := hnq.cell 3; have n4 : wr.cell? ⟨w.heap.size, 4, none⟩ = some (.int .u64 ((n.set).d.toNat : Int)) := hnq.cell 4; have n5 : wr.cell? ⟨w.heap.size, 5, none⟩ = some (.slice (some ⟨ba, oa, none⟩) (n.kids.length) (ca)) := hnq.cell 5; have n6 : wr.cell? ⟨w.heap.size, 6, none⟩ = some (.int .i64 (n.min)) := hnq.cell 6; have n7 : wr.cell? ⟨w.heap.size, 7, none⟩ = some (.int .i64 (n.max)) := hnq.cell 7; have nf : ∀ i, wr.frozen? ⟨w.heap.size, i, none⟩ = false := hnq.frozen)
            (have z0 : wr.cell? ⟨ba, oa, none⟩ = some (.int .i64 (c.kind)) := hcx 0 _ rfl; have z1 : wr.cell? ⟨ba, oa + 1, none⟩ = some (.int .u64 ((c.set).a.toNat : Int)) := hcx 1 _ rfl; have z2 : wr.cell? ⟨ba, oa + 2, none⟩ = some (.int .u64 ((c.set).b.toNat : Int)) := hcx 2 _ rfl; have z3 : wr.cell? ⟨ba, oa + 3, none⟩ = some (.int .u64 ((c.set).c.toNat : Int)) := hcx 3 _ rfl; have z4 : wr.cell? ⟨ba, oa + 4, none⟩ = some (.int .u64 ((c.set).d.toNat : Int)) := hcx 4 _ rfl; have z5 : wr.cell? ⟨ba, oa + 5, none⟩ = some (.slice (A') (c.kids.length) (ca')) := hcx 5 _ rfl; have z6 : wr.cell? ⟨ba, oa + 6, none⟩ = some (.int .i64 (c.min)) := hcx 6 _ rfl; have z7 : wr.cell? ⟨ba, oa + 7, none⟩ = some (.int .i64 (c.max)) := hcx 7 _ rfl)
            clear hcx hnq
            go_wp2_with fail
            refine (unhide HCQ).mono ?_
            rintro e w4 ⟨g3, cap3, rfl, hm3, hg3, hb4⟩
            have HX4 : Hid (RepRAt s (Mx.sp s.data.toList c) (Mx.single i) M T w #[.int .i64 (n.kind), .int .u64 ((n.set).a.toNat : Int), .int .u64 ((n.set).b.toNat : Int), .int .u64 ((n.set).c.toNat : Int), .int .u64 ((n.set).d.toNat : Int), .slice (some ⟨ba, oa, none⟩) (n.kids.length) (ca), .int .i64 (n.min), .int .i64 (n.max)] (.slice (some ⟨g3, 0, none⟩) (s.size + 1 : Nat) cap3) (.int .i64 ((k + 1 : Nat) : Int)) w4) := hid_mk ⟨k + 1, g3, cap3, rfl, rfl, by omega, by rw [HIS.out]; exact hm3, by rw [HST.out]; exact HMQ.out.call hb4, by omega, HBQ.out.trans (hb4.mono HBQ.out.size), HNQ.out.call hb4⟩
            clear hm3 hb4 hg3
            go_wp2
            go_roundw
            case rel => exact HX4.out
            case measure => simp [intOf]; omega
    · obtain rfl : k = T + 1 := by omega
      have t1 : decide (((T + 1 : Nat) : Int) ≤ n.max) = false := by have := HMN.out; have := HMXT.out; simp; omega
      have t1' : ¬ (((T + 1 : Nat) : Int) ≤ n.max) := by simpa using t1
      have HMW := hid_mk hmo
      have HB := hid_mk hb
      clear hmg hmo hb hnb
      go_wp2
      exact bodyPost_ret (v := .slice (some ⟨w.heap.size + 1, 0, none⟩) (s.size + 1 : Nat) (s.size + 1 : Nat)) (by simp [results, Tryd.results35, go_sem]) rfl ⟨_, _, rfl, by have h := HMW.out; rw [outK_end _ _ M T (by first | omega | (have := HMXT.out; omega))] at h; first | exact h | (rw [Nat.add_sub_cancel_left] at h; exact h), Nat.le_succ _, HB.out⟩
theorem rends_any (s : ByteArray) (hs : s.size ≤ 90000) : ∀ (m : Nat) (n : Node), n.size ≤ m → n.lens → Rx.right n = true → REndsOk s n := by
  intro m
  induction m with
  | zero => intro a h; exact absurd h (by have := a.size_pos; omega)
  | succ m ih =>
    intro n hn hl hr
    have hr' := hr
    rw [Rx.right_eq, Bool.and_eq_true] at hr'
    have hk := (Rx.rights_iff _ _).1 hr'.2
    have IH : ∀ c ∈ n.kids, REndsOk s c := fun c hc => ih c (by have := Node.size_mem_kids hc; omega) (Node.lens_mem hl hc) (hk c hc).1
    have hal := Node.lens_len hl
    have ht := hr'.1
    by_cases h1 : n.kind = 1
    · exact rends_one s hs n h1
    by_cases h2 : n.kind = 2
    · exact rends_cat s hs n h2 hal IH
    by_cases h3 : n.kind = 3
    · exact rends_alt s hs n h3 hal IH
    by_cases h4 : n.kind = 4
    · simp [Rx.topB, h4] at ht
      obtain ⟨c, hc⟩ : ∃ c, n.kids = [c] := List.length_eq_one_iff.1 ht.2.1
      have htm := ht.2.2
      simp [Rx.timesB] at htm
      have IC := IH c (by rw [hc]; simp)
      by_cases h5 : n.max = -1
      · exact rends_rep_star s hs n c hc h4 n.min.toNat (by omega) (by omega) h5 IC
      · exact rends_rep_most s hs n c hc h4 n.min.toNat n.max.toNat (by omega) (by omega) (by omega) (by omega) (by omega) IC
    · simp [Rx.topB, h1, h2, h3, h4] at ht
end Go.Proofs.YthgcefppeaopkaaDoor
