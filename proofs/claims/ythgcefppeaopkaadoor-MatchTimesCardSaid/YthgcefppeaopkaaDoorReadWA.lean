/- Walks over the pattern reader: classes in brackets. -/
import Derived.Test.YthgcefppeaopkaaDoorReadW9
import Derived.Outline
import Derived.Test.YthgcefppeaopkaaDoorReg
namespace Go.Proofs.YthgcefppeaopkaaDoor
open Go Go.RowKit Go.Sort
set_option maxRecDepth 100000
set_option linter.unusedSimpArgs false
set_option linter.unusedVariables false
set_option maxHeartbeats 1000000
/-- what the items from here on come to -/
def itemsOf (l : List UInt8) (k : Nat) (fst : Bool) (S : CSet) (f : Nat) : Res CSet := if fst = false ∧ Rx.pk l k = 93 then .ok S k else Rx.items l f S k
theorem itemsOf_stop {l : List UInt8} {k : Nat} {S : CSet} {f : Nat} (h : Rx.pk l k = 93) : itemsOf l k false S f = .ok S k := by unfold itemsOf; rw [if_pos ⟨rfl, h⟩]
theorem itemsOf_bad {l : List UInt8} {k : Nat} {fst : Bool} {S : CSet} {f : Nat} {e : Int} {q : Nat} (h : ¬ (fst = false ∧ Rx.pk l k = 93)) (hr : Rx.item l k = .bad e q) : itemsOf l k fst S (f + 1) = .bad e q := by
  unfold itemsOf; rw [if_neg h]; simp only [Rx.items, hr]
theorem itemsOf_next {l : List UInt8} {k : Nat} {fst : Bool} {S T : CSet} {f : Nat} {q : Nat} (h : ¬ (fst = false ∧ Rx.pk l k = 93)) (hr : Rx.item l k = .ok T q) : itemsOf l k fst S (f + 1) = itemsOf l q false (S.or T) f := by
  unfold itemsOf; rw [if_neg h]; simp only [Rx.items, hr, true_and]
def clsOf (nt : Bool) : Res CSet → Res CSet
  | .ok S p => .ok (if nt = true then S.not else S) (p + 1)
  | .bad e p => .bad e p
  | .out => .out
theorem cls_eq (l : List UInt8) (i : Nat) (nt : Bool) (h : decide (Rx.pk l i = 94) = nt) : Rx.cls l i = clsOf nt (itemsOf l (if nt = true then i + 1 else i) true CSet.empty (l.length + 1)) := by
  unfold Rx.cls itemsOf
  rw [if_neg (c := true = false ∧ _) (by simp)]
  cases nt with
  | true =>
    have h1 : Rx.pk l i = 94 := of_decide_eq_true h
    simp only [h1, if_true]
    show _ = clsOf true (Rx.items l (l.length + 1) CSet.empty (i + 1))
    cases Rx.items l (l.length + 1) CSet.empty (i + 1) <;> rfl
  | false =>
    have h1 : ¬ Rx.pk l i = 94 := of_decide_eq_false h
    simp only [if_neg h1]
    show _ = clsOf false (Rx.items l (l.length + 1) CSet.empty i)
    cases Rx.items l (l.length + 1) CSet.empty i <;> rfl
/-- two new sets, behind some draws -/
def wcls (w : World) (m : Nat) : World := ((w.alloc (.cells #[.int .u64 0, .int .u64 0, .int .u64 0, .int .u64 0] 25)).alloc (.cells #[.int .u64 0, .int .u64 0, .int .u64 0, .int .u64 0] 25)).drewN m
theorem wcls_b1 (w : World) (m : Nat) : Blk (wcls w m) w.heap.size #[.int .u64 0, .int .u64 0, .int .u64 0, .int .u64 0] 25 := Blk.drewN (Blk.alloc (Blk.new w _ _) _) m
theorem wcls_b2 (w : World) (m : Nat) : Blk (wcls w m) (w.heap.size + 1) #[.int .u64 0, .int .u64 0, .int .u64 0, .int .u64 0] 25 := by
  have := Blk.new (w.alloc (.cells #[.int .u64 0, .int .u64 0, .int .u64 0, .int .u64 0] 25)) #[.int .u64 0, .int .u64 0, .int .u64 0, .int .u64 0] 25
  rw [show (w.alloc (.cells #[.int .u64 0, .int .u64 0, .int .u64 0, .int .u64 0] 25)).heap.size = w.heap.size + 1 by simp] at this
  exact this.drewN m
theorem wcls_only (rb : Nat) (w : World) (m : Nat) : Only rb w (wcls w m) := by unfold wcls; exact (by repeat (first | exact Only.refl _ _ | assumption | refine Only.set ?_ (by first | exact Or.inl rfl | (right; dsimp only; omega)) _ | refine Only.alloc ?_ _ | refine Only.drewN ?_ _ | refine Only.drew ?_))
theorem wcls_rd {s : ByteArray} {rb i op : Nat} {w : World} (h : RD s rb i op w) (m : Nat) : RD s rb i op (wcls w m) := Blk.drewN (Blk.alloc (Blk.alloc h _) _) m
/-- the state at a round's head -/
def ClsAt (s : ByteArray) (rb op g : Nat) (w : World) (R : Res CSet) (v : Value) (wr : World) : Prop :=
  ∃ (fst : Bool) (S : CSet) (k f : Nat), v = .bool fst ∧ Blk wr g #[.int .u64 ((S).a.toNat : Int), .int .u64 ((S).b.toNat : Int), .int .u64 ((S).c.toNat : Int), .int .u64 ((S).d.toNat : Int)] 25 ∧ Blk wr w.heap.size #[.int .u64 0, .int .u64 0, .int .u64 0, .int .u64 0] 25 ∧ RD s rb k op wr ∧ Only rb w wr ∧ TabW wr ∧ k ≤ s.size ∧ s.size < k + f ∧ R = itemsOf s.data.toList k fst S f
theorem cls_done {l : List UInt8} {i p : Nat} {S : CSet} {nt : Bool} {R : Res CSet} (h : Rx.cls l i = clsOf nt R) (hR : R = .ok S p) : Rx.cls l i = .ok (if nt = true then S.not else S) (p + 1) := by rw [h, hR]; rfl
theorem cls_fail {l : List UInt8} {i p : Nat} {e : Int} {nt : Bool} {R : Res CSet} (h : Rx.cls l i = clsOf nt R) (hR : R = .bad e p) : Rx.cls l i = .bad e p := by rw [h, hR]; rfl
theorem keep4 {w w' : World} {g t : Nat} {S : CSet} {rb : Nat} (hb : Blk w g #[.int .u64 ((S).a.toNat : Int), .int .u64 ((S).b.toNat : Int), .int .u64 ((S).c.toNat : Int), .int .u64 ((S).d.toNat : Int)] t) (hg : g ≠ rb) (h : Only rb w w') :
    w'.cell? ⟨g, 0, none⟩ = some (.int .u64 ((S).a.toNat : Int)) ∧ w'.cell? ⟨g, 1, none⟩ = some (.int .u64 ((S).b.toNat : Int)) ∧ w'.cell? ⟨g, 2, none⟩ = some (.int .u64 ((S).c.toNat : Int)) ∧ w'.cell? ⟨g, 3, none⟩ = some (.int .u64 ((S).d.toNat : Int)) := by
  have h1 := h.blk hg hb
  exact ⟨h1.cell 0, h1.cell 1, h1.cell 2, h1.cell 3⟩
theorem class_true (s : ByteArray) (rb i op : Nat) (w : World) (h : RD s rb i op w) (hs : s.size ≤ 1000) (hi : i ≤ s.size) (hT : TabW w) (hr : 0 ≠ rb) (hnt : decide (Rx.pk s.data.toList i = 94) = true) :
    Calls Tryd.prog 62 #[.pointer (some ⟨rb, 0, none⟩)] w (RetSet s rb op (Rx.cls s.data.toList i) w) := by
  have hl : rb < w.heap.size := h.lt
  have HC := hid_mk (cls_eq s.data.toList i _ hnt)
  have HR := hide (fun a h => peek_any s rb i op a h hs (by omega))
  have HPK := hide (fun k (hk : k ≤ s.size) a h => peek_any s rb k op a h hs (by omega))
  have HIT := hide (fun k (hk : k ≤ s.size) a h hT => item_any s rb k op a h hs hk hT hr)
  have hbd := pk_bd s.data.toList i
  have hA := wcls_rd h 0
  unfold wcls at hA
  simp only [World.drewN_zero] at hA
  (have h0 : ((w.alloc (.cells #[.int .u64 0, .int .u64 0, .int .u64 0, .int .u64 0] 25)).alloc (.cells #[.int .u64 0, .int .u64 0, .int .u64 0, .int .u64 0] 25)).cell? ⟨rb, 0, none⟩ = some (.string s) := hA.cell 0; have h1 : ((w.alloc (.cells #[.int .u64 0, .int .u64 0, .int .u64 0, .int .u64 0] 25)).alloc (.cells #[.int .u64 0, .int .u64 0, .int .u64 0, .int .u64 0] 25)).cell? ⟨rb, 1, none⟩ = some (.int .i64 ((i : Nat) : Int)) := hA.cell 1; have h2 : ((w.alloc (.cells #[.int .u64 0, .int .u64 0, .int .u64 0, .int .u64 0] 25)).alloc (.cells #[.int .u64 0, .int .u64 0, .int .u64 0, .int .u64 0] 25)).cell? ⟨rb, 2, none⟩ = some (.int .i64 ((op : Nat) : Int)) := hA.cell 2; have hf : ∀ i, ((w.alloc (.cells #[.int .u64 0, .int .u64 0, .int .u64 0, .int .u64 0] 25)).alloc (.cells #[.int .u64 0, .int .u64 0, .int .u64 0, .int .u64 0] 25)).frozen? ⟨rb, i, none⟩ = false := hA.frozen)
  have HD0 := hid_mk h
  have HT0 := hid_mk hT
  have HTW := hid_mk hT.2
  have HA := hid_mk hA
  clear h hT hA
  have h94 : Rx.pk s.data.toList i = 94 := of_decide_eq_true hnt
  have hlt : i < s.size := by simpa using pk_in (l := s.data.toList) (i := i) (by rw [h94]; decide)
  rw [h94] at HR
  rw [if_pos rfl] at HC
  clear hnt h94 hbd
  obtain ⟨R, hR⟩ : ∃ R, R = itemsOf s.data.toList (i + 1) true CSet.empty (s.data.toList.length + 1) := ⟨_, rfl⟩
  rw [← hR] at HC
  have HC2 : Hid (Rx.cls s.data.toList i = clsOf true R) := HC
  rw [len_data] at hR
  have HRR := hid_mk hR
  clear hR
  go_enter Tryd.func62, Tryd.ntmps62
  go_wp2_with fail
  refine (unhide HR _ HA.out).mono ?_
  rintro e w1 ⟨rfl, m1, rfl⟩
  go_wp2_with fail
  change Code.wp _ _ _ _ (wcls (w.setCell ⟨rb, 1, none⟩ (.int .i64 ((i : Int) + 1))) m1)
  have hz : (w.setCell ⟨rb, 1, none⟩ (.int .i64 ((i : Int) + 1))).heap.size = w.heap.size := by simp [World.setCell]
  have hW1 := wcls_b1 (w.setCell ⟨rb, 1, none⟩ (.int .i64 ((i : Int) + 1))) m1
  have hW2 := wcls_b2 (w.setCell ⟨rb, 1, none⟩ (.int .i64 ((i : Int) + 1))) m1
  have hW3 : Only rb w (wcls (w.setCell ⟨rb, 1, none⟩ (.int .i64 ((i : Int) + 1))) m1) := ((Only.refl rb w).set (Or.inl rfl) _).step (wcls_only rb _ m1)
  have hW4 := wcls_rd (HD0.out.next) m1
  rw [hz] at hW1 hW2
  have hW5 : TabW (wcls (w.setCell ⟨rb, 1, none⟩ (.int .i64 ((i : Int) + 1))) m1) := HT0.out.only hW3 hr
  have HK : Hid (i + 1 ≤ s.size ∧ s.size < (i + 1) + (s.size + 1)) := hid_mk ⟨by omega, by omega⟩
  generalize wcls (w.setCell ⟨rb, 1, none⟩ (.int .i64 ((i : Int) + 1))) m1 = W0 at *
  have HW1 := hid_mk hW1
  have HW2 := hid_mk hW2
  have HW3 := hid_mk hW3
  have HW4 := hid_mk hW4
  have HW5 := hid_mk hW5
  clear hW1 hW2 hW3 hW4 hW5
  clear h0 h1 h2 hf
  go_loopw [5] (fun v wr => ClsAt s rb op (w.heap.size + 1) w R v wr) (fun _ wr => s.size - posOf rb wr)
  case atStart => exact ⟨true, CSet.empty, _, _, rfl, HW2.out, HW1.out, HW4.out, HW3.out, HW5.out, HK.out.1, HK.out.2, HRR.out⟩
  case round =>
    clear HK HRR HW1 HW2 HW3 HW4 HW5 HR
    obtain ⟨fst, S, k, f, rfl, hb, hb1, hd, ho, ht, hk, hf, he⟩ := hrel
    have HP := hide (fun m => unhide HPK k hk (wr.drewN m) hd)
    have hposr := posOf_eq hd
    (have g0 : wr.cell? ⟨rb, 0, none⟩ = some (.string s) := hd.cell 0; have g1 : wr.cell? ⟨rb, 1, none⟩ = some (.int .i64 ((k : Nat) : Int)) := hd.cell 1; have g2 : wr.cell? ⟨rb, 2, none⟩ = some (.int .i64 ((op : Nat) : Int)) := hd.cell 2; have gf : ∀ i, wr.frozen? ⟨rb, i, none⟩ = false := hd.frozen)
    (have z0 : wr.cell? ⟨(w.heap.size + 1), 0, none⟩ = some (.int .u64 ((S).a.toNat : Int)) := hb.cell 0; have z1 : wr.cell? ⟨(w.heap.size + 1), 1, none⟩ = some (.int .u64 ((S).b.toNat : Int)) := hb.cell 1; have z2 : wr.cell? ⟨(w.heap.size + 1), 2, none⟩ = some (.int .u64 ((S).c.toNat : Int)) := hb.cell 2; have z3 : wr.cell? ⟨(w.heap.size + 1), 3, none⟩ = some (.int .u64 ((S).d.toNat : Int)) := hb.cell 3; have zf : ∀ i, wr.frozen? ⟨(w.heap.size + 1), i, none⟩ = false := hb.frozen)
    (have y0 : wr.cell? ⟨w.heap.size, 0, none⟩ = some (.int .u64 0) := hb1.cell 0; have y1 : wr.cell? ⟨w.heap.size, 1, none⟩ = some (.int .u64 0) := hb1.cell 1; have y2 : wr.cell? ⟨w.heap.size, 2, none⟩ = some (.int .u64 0) := hb1.cell 2; have y3 : wr.cell? ⟨w.heap.size, 3, none⟩ = some (.int .u64 0) := hb1.cell 3; have yf : ∀ i, wr.frozen? ⟨w.heap.size, i, none⟩ = false := hb1.frozen)
    have HB := hid_mk hb
    have HB1 := hid_mk hb1
    have HD := hid_mk hd
    have HO := hid_mk ho
    have HT := hid_mk ht
    have HE := hid_mk he
    have HPO := hid_mk hposr
    have hbk := pk_bd s.data.toList k
    clear hb hb1 hd ho ht he hposr
    have hzz : w.heap.size + 1 < wr.heap.size := HB.out.lt
    by_cases hstop : fst = false ∧ Rx.pk s.data.toList k = 93
    · obtain ⟨rfl, h93⟩ := hstop
      have HE2 := hid_mk (cls_done HC2.out (HE.out.trans (itemsOf_stop h93)))
      rw [h93] at HP
      clear HE h93 hbk
      go_wp2_with fail
      refine (unhide HP 0).mono ?_
      rintro e w1 ⟨rfl, m2, rfl⟩
      have hb1x := (HB1.out.far (p := ⟨rb, 1, none⟩) (by dsimp only; omega) (.int .i64 ((k : Int) + 1))).drewN m2
      have HBx := hid_mk ((HB.out.far (p := ⟨rb, 1, none⟩) (by dsimp only; omega) (.int .i64 ((k : Int) + 1))).drewN m2)
      have HDx := hid_mk (RD.drewN (RD.next HD.out) m2)
      have HOx : Hid (Only rb w ((wr.setCell ⟨rb, 1, none⟩ (.int .i64 ((k : Int) + 1))).drewN m2)) := hid_mk ((HO.out.set (Or.inl rfl) _).drewN m2)
      have HB1x := hid_mk hb1x
      clear hb1x
      go_wp2_with fail
      refine (not_any S _).mono ?_
      rintro e w3 ⟨rfl, hb3⟩
      have hA3 := Blk.call HB1x.out hb3
      have HD3 := hid_mk (Blk.call HDx.out hb3)
      have HO3 := hid_mk (HOx.out.call hb3)
      (have x0 : w3.cell? ⟨w.heap.size, 0, none⟩ = some (.int .u64 0) := hA3.cell 0; have x1 : w3.cell? ⟨w.heap.size, 1, none⟩ = some (.int .u64 0) := hA3.cell 1; have x2 : w3.cell? ⟨w.heap.size, 2, none⟩ = some (.int .u64 0) := hA3.cell 2; have x3 : w3.cell? ⟨w.heap.size, 3, none⟩ = some (.int .u64 0) := hA3.cell 3; have xf : ∀ i, w3.frozen? ⟨w.heap.size, i, none⟩ = false := hA3.frozen)
      have hz3 : w.heap.size < w3.heap.size := hA3.lt
      clear hA3 hb3
      go_wp2
      refine bodyPost_ret (v := .agg #[.int .u64 ((S.not).a.toNat : Int), .int .u64 ((S.not).b.toNat : Int), .int .u64 ((S.not).c.toNat : Int), .int .u64 ((S.not).d.toNat : Int)]) (by simp [results, Tryd.results62, go_sem, x0, x1, x2, x3, hz3]) rfl ⟨by have ho := HO3.out; exact (by repeat (first | with_reducible exact Only.refl _ _ | with_reducible assumption | with_reducible refine Only.set ?_ (by first | exact Or.inl rfl | (right; dsimp only; omega)) _ | with_reducible refine Only.alloc ?_ _ | with_reducible refine Only.drewN ?_ _ | with_reducible refine Only.drew ?_)), ?_⟩
      rw [HE2.out]
      exact ⟨rfl, (by (try unfold RD); (repeat (first | with_reducible refine Blk.far ?_ (by dsimp only; omega) _ | with_reducible refine Blk.alloc ?_ _ | with_reducible refine Blk.drewN ?_ _)); exact HD3.out)⟩
    · have hf1 : ∃ f', f = f' + 1 := ⟨f - 1, by omega⟩
      obtain ⟨f', rfl⟩ := hf1
      have hfi := fine_item s.data.toList k
      have HS := hid_mk hstop
      have HI := hide (fun m => unhide HIT k hk (wr.drewN m) HD.out HT.out)
      have hgo : ∃ m : Nat, m = 0 := ⟨0, rfl⟩
      have hc93 : fst = true ∨ (fst = false ∧ ¬ Rx.pk s.data.toList k = 93) := by
        cases fst with
        | true => exact Or.inl rfl
        | false => exact Or.inr ⟨rfl, fun h => HS.out ⟨rfl, h⟩⟩
      clear hstop
      have HI2 := hide (fun a hd ht => unhide HIT k hk a hd ht)
      generalize hpk : Rx.pk s.data.toList k = c at HP hc93 hbk
      clear hpk
      cases hit : Rx.item s.data.toList k with
      | out => rw [hit] at hfi; exact hfi.elim
      | bad e q =>
        rw [hit] at HI2
        have HE2 := hid_mk (cls_fail HC2.out (HE.out.trans (itemsOf_bad HS.out hit)))
        clear hit hfi HE HS HI HC2
        rcases hc93 with rfl | ⟨rfl, hc⟩
        · go_wp2_with fail
          (have hq0 : ∀ p : InB (fun x => Blk x (w.heap.size + 1) #[.int .u64 ((S).a.toNat : Int), .int .u64 ((S).b.toNat : Int), .int .u64 ((S).c.toNat : Int), .int .u64 ((S).d.toNat : Int)] 25), p.w.cell? ⟨w.heap.size + 1, 0, none⟩ = some (.int .u64 ((S).a.toNat : Int)) := fun p => p.ok.cell 0; have hq1 : ∀ p : InB (fun x => Blk x (w.heap.size + 1) #[.int .u64 ((S).a.toNat : Int), .int .u64 ((S).b.toNat : Int), .int .u64 ((S).c.toNat : Int), .int .u64 ((S).d.toNat : Int)] 25), p.w.cell? ⟨w.heap.size + 1, 1, none⟩ = some (.int .u64 ((S).b.toNat : Int)) := fun p => p.ok.cell 1; have hq2 : ∀ p : InB (fun x => Blk x (w.heap.size + 1) #[.int .u64 ((S).a.toNat : Int), .int .u64 ((S).b.toNat : Int), .int .u64 ((S).c.toNat : Int), .int .u64 ((S).d.toNat : Int)] 25), p.w.cell? ⟨w.heap.size + 1, 2, none⟩ = some (.int .u64 ((S).c.toNat : Int)) := fun p => p.ok.cell 2; have hq3 : ∀ p : InB (fun x => Blk x (w.heap.size + 1) #[.int .u64 ((S).a.toNat : Int), .int .u64 ((S).b.toNat : Int), .int .u64 ((S).c.toNat : Int), .int .u64 ((S).d.toNat : Int)] 25), p.w.cell? ⟨w.heap.size + 1, 3, none⟩ = some (.int .u64 ((S).d.toNat : Int)) := fun p => p.ok.cell 3)
          (refine region_lead (S := Meets (fun x => Blk x (w.heap.size + 1) #[.int .u64 ((S).a.toNat : Int), .int .u64 ((S).b.toNat : Int), .int .u64 ((S).c.toNat : Int), .int .u64 ((S).d.toNat : Int)] 25)) 2 3 [0, 1] _ [_, _] (by kernel_rfl) (by kernel_rfl) rfl rfl (fun d v c a w h => by cases d <;> exact h) (meets_mk ?_) ?_)
          · exact HB.out
          ((repeat (refine wpReads_step (fun K hK => ?_); go_simp; (first | (refine hK _ ?_; clear hK K) | (apply Exists.intro; refine ⟨fun _ => rfl, hK _ ?_⟩; clear hK K)))); refine wpReads_nil ?_; intro J hJ; go_simp)
          refine (unhide HI2 _ ?_ ?_).mono ?_
          · exact HD.out
          · exact HT.out
          rintro e w4 ⟨ho4, rfl⟩
          exact ⟨rfl, HO.out.step (Only.step (by exact (by repeat (first | exact Only.refl _ _ | assumption | refine Only.set ?_ (by first | exact Or.inl rfl | (right; dsimp only; omega)) _ | refine Only.alloc ?_ _ | refine Only.drewN ?_ _ | refine Only.drew ?_))) ho4), by rw [HE2.out] <;> exact rfl⟩
        · go_wp2_with fail
          refine (unhide HP 0).mono ?_
          rintro e w1 ⟨rfl, m2, rfl⟩
          go_wp2_with fail
          (have hq0 : ∀ p : InB (fun x => Blk x (w.heap.size + 1) #[.int .u64 ((S).a.toNat : Int), .int .u64 ((S).b.toNat : Int), .int .u64 ((S).c.toNat : Int), .int .u64 ((S).d.toNat : Int)] 25), p.w.cell? ⟨w.heap.size + 1, 0, none⟩ = some (.int .u64 ((S).a.toNat : Int)) := fun p => p.ok.cell 0; have hq1 : ∀ p : InB (fun x => Blk x (w.heap.size + 1) #[.int .u64 ((S).a.toNat : Int), .int .u64 ((S).b.toNat : Int), .int .u64 ((S).c.toNat : Int), .int .u64 ((S).d.toNat : Int)] 25), p.w.cell? ⟨w.heap.size + 1, 1, none⟩ = some (.int .u64 ((S).b.toNat : Int)) := fun p => p.ok.cell 1; have hq2 : ∀ p : InB (fun x => Blk x (w.heap.size + 1) #[.int .u64 ((S).a.toNat : Int), .int .u64 ((S).b.toNat : Int), .int .u64 ((S).c.toNat : Int), .int .u64 ((S).d.toNat : Int)] 25), p.w.cell? ⟨w.heap.size + 1, 2, none⟩ = some (.int .u64 ((S).c.toNat : Int)) := fun p => p.ok.cell 2; have hq3 : ∀ p : InB (fun x => Blk x (w.heap.size + 1) #[.int .u64 ((S).a.toNat : Int), .int .u64 ((S).b.toNat : Int), .int .u64 ((S).c.toNat : Int), .int .u64 ((S).d.toNat : Int)] 25), p.w.cell? ⟨w.heap.size + 1, 3, none⟩ = some (.int .u64 ((S).d.toNat : Int)) := fun p => p.ok.cell 3)
          (refine region_lead (S := Meets (fun x => Blk x (w.heap.size + 1) #[.int .u64 ((S).a.toNat : Int), .int .u64 ((S).b.toNat : Int), .int .u64 ((S).c.toNat : Int), .int .u64 ((S).d.toNat : Int)] 25)) 2 3 [0, 1] _ [_, _] (by kernel_rfl) (by kernel_rfl) rfl rfl (fun d v c a w h => by cases d <;> exact h) (meets_mk ?_) ?_)
          · exact HB.out
          ((repeat (refine wpReads_step (fun K hK => ?_); go_simp; (first | (refine hK _ ?_; clear hK K) | (apply Exists.intro; refine ⟨fun _ => rfl, hK _ ?_⟩; clear hK K)))); refine wpReads_nil ?_; intro J hJ; go_simp)
          refine (unhide HI2 _ ?_ ?_).mono ?_
          · exact HD.out
          · exact HT.out
          rintro e w4 ⟨ho4, rfl⟩
          exact ⟨rfl, HO.out.step (Only.step (by exact (by repeat (first | exact Only.refl _ _ | assumption | refine Only.set ?_ (by first | exact Or.inl rfl | (right; dsimp only; omega)) _ | refine Only.alloc ?_ _ | refine Only.drewN ?_ _ | refine Only.drew ?_))) ho4), by rw [HE2.out] <;> exact rfl⟩
      | ok T q =>
        rw [hit] at HI2 hfi
        have HF : Hid (k < q ∧ q ≤ s.size) := hid_mk (by have := hfi.1; have := hfi.2; simp at *; omega)
        have HE3 := hid_mk (HE.out.trans (itemsOf_next HS.out hit))
        clear hit hfi HE HS HI
        rcases hc93 with rfl | ⟨rfl, hc⟩
        · go_wp2_with fail
          (have hq0 : ∀ p : InB (fun x => Blk x (w.heap.size + 1) #[.int .u64 ((S).a.toNat : Int), .int .u64 ((S).b.toNat : Int), .int .u64 ((S).c.toNat : Int), .int .u64 ((S).d.toNat : Int)] 25), p.w.cell? ⟨w.heap.size + 1, 0, none⟩ = some (.int .u64 ((S).a.toNat : Int)) := fun p => p.ok.cell 0; have hq1 : ∀ p : InB (fun x => Blk x (w.heap.size + 1) #[.int .u64 ((S).a.toNat : Int), .int .u64 ((S).b.toNat : Int), .int .u64 ((S).c.toNat : Int), .int .u64 ((S).d.toNat : Int)] 25), p.w.cell? ⟨w.heap.size + 1, 1, none⟩ = some (.int .u64 ((S).b.toNat : Int)) := fun p => p.ok.cell 1; have hq2 : ∀ p : InB (fun x => Blk x (w.heap.size + 1) #[.int .u64 ((S).a.toNat : Int), .int .u64 ((S).b.toNat : Int), .int .u64 ((S).c.toNat : Int), .int .u64 ((S).d.toNat : Int)] 25), p.w.cell? ⟨w.heap.size + 1, 2, none⟩ = some (.int .u64 ((S).c.toNat : Int)) := fun p => p.ok.cell 2; have hq3 : ∀ p : InB (fun x => Blk x (w.heap.size + 1) #[.int .u64 ((S).a.toNat : Int), .int .u64 ((S).b.toNat : Int), .int .u64 ((S).c.toNat : Int), .int .u64 ((S).d.toNat : Int)] 25), p.w.cell? ⟨w.heap.size + 1, 3, none⟩ = some (.int .u64 ((S).d.toNat : Int)) := fun p => p.ok.cell 3)
          (refine region_lead (S := Meets (fun x => Blk x (w.heap.size + 1) #[.int .u64 ((S).a.toNat : Int), .int .u64 ((S).b.toNat : Int), .int .u64 ((S).c.toNat : Int), .int .u64 ((S).d.toNat : Int)] 25)) 2 3 [0, 1] _ [_, _] (by kernel_rfl) (by kernel_rfl) rfl rfl (fun d v c a w h => by cases d <;> exact h) (meets_mk ?_) ?_)
          · exact HB.out
          ((repeat (refine wpReads_step (fun K hK => ?_); go_simp; (first | (refine hK _ ?_; clear hK K) | (apply Exists.intro; refine ⟨fun _ => rfl, hK _ ?_⟩; clear hK K)))); refine wpReads_nil ?_; intro J hJ; go_simp)
          refine (unhide HI2 _ ?_ ?_).mono ?_
          · exact HD.out
          · exact HT.out
          rintro e w4 ⟨ho4, rfl, hd4⟩
          have hb4 := ho4.blk (by omega) HB.out
          refine hJ _ _ (meets_mk hb4) ?_
          clear hJ
          have HB14 := hid_mk (ho4.blk (by omega) HB1.out)
          have HO4 := hid_mk (HO.out.step (Only.step (by exact (by repeat (first | exact Only.refl _ _ | assumption | refine Only.set ?_ (by first | exact Or.inl rfl | (right; dsimp only; omega)) _ | refine Only.alloc ?_ _ | refine Only.drewN ?_ _ | refine Only.drew ?_))) ho4))
          have HD4 := hid_mk hd4
          have HB4 := hid_mk hb4
          have HT4 := hid_mk (HT.out.only (rb := rb) (Only.step (by exact (by repeat (first | exact Only.refl _ _ | assumption | refine Only.set ?_ (by first | exact Or.inl rfl | (right; dsimp only; omega)) _ | refine Only.alloc ?_ _ | refine Only.drewN ?_ _ | refine Only.drew ?_))) ho4) hr)
          clear hb4 hd4 ho4
          go_wp2_with fail
          refine (or_any S T _).mono ?_
          rintro e w5 ⟨rfl, hb5⟩
          have hb6 := HB4.out.call hb5
          have HD5 := hid_mk (HD4.out.call hb5)
          have HO5 := hid_mk (HO4.out.call hb5)
          have HB15 := hid_mk (HB14.out.call hb5)
          have HT5 := hid_mk (HT4.out.below hb5)
          (have t0 : w5.cell? ⟨(w.heap.size + 1), 0, none⟩ = some (.int .u64 ((S).a.toNat : Int)) := hb6.cell 0; have t1 : w5.cell? ⟨(w.heap.size + 1), 1, none⟩ = some (.int .u64 ((S).b.toNat : Int)) := hb6.cell 1; have t2 : w5.cell? ⟨(w.heap.size + 1), 2, none⟩ = some (.int .u64 ((S).c.toNat : Int)) := hb6.cell 2; have t3 : w5.cell? ⟨(w.heap.size + 1), 3, none⟩ = some (.int .u64 ((S).d.toNat : Int)) := hb6.cell 3; have tf : ∀ i, w5.frozen? ⟨(w.heap.size + 1), i, none⟩ = false := hb6.frozen)
          have HB5 := hid_mk hb6
          clear hb6 hb5
          go_wp2
          have HD6 : RD s rb q op ((((w5.setCell ⟨w.heap.size + 1, 0, none⟩ (.int .u64 ((S.or T).a.toNat : Int))).setCell ⟨w.heap.size + 1, 1, none⟩ (.int .u64 ((S.or T).b.toNat : Int))).setCell ⟨w.heap.size + 1, 2, none⟩ (.int .u64 ((S.or T).c.toNat : Int))).setCell ⟨w.heap.size + 1, 3, none⟩ (.int .u64 ((S.or T).d.toNat : Int))) := (by (try unfold RD); (repeat (first | with_reducible refine Blk.far ?_ (by dsimp only; omega) _ | with_reducible refine Blk.alloc ?_ _ | with_reducible refine Blk.drewN ?_ _)); exact HD5.out)
          have hF := HF.out
          have ho := HO5.out
          refine ⟨⟨false, S.or T, q, f', rfl, Blk.is ((((HB5.out.put 0 _).put 1 _).put 2 _).put 3 _) rfl, (by (try unfold RD); (repeat (first | with_reducible refine Blk.far ?_ (by dsimp only; omega) _ | with_reducible refine Blk.alloc ?_ _ | with_reducible refine Blk.drewN ?_ _)); exact HB15.out), HD6, (by repeat (first | with_reducible exact Only.refl _ _ | with_reducible assumption | with_reducible refine Only.set ?_ (by first | exact Or.inl rfl | (right; dsimp only; omega)) _ | with_reducible refine Only.alloc ?_ _ | with_reducible refine Only.drewN ?_ _ | with_reducible refine Only.drew ?_)), HT5.out.only (rb := w.heap.size + 1) (by repeat (first | with_reducible exact Only.refl _ _ | with_reducible assumption | with_reducible refine Only.set ?_ (by first | exact Or.inl rfl | (right; dsimp only; omega)) _ | with_reducible refine Only.alloc ?_ _ | with_reducible refine Only.drewN ?_ _ | with_reducible refine Only.drew ?_)) (by have := HT5.out.2; have := HTW.out; omega), hF.2, by omega, HE3.out⟩, ?_⟩
          rw [posOf_eq HD6, HPO.out]
          omega
        · go_wp2_with fail
          refine (unhide HP 0).mono ?_
          rintro e w1 ⟨rfl, m2, rfl⟩
          go_wp2_with fail
          (have hq0 : ∀ p : InB (fun x => Blk x (w.heap.size + 1) #[.int .u64 ((S).a.toNat : Int), .int .u64 ((S).b.toNat : Int), .int .u64 ((S).c.toNat : Int), .int .u64 ((S).d.toNat : Int)] 25), p.w.cell? ⟨w.heap.size + 1, 0, none⟩ = some (.int .u64 ((S).a.toNat : Int)) := fun p => p.ok.cell 0; have hq1 : ∀ p : InB (fun x => Blk x (w.heap.size + 1) #[.int .u64 ((S).a.toNat : Int), .int .u64 ((S).b.toNat : Int), .int .u64 ((S).c.toNat : Int), .int .u64 ((S).d.toNat : Int)] 25), p.w.cell? ⟨w.heap.size + 1, 1, none⟩ = some (.int .u64 ((S).b.toNat : Int)) := fun p => p.ok.cell 1; have hq2 : ∀ p : InB (fun x => Blk x (w.heap.size + 1) #[.int .u64 ((S).a.toNat : Int), .int .u64 ((S).b.toNat : Int), .int .u64 ((S).c.toNat : Int), .int .u64 ((S).d.toNat : Int)] 25), p.w.cell? ⟨w.heap.size + 1, 2, none⟩ = some (.int .u64 ((S).c.toNat : Int)) := fun p => p.ok.cell 2; have hq3 : ∀ p : InB (fun x => Blk x (w.heap.size + 1) #[.int .u64 ((S).a.toNat : Int), .int .u64 ((S).b.toNat : Int), .int .u64 ((S).c.toNat : Int), .int .u64 ((S).d.toNat : Int)] 25), p.w.cell? ⟨w.heap.size + 1, 3, none⟩ = some (.int .u64 ((S).d.toNat : Int)) := fun p => p.ok.cell 3)
          (refine region_lead (S := Meets (fun x => Blk x (w.heap.size + 1) #[.int .u64 ((S).a.toNat : Int), .int .u64 ((S).b.toNat : Int), .int .u64 ((S).c.toNat : Int), .int .u64 ((S).d.toNat : Int)] 25)) 2 3 [0, 1] _ [_, _] (by kernel_rfl) (by kernel_rfl) rfl rfl (fun d v c a w h => by cases d <;> exact h) (meets_mk ?_) ?_)
          · exact HB.out
          ((repeat (refine wpReads_step (fun K hK => ?_); go_simp; (first | (refine hK _ ?_; clear hK K) | (apply Exists.intro; refine ⟨fun _ => rfl, hK _ ?_⟩; clear hK K)))); refine wpReads_nil ?_; intro J hJ; go_simp)
          refine (unhide HI2 _ ?_ ?_).mono ?_
          · exact HD.out
          · exact HT.out
          rintro e w4 ⟨ho4, rfl, hd4⟩
          have hb4 := ho4.blk (by omega) HB.out
          refine hJ _ _ (meets_mk hb4) ?_
          clear hJ
          have HB14 := hid_mk (ho4.blk (by omega) HB1.out)
          have HO4 := hid_mk (HO.out.step (Only.step (by exact (by repeat (first | exact Only.refl _ _ | assumption | refine Only.set ?_ (by first | exact Or.inl rfl | (right; dsimp only; omega)) _ | refine Only.alloc ?_ _ | refine Only.drewN ?_ _ | refine Only.drew ?_))) ho4))
          have HD4 := hid_mk hd4
          have HB4 := hid_mk hb4
          have HT4 := hid_mk (HT.out.only (rb := rb) (Only.step (by exact (by repeat (first | exact Only.refl _ _ | assumption | refine Only.set ?_ (by first | exact Or.inl rfl | (right; dsimp only; omega)) _ | refine Only.alloc ?_ _ | refine Only.drewN ?_ _ | refine Only.drew ?_))) ho4) hr)
          clear hb4 hd4 ho4
          go_wp2_with fail
          refine (or_any S T _).mono ?_
          rintro e w5 ⟨rfl, hb5⟩
          have hb6 := HB4.out.call hb5
          have HD5 := hid_mk (HD4.out.call hb5)
          have HO5 := hid_mk (HO4.out.call hb5)
          have HB15 := hid_mk (HB14.out.call hb5)
          have HT5 := hid_mk (HT4.out.below hb5)
          (have t0 : w5.cell? ⟨(w.heap.size + 1), 0, none⟩ = some (.int .u64 ((S).a.toNat : Int)) := hb6.cell 0; have t1 : w5.cell? ⟨(w.heap.size + 1), 1, none⟩ = some (.int .u64 ((S).b.toNat : Int)) := hb6.cell 1; have t2 : w5.cell? ⟨(w.heap.size + 1), 2, none⟩ = some (.int .u64 ((S).c.toNat : Int)) := hb6.cell 2; have t3 : w5.cell? ⟨(w.heap.size + 1), 3, none⟩ = some (.int .u64 ((S).d.toNat : Int)) := hb6.cell 3; have tf : ∀ i, w5.frozen? ⟨(w.heap.size + 1), i, none⟩ = false := hb6.frozen)
          have HB5 := hid_mk hb6
          clear hb6 hb5
          go_wp2
          have HD6 : RD s rb q op ((((w5.setCell ⟨w.heap.size + 1, 0, none⟩ (.int .u64 ((S.or T).a.toNat : Int))).setCell ⟨w.heap.size + 1, 1, none⟩ (.int .u64 ((S.or T).b.toNat : Int))).setCell ⟨w.heap.size + 1, 2, none⟩ (.int .u64 ((S.or T).c.toNat : Int))).setCell ⟨w.heap.size + 1, 3, none⟩ (.int .u64 ((S.or T).d.toNat : Int))) := (by (try unfold RD); (repeat (first | with_reducible refine Blk.far ?_ (by dsimp only; omega) _ | with_reducible refine Blk.alloc ?_ _ | with_reducible refine Blk.drewN ?_ _)); exact HD5.out)
          have hF := HF.out
          have ho := HO5.out
          refine ⟨⟨false, S.or T, q, f', rfl, Blk.is ((((HB5.out.put 0 _).put 1 _).put 2 _).put 3 _) rfl, (by (try unfold RD); (repeat (first | with_reducible refine Blk.far ?_ (by dsimp only; omega) _ | with_reducible refine Blk.alloc ?_ _ | with_reducible refine Blk.drewN ?_ _)); exact HB15.out), HD6, (by repeat (first | with_reducible exact Only.refl _ _ | with_reducible assumption | with_reducible refine Only.set ?_ (by first | exact Or.inl rfl | (right; dsimp only; omega)) _ | with_reducible refine Only.alloc ?_ _ | with_reducible refine Only.drewN ?_ _ | with_reducible refine Only.drew ?_)), HT5.out.only (rb := w.heap.size + 1) (by repeat (first | with_reducible exact Only.refl _ _ | with_reducible assumption | with_reducible refine Only.set ?_ (by first | exact Or.inl rfl | (right; dsimp only; omega)) _ | with_reducible refine Only.alloc ?_ _ | with_reducible refine Only.drewN ?_ _ | with_reducible refine Only.drew ?_)) (by have := HT5.out.2; have := HTW.out; omega), hF.2, by omega, HE3.out⟩, ?_⟩
          rw [posOf_eq HD6, HPO.out]
          omega
theorem class_false (s : ByteArray) (rb i op : Nat) (w : World) (h : RD s rb i op w) (hs : s.size ≤ 1000) (hi : i ≤ s.size) (hT : TabW w) (hr : 0 ≠ rb) (hnt : decide (Rx.pk s.data.toList i = 94) = false) :
    Calls Tryd.prog 62 #[.pointer (some ⟨rb, 0, none⟩)] w (RetSet s rb op (Rx.cls s.data.toList i) w) := by
  have hl : rb < w.heap.size := h.lt
  have HC := hid_mk (cls_eq s.data.toList i _ hnt)
  have HR := hide (fun a h => peek_any s rb i op a h hs (by omega))
  have HPK := hide (fun k (hk : k ≤ s.size) a h => peek_any s rb k op a h hs (by omega))
  have HIT := hide (fun k (hk : k ≤ s.size) a h hT => item_any s rb k op a h hs hk hT hr)
  have hbd := pk_bd s.data.toList i
  have hA := wcls_rd h 0
  unfold wcls at hA
  simp only [World.drewN_zero] at hA
  (have h0 : ((w.alloc (.cells #[.int .u64 0, .int .u64 0, .int .u64 0, .int .u64 0] 25)).alloc (.cells #[.int .u64 0, .int .u64 0, .int .u64 0, .int .u64 0] 25)).cell? ⟨rb, 0, none⟩ = some (.string s) := hA.cell 0; have h1 : ((w.alloc (.cells #[.int .u64 0, .int .u64 0, .int .u64 0, .int .u64 0] 25)).alloc (.cells #[.int .u64 0, .int .u64 0, .int .u64 0, .int .u64 0] 25)).cell? ⟨rb, 1, none⟩ = some (.int .i64 ((i : Nat) : Int)) := hA.cell 1; have h2 : ((w.alloc (.cells #[.int .u64 0, .int .u64 0, .int .u64 0, .int .u64 0] 25)).alloc (.cells #[.int .u64 0, .int .u64 0, .int .u64 0, .int .u64 0] 25)).cell? ⟨rb, 2, none⟩ = some (.int .i64 ((op : Nat) : Int)) := hA.cell 2; have hf : ∀ i, ((w.alloc (.cells #[.int .u64 0, .int .u64 0, .int .u64 0, .int .u64 0] 25)).alloc (.cells #[.int .u64 0, .int .u64 0, .int .u64 0, .int .u64 0] 25)).frozen? ⟨rb, i, none⟩ = false := hA.frozen)
  have HD0 := hid_mk h
  have HT0 := hid_mk hT
  have HTW := hid_mk hT.2
  have HA := hid_mk hA
  clear h hT hA
  have h94 : ¬ Rx.pk s.data.toList i = 94 := of_decide_eq_false hnt
  rw [if_neg Bool.false_ne_true] at HC
  clear hnt
  obtain ⟨R, hR⟩ : ∃ R, R = itemsOf s.data.toList i true CSet.empty (s.data.toList.length + 1) := ⟨_, rfl⟩
  rw [← hR] at HC
  have HC2 : Hid (Rx.cls s.data.toList i = clsOf false R) := HC
  rw [len_data] at hR
  have HRR := hid_mk hR
  clear hR
  generalize Rx.pk s.data.toList i = c at HR h94 hbd
  have hc94 : (c == 94) = false := by simpa using h94
  clear h94
  go_enter Tryd.func62, Tryd.ntmps62
  go_wp2_with fail
  refine (unhide HR _ HA.out).mono ?_
  rintro e w1 ⟨rfl, m1, rfl⟩
  go_wp2_with fail
  change Code.wp _ _ _ _ (wcls w m1)
  have hW1 := wcls_b1 w m1
  have hW2 := wcls_b2 w m1
  have hW3 : Only rb w (wcls w m1) := wcls_only rb _ m1
  have hW4 := wcls_rd HD0.out m1
  have hW5 : TabW (wcls w m1) := HT0.out.only hW3 hr
  have HK : Hid (i ≤ s.size ∧ s.size < i + (s.size + 1)) := hid_mk ⟨by omega, by omega⟩
  generalize wcls w m1 = W0 at *
  have HW1 := hid_mk hW1
  have HW2 := hid_mk hW2
  have HW3 := hid_mk hW3
  have HW4 := hid_mk hW4
  have HW5 := hid_mk hW5
  clear hW1 hW2 hW3 hW4 hW5
  clear h0 h1 h2 hf
  go_loopw [5] (fun v wr => ClsAt s rb op (w.heap.size + 1) w R v wr) (fun _ wr => s.size - posOf rb wr)
  case atStart => exact ⟨true, CSet.empty, _, _, rfl, HW2.out, HW1.out, HW4.out, HW3.out, HW5.out, HK.out.1, HK.out.2, HRR.out⟩
  case round =>
    clear HK HRR HW1 HW2 HW3 HW4 HW5 HR
    obtain ⟨fst, S, k, f, rfl, hb, hb1, hd, ho, ht, hk, hf, he⟩ := hrel
    have HP := hide (fun m => unhide HPK k hk (wr.drewN m) hd)
    have hposr := posOf_eq hd
    (have g0 : wr.cell? ⟨rb, 0, none⟩ = some (.string s) := hd.cell 0; have g1 : wr.cell? ⟨rb, 1, none⟩ = some (.int .i64 ((k : Nat) : Int)) := hd.cell 1; have g2 : wr.cell? ⟨rb, 2, none⟩ = some (.int .i64 ((op : Nat) : Int)) := hd.cell 2; have gf : ∀ i, wr.frozen? ⟨rb, i, none⟩ = false := hd.frozen)
    (have z0 : wr.cell? ⟨(w.heap.size + 1), 0, none⟩ = some (.int .u64 ((S).a.toNat : Int)) := hb.cell 0; have z1 : wr.cell? ⟨(w.heap.size + 1), 1, none⟩ = some (.int .u64 ((S).b.toNat : Int)) := hb.cell 1; have z2 : wr.cell? ⟨(w.heap.size + 1), 2, none⟩ = some (.int .u64 ((S).c.toNat : Int)) := hb.cell 2; have z3 : wr.cell? ⟨(w.heap.size + 1), 3, none⟩ = some (.int .u64 ((S).d.toNat : Int)) := hb.cell 3; have zf : ∀ i, wr.frozen? ⟨(w.heap.size + 1), i, none⟩ = false := hb.frozen)
    (have y0 : wr.cell? ⟨w.heap.size, 0, none⟩ = some (.int .u64 0) := hb1.cell 0; have y1 : wr.cell? ⟨w.heap.size, 1, none⟩ = some (.int .u64 0) := hb1.cell 1; have y2 : wr.cell? ⟨w.heap.size, 2, none⟩ = some (.int .u64 0) := hb1.cell 2; have y3 : wr.cell? ⟨w.heap.size, 3, none⟩ = some (.int .u64 0) := hb1.cell 3; have yf : ∀ i, wr.frozen? ⟨w.heap.size, i, none⟩ = false := hb1.frozen)
    have HB := hid_mk hb
    have HB1 := hid_mk hb1
    have HD := hid_mk hd
    have HO := hid_mk ho
    have HT := hid_mk ht
    have HE := hid_mk he
    have HPO := hid_mk hposr
    have hbk := pk_bd s.data.toList k
    clear hb hb1 hd ho ht he hposr
    have hzz : w.heap.size + 1 < wr.heap.size := HB.out.lt
    by_cases hstop : fst = false ∧ Rx.pk s.data.toList k = 93
    · obtain ⟨rfl, h93⟩ := hstop
      have HE2 := hid_mk (cls_done HC2.out (HE.out.trans (itemsOf_stop h93)))
      rw [h93] at HP
      clear HE h93 hbk
      go_wp2_with fail
      refine (unhide HP 0).mono ?_
      rintro e w1 ⟨rfl, m2, rfl⟩
      have hb1x := (HB1.out.far (p := ⟨rb, 1, none⟩) (by dsimp only; omega) (.int .i64 ((k : Int) + 1))).drewN m2
      have HBx := hid_mk ((HB.out.far (p := ⟨rb, 1, none⟩) (by dsimp only; omega) (.int .i64 ((k : Int) + 1))).drewN m2)
      have HDx := hid_mk (RD.drewN (RD.next HD.out) m2)
      have HOx : Hid (Only rb w ((wr.setCell ⟨rb, 1, none⟩ (.int .i64 ((k : Int) + 1))).drewN m2)) := hid_mk ((HO.out.set (Or.inl rfl) _).drewN m2)
      have HB1x := hid_mk hb1x
      clear hb1x
      go_wp2
      refine bodyPost_ret (v := .agg #[.int .u64 ((S).a.toNat : Int), .int .u64 ((S).b.toNat : Int), .int .u64 ((S).c.toNat : Int), .int .u64 ((S).d.toNat : Int)]) (by simp [results, Tryd.results62, go_sem, y0, y1, y2, y3, hzz]) rfl ⟨by have ho := HO.out; exact (by repeat (first | with_reducible exact Only.refl _ _ | with_reducible assumption | with_reducible refine Only.set ?_ (by first | exact Or.inl rfl | (right; dsimp only; omega)) _ | with_reducible refine Only.alloc ?_ _ | with_reducible refine Only.drewN ?_ _ | with_reducible refine Only.drew ?_)), ?_⟩
      rw [HE2.out]
      exact ⟨rfl, (by (try unfold RD); (repeat (first | with_reducible refine Blk.far ?_ (by dsimp only; omega) _ | with_reducible refine Blk.alloc ?_ _ | with_reducible refine Blk.drewN ?_ _)); exact HDx.out)⟩
    · have hf1 : ∃ f', f = f' + 1 := ⟨f - 1, by omega⟩
      obtain ⟨f', rfl⟩ := hf1
      have hfi := fine_item s.data.toList k
      have HS := hid_mk hstop
      have HI := hide (fun m => unhide HIT k hk (wr.drewN m) HD.out HT.out)
      have hgo : ∃ m : Nat, m = 0 := ⟨0, rfl⟩
      have hc93 : fst = true ∨ (fst = false ∧ ¬ Rx.pk s.data.toList k = 93) := by
        cases fst with
        | true => exact Or.inl rfl
        | false => exact Or.inr ⟨rfl, fun h => HS.out ⟨rfl, h⟩⟩
      clear hstop
      have HI2 := hide (fun a hd ht => unhide HIT k hk a hd ht)
      generalize hpk : Rx.pk s.data.toList k = c at HP hc93 hbk
      clear hpk
      cases hit : Rx.item s.data.toList k with
      | out => rw [hit] at hfi; exact hfi.elim
      | bad e q =>
        rw [hit] at HI2
        have HE2 := hid_mk (cls_fail HC2.out (HE.out.trans (itemsOf_bad HS.out hit)))
        clear hit hfi HE HS HI HC2
        rcases hc93 with rfl | ⟨rfl, hc⟩
        · go_wp2_with fail
          (have hq0 : ∀ p : InB (fun x => Blk x (w.heap.size + 1) #[.int .u64 ((S).a.toNat : Int), .int .u64 ((S).b.toNat : Int), .int .u64 ((S).c.toNat : Int), .int .u64 ((S).d.toNat : Int)] 25), p.w.cell? ⟨w.heap.size + 1, 0, none⟩ = some (.int .u64 ((S).a.toNat : Int)) := fun p => p.ok.cell 0; have hq1 : ∀ p : InB (fun x => Blk x (w.heap.size + 1) #[.int .u64 ((S).a.toNat : Int), .int .u64 ((S).b.toNat : Int), .int .u64 ((S).c.toNat : Int), .int .u64 ((S).d.toNat : Int)] 25), p.w.cell? ⟨w.heap.size + 1, 1, none⟩ = some (.int .u64 ((S).b.toNat : Int)) := fun p => p.ok.cell 1; have hq2 : ∀ p : InB (fun x => Blk x (w.heap.size + 1) #[.int .u64 ((S).a.toNat : Int), .int .u64 ((S).b.toNat : Int), .int .u64 ((S).c.toNat : Int), .int .u64 ((S).d.toNat : Int)] 25), p.w.cell? ⟨w.heap.size + 1, 2, none⟩ = some (.int .u64 ((S).c.toNat : Int)) := fun p => p.ok.cell 2; have hq3 : ∀ p : InB (fun x => Blk x (w.heap.size + 1) #[.int .u64 ((S).a.toNat : Int), .int .u64 ((S).b.toNat : Int), .int .u64 ((S).c.toNat : Int), .int .u64 ((S).d.toNat : Int)] 25), p.w.cell? ⟨w.heap.size + 1, 3, none⟩ = some (.int .u64 ((S).d.toNat : Int)) := fun p => p.ok.cell 3)
          (refine region_lead (S := Meets (fun x => Blk x (w.heap.size + 1) #[.int .u64 ((S).a.toNat : Int), .int .u64 ((S).b.toNat : Int), .int .u64 ((S).c.toNat : Int), .int .u64 ((S).d.toNat : Int)] 25)) 2 3 [0, 1] _ [_, _] (by kernel_rfl) (by kernel_rfl) rfl rfl (fun d v c a w h => by cases d <;> exact h) (meets_mk ?_) ?_)
          · exact HB.out
          ((repeat (refine wpReads_step (fun K hK => ?_); go_simp; (first | (refine hK _ ?_; clear hK K) | (apply Exists.intro; refine ⟨fun _ => rfl, hK _ ?_⟩; clear hK K)))); refine wpReads_nil ?_; intro J hJ; go_simp)
          refine (unhide HI2 _ ?_ ?_).mono ?_
          · exact HD.out
          · exact HT.out
          rintro e w4 ⟨ho4, rfl⟩
          exact ⟨rfl, HO.out.step (Only.step (by exact (by repeat (first | exact Only.refl _ _ | assumption | refine Only.set ?_ (by first | exact Or.inl rfl | (right; dsimp only; omega)) _ | refine Only.alloc ?_ _ | refine Only.drewN ?_ _ | refine Only.drew ?_))) ho4), by rw [HE2.out] <;> exact rfl⟩
        · go_wp2_with fail
          refine (unhide HP 0).mono ?_
          rintro e w1 ⟨rfl, m2, rfl⟩
          go_wp2_with fail
          (have hq0 : ∀ p : InB (fun x => Blk x (w.heap.size + 1) #[.int .u64 ((S).a.toNat : Int), .int .u64 ((S).b.toNat : Int), .int .u64 ((S).c.toNat : Int), .int .u64 ((S).d.toNat : Int)] 25), p.w.cell? ⟨w.heap.size + 1, 0, none⟩ = some (.int .u64 ((S).a.toNat : Int)) := fun p => p.ok.cell 0; have hq1 : ∀ p : InB (fun x => Blk x (w.heap.size + 1) #[.int .u64 ((S).a.toNat : Int), .int .u64 ((S).b.toNat : Int), .int .u64 ((S).c.toNat : Int), .int .u64 ((S).d.toNat : Int)] 25), p.w.cell? ⟨w.heap.size + 1, 1, none⟩ = some (.int .u64 ((S).b.toNat : Int)) := fun p => p.ok.cell 1; have hq2 : ∀ p : InB (fun x => Blk x (w.heap.size + 1) #[.int .u64 ((S).a.toNat : Int), .int .u64 ((S).b.toNat : Int), .int .u64 ((S).c.toNat : Int), .int .u64 ((S).d.toNat : Int)] 25), p.w.cell? ⟨w.heap.size + 1, 2, none⟩ = some (.int .u64 ((S).c.toNat : Int)) := fun p => p.ok.cell 2; have hq3 : ∀ p : InB (fun x => Blk x (w.heap.size + 1) #[.int .u64 ((S).a.toNat : Int), .int .u64 ((S).b.toNat : Int), .int .u64 ((S).c.toNat : Int), .int .u64 ((S).d.toNat : Int)] 25), p.w.cell? ⟨w.heap.size + 1, 3, none⟩ = some (.int .u64 ((S).d.toNat : Int)) := fun p => p.ok.cell 3)
          (refine region_lead (S := Meets (fun x => Blk x (w.heap.size + 1) #[.int .u64 ((S).a.toNat : Int), .int .u64 ((S).b.toNat : Int), .int .u64 ((S).c.toNat : Int), .int .u64 ((S).d.toNat : Int)] 25)) 2 3 [0, 1] _ [_, _] (by kernel_rfl) (by kernel_rfl) rfl rfl (fun d v c a w h => by cases d <;> exact h) (meets_mk ?_) ?_)
          · exact HB.out
          ((repeat (refine wpReads_step (fun K hK => ?_); go_simp; (first | (refine hK _ ?_; clear hK K) | (apply Exists.intro; refine ⟨fun _ => rfl, hK _ ?_⟩; clear hK K)))); refine wpReads_nil ?_; intro J hJ; go_simp)
          refine (unhide HI2 _ ?_ ?_).mono ?_
          · exact HD.out
          · exact HT.out
          rintro e w4 ⟨ho4, rfl⟩
          exact ⟨rfl, HO.out.step (Only.step (by exact (by repeat (first | exact Only.refl _ _ | assumption | refine Only.set ?_ (by first | exact Or.inl rfl | (right; dsimp only; omega)) _ | refine Only.alloc ?_ _ | refine Only.drewN ?_ _ | refine Only.drew ?_))) ho4), by rw [HE2.out] <;> exact rfl⟩
      | ok T q =>
        rw [hit] at HI2 hfi
        have HF : Hid (k < q ∧ q ≤ s.size) := hid_mk (by have := hfi.1; have := hfi.2; simp at *; omega)
        have HE3 := hid_mk (HE.out.trans (itemsOf_next HS.out hit))
        clear hit hfi HE HS HI
        rcases hc93 with rfl | ⟨rfl, hc⟩
        · go_wp2_with fail
          (have hq0 : ∀ p : InB (fun x => Blk x (w.heap.size + 1) #[.int .u64 ((S).a.toNat : Int), .int .u64 ((S).b.toNat : Int), .int .u64 ((S).c.toNat : Int), .int .u64 ((S).d.toNat : Int)] 25), p.w.cell? ⟨w.heap.size + 1, 0, none⟩ = some (.int .u64 ((S).a.toNat : Int)) := fun p => p.ok.cell 0; have hq1 : ∀ p : InB (fun x => Blk x (w.heap.size + 1) #[.int .u64 ((S).a.toNat : Int), .int .u64 ((S).b.toNat : Int), .int .u64 ((S).c.toNat : Int), .int .u64 ((S).d.toNat : Int)] 25), p.w.cell? ⟨w.heap.size + 1, 1, none⟩ = some (.int .u64 ((S).b.toNat : Int)) := fun p => p.ok.cell 1; have hq2 : ∀ p : InB (fun x => Blk x (w.heap.size + 1) #[.int .u64 ((S).a.toNat : Int), .int .u64 ((S).b.toNat : Int), .int .u64 ((S).c.toNat : Int), .int .u64 ((S).d.toNat : Int)] 25), p.w.cell? ⟨w.heap.size + 1, 2, none⟩ = some (.int .u64 ((S).c.toNat : Int)) := fun p => p.ok.cell 2; have hq3 : ∀ p : InB (fun x => Blk x (w.heap.size + 1) #[.int .u64 ((S).a.toNat : Int), .int .u64 ((S).b.toNat : Int), .int .u64 ((S).c.toNat : Int), .int .u64 ((S).d.toNat : Int)] 25), p.w.cell? ⟨w.heap.size + 1, 3, none⟩ = some (.int .u64 ((S).d.toNat : Int)) := fun p => p.ok.cell 3)
          (refine region_lead (S := Meets (fun x => Blk x (w.heap.size + 1) #[.int .u64 ((S).a.toNat : Int), .int .u64 ((S).b.toNat : Int), .int .u64 ((S).c.toNat : Int), .int .u64 ((S).d.toNat : Int)] 25)) 2 3 [0, 1] _ [_, _] (by kernel_rfl) (by kernel_rfl) rfl rfl (fun d v c a w h => by cases d <;> exact h) (meets_mk ?_) ?_)
          · exact HB.out
          ((repeat (refine wpReads_step (fun K hK => ?_); go_simp; (first | (refine hK _ ?_; clear hK K) | (apply Exists.intro; refine ⟨fun _ => rfl, hK _ ?_⟩; clear hK K)))); refine wpReads_nil ?_; intro J hJ; go_simp)
          refine (unhide HI2 _ ?_ ?_).mono ?_
          · exact HD.out
          · exact HT.out
          rintro e w4 ⟨ho4, rfl, hd4⟩
          have hb4 := ho4.blk (by omega) HB.out
          refine hJ _ _ (meets_mk hb4) ?_
          clear hJ
          have HB14 := hid_mk (ho4.blk (by omega) HB1.out)
          have HO4 := hid_mk (HO.out.step (Only.step (by exact (by repeat (first | exact Only.refl _ _ | assumption | refine Only.set ?_ (by first | exact Or.inl rfl | (right; dsimp only; omega)) _ | refine Only.alloc ?_ _ | refine Only.drewN ?_ _ | refine Only.drew ?_))) ho4))
          have HD4 := hid_mk hd4
          have HB4 := hid_mk hb4
          have HT4 := hid_mk (HT.out.only (rb := rb) (Only.step (by exact (by repeat (first | exact Only.refl _ _ | assumption | refine Only.set ?_ (by first | exact Or.inl rfl | (right; dsimp only; omega)) _ | refine Only.alloc ?_ _ | refine Only.drewN ?_ _ | refine Only.drew ?_))) ho4) hr)
          clear hb4 hd4 ho4
          go_wp2_with fail
          refine (or_any S T _).mono ?_
          rintro e w5 ⟨rfl, hb5⟩
          have hb6 := HB4.out.call hb5
          have HD5 := hid_mk (HD4.out.call hb5)
          have HO5 := hid_mk (HO4.out.call hb5)
          have HB15 := hid_mk (HB14.out.call hb5)
          have HT5 := hid_mk (HT4.out.below hb5)
          (have t0 : w5.cell? ⟨(w.heap.size + 1), 0, none⟩ = some (.int .u64 ((S).a.toNat : Int)) := hb6.cell 0; have t1 : w5.cell? ⟨(w.heap.size + 1), 1, none⟩ = some (.int .u64 ((S).b.toNat : Int)) := hb6.cell 1; have t2 : w5.cell? ⟨(w.heap.size + 1), 2, none⟩ = some (.int .u64 ((S).c.toNat : Int)) := hb6.cell 2; have t3 : w5.cell? ⟨(w.heap.size + 1), 3, none⟩ = some (.int .u64 ((S).d.toNat : Int)) := hb6.cell 3; have tf : ∀ i, w5.frozen? ⟨(w.heap.size + 1), i, none⟩ = false := hb6.frozen)
          have HB5 := hid_mk hb6
          clear hb6 hb5
          go_wp2
          have HD6 : RD s rb q op ((((w5.setCell ⟨w.heap.size + 1, 0, none⟩ (.int .u64 ((S.or T).a.toNat : Int))).setCell ⟨w.heap.size + 1, 1, none⟩ (.int .u64 ((S.or T).b.toNat : Int))).setCell ⟨w.heap.size + 1, 2, none⟩ (.int .u64 ((S.or T).c.toNat : Int))).setCell ⟨w.heap.size + 1, 3, none⟩ (.int .u64 ((S.or T).d.toNat : Int))) := (by (try unfold RD); (repeat (first | with_reducible refine Blk.far ?_ (by dsimp only; omega) _ | with_reducible refine Blk.alloc ?_ _ | with_reducible refine Blk.drewN ?_ _)); exact HD5.out)
          have hF := HF.out
          have ho := HO5.out
          refine ⟨⟨false, S.or T, q, f', rfl, Blk.is ((((HB5.out.put 0 _).put 1 _).put 2 _).put 3 _) rfl, (by (try unfold RD); (repeat (first | with_reducible refine Blk.far ?_ (by dsimp only; omega) _ | with_reducible refine Blk.alloc ?_ _ | with_reducible refine Blk.drewN ?_ _)); exact HB15.out), HD6, (by repeat (first | with_reducible exact Only.refl _ _ | with_reducible assumption | with_reducible refine Only.set ?_ (by first | exact Or.inl rfl | (right; dsimp only; omega)) _ | with_reducible refine Only.alloc ?_ _ | with_reducible refine Only.drewN ?_ _ | with_reducible refine Only.drew ?_)), HT5.out.only (rb := w.heap.size + 1) (by repeat (first | with_reducible exact Only.refl _ _ | with_reducible assumption | with_reducible refine Only.set ?_ (by first | exact Or.inl rfl | (right; dsimp only; omega)) _ | with_reducible refine Only.alloc ?_ _ | with_reducible refine Only.drewN ?_ _ | with_reducible refine Only.drew ?_)) (by have := HT5.out.2; have := HTW.out; omega), hF.2, by omega, HE3.out⟩, ?_⟩
          rw [posOf_eq HD6, HPO.out]
          omega
        · go_wp2_with fail
          refine (unhide HP 0).mono ?_
          rintro e w1 ⟨rfl, m2, rfl⟩
          go_wp2_with fail
          (have hq0 : ∀ p : InB (fun x => Blk x (w.heap.size + 1) #[.int .u64 ((S).a.toNat : Int), .int .u64 ((S).b.toNat : Int), .int .u64 ((S).c.toNat : Int), .int .u64 ((S).d.toNat : Int)] 25), p.w.cell? ⟨w.heap.size + 1, 0, none⟩ = some (.int .u64 ((S).a.toNat : Int)) := fun p => p.ok.cell 0; have hq1 : ∀ p : InB (fun x => Blk x (w.heap.size + 1) #[.int .u64 ((S).a.toNat : Int), .int .u64 ((S).b.toNat : Int), .int .u64 ((S).c.toNat : Int), .int .u64 ((S).d.toNat : Int)] 25), p.w.cell? ⟨w.heap.size + 1, 1, none⟩ = some (.int .u64 ((S).b.toNat : Int)) := fun p => p.ok.cell 1; have hq2 : ∀ p : InB (fun x => Blk x (w.heap.size + 1) #[.int .u64 ((S).a.toNat : Int), .int .u64 ((S).b.toNat : Int), .int .u64 ((S).c.toNat : Int), .int .u64 ((S).d.toNat : Int)] 25), p.w.cell? ⟨w.heap.size + 1, 2, none⟩ = some (.int .u64 ((S).c.toNat : Int)) := fun p => p.ok.cell 2; have hq3 : ∀ p : InB (fun x => Blk x (w.heap.size + 1) #[.int .u64 ((S).a.toNat : Int), .int .u64 ((S).b.toNat : Int), .int .u64 ((S).c.toNat : Int), .int .u64 ((S).d.toNat : Int)] 25), p.w.cell? ⟨w.heap.size + 1, 3, none⟩ = some (.int .u64 ((S).d.toNat : Int)) := fun p => p.ok.cell 3)
          (refine region_lead (S := Meets (fun x => Blk x (w.heap.size + 1) #[.int .u64 ((S).a.toNat : Int), .int .u64 ((S).b.toNat : Int), .int .u64 ((S).c.toNat : Int), .int .u64 ((S).d.toNat : Int)] 25)) 2 3 [0, 1] _ [_, _] (by kernel_rfl) (by kernel_rfl) rfl rfl (fun d v c a w h => by cases d <;> exact h) (meets_mk ?_) ?_)
          · exact HB.out
          ((repeat (refine wpReads_step (fun K hK => ?_); go_simp; (first | (refine hK _ ?_; clear hK K) | (apply Exists.intro; refine ⟨fun _ => rfl, hK _ ?_⟩; clear hK K)))); refine wpReads_nil ?_; intro J hJ; go_simp)
          refine (unhide HI2 _ ?_ ?_).mono ?_
          · exact HD.out
          · exact HT.out
          rintro e w4 ⟨ho4, rfl, hd4⟩
          have hb4 := ho4.blk (by omega) HB.out
          refine hJ _ _ (meets_mk hb4) ?_
          clear hJ
          have HB14 := hid_mk (ho4.blk (by omega) HB1.out)
          have HO4 := hid_mk (HO.out.step (Only.step (by exact (by repeat (first | exact Only.refl _ _ | assumption | refine Only.set ?_ (by first | exact Or.inl rfl | (right; dsimp only; omega)) _ | refine Only.alloc ?_ _ | refine Only.drewN ?_ _ | refine Only.drew ?_))) ho4))
          have HD4 := hid_mk hd4
          have HB4 := hid_mk hb4
          have HT4 := hid_mk (HT.out.only (rb := rb) (Only.step (by exact (by repeat (first | exact Only.refl _ _ | assumption | refine Only.set ?_ (by first | exact Or.inl rfl | (right; dsimp only; omega)) _ | refine Only.alloc ?_ _ | refine Only.drewN ?_ _ | refine Only.drew ?_))) ho4) hr)
          clear hb4 hd4 ho4
          go_wp2_with fail
          refine (or_any S T _).mono ?_
          rintro e w5 ⟨rfl, hb5⟩
          have hb6 := HB4.out.call hb5
          have HD5 := hid_mk (HD4.out.call hb5)
          have HO5 := hid_mk (HO4.out.call hb5)
          have HB15 := hid_mk (HB14.out.call hb5)
          have HT5 := hid_mk (HT4.out.below hb5)
          (have t0 : w5.cell? ⟨(w.heap.size + 1), 0, none⟩ = some (.int .u64 ((S).a.toNat : Int)) := hb6.cell 0; have t1 : w5.cell? ⟨(w.heap.size + 1), 1, none⟩ = some (.int .u64 ((S).b.toNat : Int)) := hb6.cell 1; have t2 : w5.cell? ⟨(w.heap.size + 1), 2, none⟩ = some (.int .u64 ((S).c.toNat : Int)) := hb6.cell 2; have t3 : w5.cell? ⟨(w.heap.size + 1), 3, none⟩ = some (.int .u64 ((S).d.toNat : Int)) := hb6.cell 3; have tf : ∀ i, w5.frozen? ⟨(w.heap.size + 1), i, none⟩ = false := hb6.frozen)
          have HB5 := hid_mk hb6
          clear hb6 hb5
          go_wp2
          have HD6 : RD s rb q op ((((w5.setCell ⟨w.heap.size + 1, 0, none⟩ (.int .u64 ((S.or T).a.toNat : Int))).setCell ⟨w.heap.size + 1, 1, none⟩ (.int .u64 ((S.or T).b.toNat : Int))).setCell ⟨w.heap.size + 1, 2, none⟩ (.int .u64 ((S.or T).c.toNat : Int))).setCell ⟨w.heap.size + 1, 3, none⟩ (.int .u64 ((S.or T).d.toNat : Int))) := (by (try unfold RD); (repeat (first | with_reducible refine Blk.far ?_ (by dsimp only; omega) _ | with_reducible refine Blk.alloc ?_ _ | with_reducible refine Blk.drewN ?_ _)); exact HD5.out)
          have hF := HF.out
          have ho := HO5.out
          refine ⟨⟨false, S.or T, q, f', rfl, Blk.is ((((HB5.out.put 0 _).put 1 _).put 2 _).put 3 _) rfl, (by (try unfold RD); (repeat (first | with_reducible refine Blk.far ?_ (by dsimp only; omega) _ | with_reducible refine Blk.alloc ?_ _ | with_reducible refine Blk.drewN ?_ _)); exact HB15.out), HD6, (by repeat (first | with_reducible exact Only.refl _ _ | with_reducible assumption | with_reducible refine Only.set ?_ (by first | exact Or.inl rfl | (right; dsimp only; omega)) _ | with_reducible refine Only.alloc ?_ _ | with_reducible refine Only.drewN ?_ _ | with_reducible refine Only.drew ?_)), HT5.out.only (rb := w.heap.size + 1) (by repeat (first | with_reducible exact Only.refl _ _ | with_reducible assumption | with_reducible refine Only.set ?_ (by first | exact Or.inl rfl | (right; dsimp only; omega)) _ | with_reducible refine Only.alloc ?_ _ | with_reducible refine Only.drewN ?_ _ | with_reducible refine Only.drew ?_)) (by have := HT5.out.2; have := HTW.out; omega), hF.2, by omega, HE3.out⟩, ?_⟩
          rw [posOf_eq HD6, HPO.out]
          omega
theorem class_any (s : ByteArray) (rb i op : Nat) (w : World) (h : RD s rb i op w) (hs : s.size ≤ 1000) (hi : i ≤ s.size) (hT : TabW w) (hr : 0 ≠ rb) :
    Calls Tryd.prog 62 #[.pointer (some ⟨rb, 0, none⟩)] w (RetSet s rb op (Rx.cls s.data.toList i) w) := by
  cases hnt : decide (Rx.pk s.data.toList i = 94) with
  | true => exact class_true s rb i op w h hs hi hT hr hnt
  | false => exact class_false s rb i op w h hs hi hT hr hnt
end Go.Proofs.YthgcefppeaopkaaDoor
