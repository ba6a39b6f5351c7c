/- Walks over the pattern reader: items. -/
import Derived.Test.YthgcefppeaopkaaDoorReadW7
import Derived.Test.YthgcefppeaopkaaDoorReg
namespace Go.Proofs.YthgcefppeaopkaaDoor
open Go Go.RowKit Go.Sort
set_option maxRecDepth 100000
set_option linter.unusedSimpArgs false
set_option linter.unusedVariables false
set_option maxHeartbeats 1000000
def RetSet (s : ByteArray) (rb op : Nat) (r : Res CSet) (w : World) (x : Ending) (w' : World) : Prop :=
  Only rb w w' ∧ match r with
  | .ok S p => x = .returned (.agg #[.int .u64 ((S).a.toNat : Int), .int .u64 ((S).b.toNat : Int), .int .u64 ((S).c.toNat : Int), .int .u64 ((S).d.toNat : Int)]) ∧ RD s rb p op w'
  | .bad e p => x = .panicked (faultV e p)
  | .out => True
theorem first_one {n : Nat} (h : n < 256) : (CSet.between n n).first = n := by
  unfold CSet.first
  refine CSet.first_at _ 256 0 n (by omega) (by omega) ?_ (fun j _ hj => ?_)
  · rw [CSet.has_between n n n h h]; simp
  · rw [CSet.has_between n n j h (by omega)]; simp; omega
theorem esc_single {l : List UInt8} {i p : Nat} {S : CSet} (h : Rx.esc l i = .ok (S, false) p) : ∃ n, n < 256 ∧ S = CSet.between n n := by
  have hb := pkb l (i + 1)
  unfold Rx.esc at h
  split at h
  · cases h
  · split at h
    · cases h
    · split at h
      · cases h
      · split at h
        · split at h
          · cases h
          · split at h
            · cases h
            · split at h
              · cases h
              · split at h
                · cases h
                · obtain ⟨h', rfl⟩ := Res.ok.inj h
                  have h1 := hexv_bd (b := Rx.pk l (i + 2))
                  have h2 := hexv_bd (b := Rx.pk l (i + 3))
                  refine ⟨_, ?_, ((Prod.mk.inj h').1).symm⟩
                  omega
        · split at h
          · obtain ⟨h', rfl⟩ := Res.ok.inj h
            refine ⟨_, ?_, ((Prod.mk.inj h').1).symm⟩
            omega
          · cases h
theorem sign_single {l : List UInt8} {i p : Nat} {S : CSet} (h : Rx.sign l i = .ok (S, false) p) : ∃ n, n < 256 ∧ S = CSet.between n n := by
  have hb := pkb l i
  unfold Rx.sign at h
  split at h
  · exact esc_single h
  · split at h
    · unfold Rx.other at h; split at h <;> cases h
    · obtain ⟨h', rfl⟩ := Res.ok.inj h
      refine ⟨_, ?_, ((Prod.mk.inj h').1).symm⟩
      omega
theorem TabW.only {rb : Nat} {w w' : World} (h : TabW w) (ho : Only rb w w') (hr : 0 ≠ rb) : TabW w' :=
  ⟨fun j hj => (World.cell?_of_block (w := w) (ho.block _ h.2 hr)).trans (h.1 j hj), Nat.lt_of_lt_of_le h.2 ho.size⟩
theorem wset_tab {rb : Nat} {w : World} (h : TabW w) (hr : 0 ≠ rb) : TabW (wset w) := h.only (wset_only rb w 0) hr
theorem item_many (s : ByteArray) (rb i op : Nat) (w : World) (h : RD s rb i op w) (hs : s.size ≤ 1000) (hi : i ≤ s.size) (hc : ∀ S p, Rx.sign s.data.toList i = .ok (S, false) p → Rx.pk s.data.toList p ≠ 45) :
    Calls Tryd.prog 71 #[.pointer (some ⟨rb, 0, none⟩)] w (RetSet s rb op (Rx.item s.data.toList i) w) := by
  have HS := hide (sign_any s rb i op (wset w) (wset_rd h 0) hs hi)
  have hl : rb < w.heap.size := h.lt
  have hfi := fine_sign s.data.toList i
  clear h
  have HI : Hid (Rx.item s.data.toList i = _) := hid_mk (by unfold Rx.item; exact rfl)
  cases hr : Rx.sign s.data.toList i with
  | out => rw [hr] at hfi; exact hfi.elim
  | bad e p =>
    rw [hr] at HI HS
    have HE : Hid (Rx.item s.data.toList i = .bad e p) := HI
    rw [HE.out]
    clear hr hfi hc HI HE
    go_enter Tryd.func71, Tryd.ntmps71
    go_wp2_with fail
    refine (unhide HS).mono ?_
    rintro x w1 ⟨ho, rfl⟩
    exact ⟨rfl, (Only.refl rb w).via ho (wset_only rb w 0), rfl⟩
  | ok a p =>
    rw [hr] at HI HS hfi
    obtain ⟨S, many⟩ := a
    have hp : p ≤ s.size := by simpa using hfi.2
    have HE : Hid (Rx.item s.data.toList i = .ok S p) := hid_mk (by
      rw [HI.out]
      dsimp only
      cases many with
      | true => rw [if_pos (Or.inl rfl)]
      | false => rw [if_pos (Or.inr (hc S p hr))])
    rw [HE.out]
    clear hfi HI HE
    cases many with
    | true =>
      clear hr hc
      go_enter Tryd.func71, Tryd.ntmps71
      go_wp2_with fail
      refine (unhide HS).mono ?_
      rintro x w1 ⟨ho, rfl, hd⟩
      have hb1 := ho.blk (by omega) (wset_b w 0)
      (have z0 : w1.cell? ⟨w.heap.size, 0, none⟩ = some (.int .u64 0) := hb1.cell 0; have z1 : w1.cell? ⟨w.heap.size, 1, none⟩ = some (.int .u64 0) := hb1.cell 1; have z2 : w1.cell? ⟨w.heap.size, 2, none⟩ = some (.int .u64 0) := hb1.cell 2; have z3 : w1.cell? ⟨w.heap.size, 3, none⟩ = some (.int .u64 0) := hb1.cell 3; have zf : ∀ i, w1.frozen? ⟨w.heap.size, i, none⟩ = false := hb1.frozen)
      have hz1 : w.heap.size < w1.heap.size := hb1.lt
      have HO : Hid (Only rb w w1) := hid_mk ((wset_only rb w 0).step ho)
      have HD := hid_mk hd
      clear ho hd hb1
      go_wp2
      refine bodyPost_ret (v := .agg #[.int .u64 ((S).a.toNat : Int), .int .u64 ((S).b.toNat : Int), .int .u64 ((S).c.toNat : Int), .int .u64 ((S).d.toNat : Int)]) (by simp [results, Tryd.results71, go_sem, z0, z1, z2, z3, hz1]) rfl ⟨by have ho := HO.out; exact (by repeat (first | with_reducible exact Only.refl _ _ | with_reducible assumption | with_reducible refine Only.set ?_ (by first | exact Or.inl rfl | (right; dsimp only; omega)) _ | with_reducible refine Only.alloc ?_ _ | with_reducible refine Only.drewN ?_ _ | with_reducible refine Only.drew ?_)), rfl, ?_⟩
      exact (by (try unfold RD); (repeat (first | with_reducible refine Blk.far ?_ (by dsimp only; omega) _ | with_reducible refine Blk.alloc ?_ _ | with_reducible refine Blk.drewN ?_ _)); exact HD.out)
    | false =>
      have hc1 := hc S p hr
      have hbd := pk_bd s.data.toList p
      have HC := hid_mk hc1
      have HPK := hide (fun a h => peek_any s rb p op a h hs (by omega))
      clear hr hc
      generalize Rx.pk s.data.toList p = c at *
      go_enter Tryd.func71, Tryd.ntmps71
      go_wp2_with fail
      refine (unhide HS).mono ?_
      rintro x w1 ⟨ho, rfl, hd⟩
      have hb1 := ho.blk (by omega) (wset_b w 0)
      (have z0 : w1.cell? ⟨w.heap.size, 0, none⟩ = some (.int .u64 0) := hb1.cell 0; have z1 : w1.cell? ⟨w.heap.size, 1, none⟩ = some (.int .u64 0) := hb1.cell 1; have z2 : w1.cell? ⟨w.heap.size, 2, none⟩ = some (.int .u64 0) := hb1.cell 2; have z3 : w1.cell? ⟨w.heap.size, 3, none⟩ = some (.int .u64 0) := hb1.cell 3; have zf : ∀ i, w1.frozen? ⟨w.heap.size, i, none⟩ = false := hb1.frozen)
      have hz1 : w.heap.size < w1.heap.size := hb1.lt
      have HO : Hid (Only rb w w1) := hid_mk ((wset_only rb w 0).step ho)
      have HD := hid_mk hd
      clear ho hd hb1
      go_wp2_with fail
      refine (unhide HPK _ (by (try unfold RD); (repeat (first | with_reducible refine Blk.far ?_ (by dsimp only; omega) _ | with_reducible refine Blk.alloc ?_ _ | with_reducible refine Blk.drewN ?_ _)); exact HD.out)).mono ?_
      rintro x w2 ⟨rfl, m2, rfl⟩
      go_wp2
      refine bodyPost_ret (v := .agg #[.int .u64 ((S).a.toNat : Int), .int .u64 ((S).b.toNat : Int), .int .u64 ((S).c.toNat : Int), .int .u64 ((S).d.toNat : Int)]) (by simp [results, Tryd.results71, go_sem, z0, z1, z2, z3, hz1]) rfl ⟨by have ho := HO.out; exact (by repeat (first | with_reducible exact Only.refl _ _ | with_reducible assumption | with_reducible refine Only.set ?_ (by first | exact Or.inl rfl | (right; dsimp only; omega)) _ | with_reducible refine Only.alloc ?_ _ | with_reducible refine Only.drewN ?_ _ | with_reducible refine Only.drew ?_)), rfl, ?_⟩
      exact (by (try unfold RD); (repeat (first | with_reducible refine Blk.far ?_ (by dsimp only; omega) _ | with_reducible refine Blk.alloc ?_ _ | with_reducible refine Blk.drewN ?_ _)); exact HD.out)
theorem first_q (n : Nat) (hn : n < 256) (W : World) (d : Nat) (os : Array Obj) (hT : TabW (grow (redrawn W d) os)) :
    Calls Tryd.prog 84 #[.agg #[.int .u64 ((CSet.between n n).a.toNat : Int), .int .u64 ((CSet.between n n).b.toNat : Int), .int .u64 ((CSet.between n n).c.toNat : Int), .int .u64 ((CSet.between n n).d.toNat : Int)]] (grow (redrawn W d) os) (fun e w'' => e = .returned (.int .i64 (n : Nat)) ∧ ∃ p : Regrown, w'' = grow (redrawn W p.d) p.os) := by
  have h := first_any (CSet.between n n) (grow (redrawn W d) os) hT
  rw [first_one hn] at h
  exact regrown_call h
theorem item_two (s : ByteArray) (rb i op : Nat) (w : World) (h : RD s rb i op w) (hs : s.size ≤ 1000) (hi : i ≤ s.size) (hT : TabW w) (hr : 0 ≠ rb)
    (S : CSet) (p : Nat) (hc : Rx.sign s.data.toList i = .ok (S, false) p) (hp : Rx.pk s.data.toList p = 45) :
    Calls Tryd.prog 71 #[.pointer (some ⟨rb, 0, none⟩)] w (RetSet s rb op (Rx.item s.data.toList i) w) := by
  have HS := hide (sign_any s rb i op (wset w) (wset_rd h 0) hs hi)
  have hl : rb < w.heap.size := h.lt
  have HT := hid_mk (wset_tab hT hr)
  clear h hT
  have HI : Hid (Rx.item s.data.toList i = match Rx.sign s.data.toList (p + 1) with
      | .ok (T, more) q => if more = true ∨ T.first < S.first then .bad 2 (p + 1) else .ok (CSet.between S.first.toNat T.first.toNat) q
      | .bad e q => .bad e q
      | .out => .out) := hid_mk (by
    unfold Rx.item
    rw [hc]
    dsimp only
    rw [if_neg (by simp [hp])]
    exact rfl)
  obtain ⟨n, hn, rfl⟩ := sign_single hc
  rw [hc] at HS
  have hfi := fine_sign s.data.toList (p + 1)
  have HPK := hide (fun a h => peek_any s rb p op a h hs)
  have hlt : p < s.size := by simpa using pk_in (l := s.data.toList) (i := p) (by rw [hp]; decide)
  have HS2 := hide (fun a h => sign_any s rb (p + 1) op a h hs (by omega))
  rw [hp] at HPK
  rw [first_one hn] at HI
  clear hc hp
  go_enter Tryd.func71, Tryd.ntmps71
  go_wp2_with fail
  refine (unhide HS).mono ?_
  rintro x w1 ⟨ho, rfl, hd⟩
  have hb1 := ho.blk (by omega) (wset_b w 0)
  have ha : RD s rb p op (w1.alloc (.cells #[.int .u64 ((CSet.between n n).a.toNat : Int), .int .u64 ((CSet.between n n).b.toNat : Int), .int .u64 ((CSet.between n n).c.toNat : Int), .int .u64 ((CSet.between n n).d.toNat : Int)] 25)) := Blk.alloc hd _
  (have g0 : (w1.alloc (.cells #[.int .u64 ((CSet.between n n).a.toNat : Int), .int .u64 ((CSet.between n n).b.toNat : Int), .int .u64 ((CSet.between n n).c.toNat : Int), .int .u64 ((CSet.between n n).d.toNat : Int)] 25)).cell? ⟨rb, 0, none⟩ = some (.string s) := ha.cell 0; have g1 : (w1.alloc (.cells #[.int .u64 ((CSet.between n n).a.toNat : Int), .int .u64 ((CSet.between n n).b.toNat : Int), .int .u64 ((CSet.between n n).c.toNat : Int), .int .u64 ((CSet.between n n).d.toNat : Int)] 25)).cell? ⟨rb, 1, none⟩ = some (.int .i64 ((p : Nat) : Int)) := ha.cell 1; have g2 : (w1.alloc (.cells #[.int .u64 ((CSet.between n n).a.toNat : Int), .int .u64 ((CSet.between n n).b.toNat : Int), .int .u64 ((CSet.between n n).c.toNat : Int), .int .u64 ((CSet.between n n).d.toNat : Int)] 25)).cell? ⟨rb, 2, none⟩ = some (.int .i64 ((op : Nat) : Int)) := ha.cell 2; have gf : ∀ i, (w1.alloc (.cells #[.int .u64 ((CSet.between n n).a.toNat : Int), .int .u64 ((CSet.between n n).b.toNat : Int), .int .u64 ((CSet.between n n).c.toNat : Int), .int .u64 ((CSet.between n n).d.toNat : Int)] 25)).frozen? ⟨rb, i, none⟩ = false := ha.frozen)
  clear ha
  (have z0 : w1.cell? ⟨w.heap.size, 0, none⟩ = some (.int .u64 0) := hb1.cell 0; have z1 : w1.cell? ⟨w.heap.size, 1, none⟩ = some (.int .u64 0) := hb1.cell 1; have z2 : w1.cell? ⟨w.heap.size, 2, none⟩ = some (.int .u64 0) := hb1.cell 2; have z3 : w1.cell? ⟨w.heap.size, 3, none⟩ = some (.int .u64 0) := hb1.cell 3; have zf : ∀ i, w1.frozen? ⟨w.heap.size, i, none⟩ = false := hb1.frozen)
  have hz1 : w.heap.size < w1.heap.size := hb1.lt
  have HO : Hid (Only rb w w1) := hid_mk ((wset_only rb w 0).step ho)
  have HD := hid_mk hd
  have HTT := hid_mk (HT.out.only ho hr)
  have HZ := hid_mk hb1
  clear ho hd hb1
  go_wp2_with fail
  refine (unhide HPK _ (by (try unfold RD); (repeat (first | with_reducible refine Blk.far ?_ (by dsimp only; omega) _ | with_reducible refine Blk.alloc ?_ _ | with_reducible refine Blk.drewN ?_ _)); exact HD.out) (by omega)).mono ?_
  rintro x w2 ⟨rfl, m2, rfl⟩
  have HD2 : Hid (∀ m, RD s rb (p + 1) op (((w1.alloc (.cells #[.int .u64 ((CSet.between n n).a.toNat : Int), .int .u64 ((CSet.between n n).b.toNat : Int), .int .u64 ((CSet.between n n).c.toNat : Int), .int .u64 ((CSet.between n n).d.toNat : Int)] 25)).setCell ⟨rb, 1, none⟩ (.int .i64 ((p : Int) + 1))).drewN m)) := hid_mk (fun m => RD.drewN (RD.next (Blk.alloc HD.out _)) m)
  have HO2 : Hid (∀ m, Only rb w (((w1.alloc (.cells #[.int .u64 ((CSet.between n n).a.toNat : Int), .int .u64 ((CSet.between n n).b.toNat : Int), .int .u64 ((CSet.between n n).c.toNat : Int), .int .u64 ((CSet.between n n).d.toNat : Int)] 25)).setCell ⟨rb, 1, none⟩ (.int .i64 ((p : Int) + 1))).drewN m)) := hid_mk (fun m => by have ho := HO.out; exact (by repeat (first | with_reducible exact Only.refl _ _ | with_reducible assumption | with_reducible refine Only.set ?_ (by first | exact Or.inl rfl | (right; dsimp only; omega)) _ | with_reducible refine Only.alloc ?_ _ | with_reducible refine Only.drewN ?_ _ | with_reducible refine Only.drew ?_)))
  have HT2 : Hid (∀ m, TabW (((w1.alloc (.cells #[.int .u64 ((CSet.between n n).a.toNat : Int), .int .u64 ((CSet.between n n).b.toNat : Int), .int .u64 ((CSet.between n n).c.toNat : Int), .int .u64 ((CSet.between n n).d.toNat : Int)] 25)).setCell ⟨rb, 1, none⟩ (.int .i64 ((p : Int) + 1))).drewN m)) := hid_mk (fun m => HTT.out.only (rb := rb) (by repeat (first | with_reducible exact Only.refl _ _ | with_reducible assumption | with_reducible refine Only.set ?_ (by first | exact Or.inl rfl | (right; dsimp only; omega)) _ | with_reducible refine Only.alloc ?_ _ | with_reducible refine Only.drewN ?_ _ | with_reducible refine Only.drew ?_)) hr)
  go_wp2_with fail
  refine (unhide HS2 _ (HD2.out m2)).mono ?_
  rintro x w3 ⟨ho, h⟩
  cases hq : Rx.sign s.data.toList (p + 1) with
  | out => rw [hq] at hfi; exact hfi.elim
  | bad e q =>
    rw [hq] at h HI
    obtain rfl := h
    exact ⟨rfl, (HO2.out m2).step ho, by rw [HI.out] <;> exact rfl⟩
  | ok a q =>
    rw [hq] at h HI
    obtain ⟨T, more⟩ := a
    obtain ⟨rfl, hd⟩ := h
    have hB0 : Blk w1 w.heap.size #[.int .u64 0, .int .u64 0, .int .u64 0, .int .u64 0] 25 := HZ.out
    have hA3 := ho.blk (by omega) (((hB0.alloc _).far (p := ⟨rb, 1, none⟩) (by dsimp only; omega) (.int .i64 ((p : Int) + 1))).drewN m2)
    have hB3 := ho.blk (g := w1.heap.size) (by omega) (((Blk.new w1 #[.int .u64 ((CSet.between n n).a.toNat : Int), .int .u64 ((CSet.between n n).b.toNat : Int), .int .u64 ((CSet.between n n).c.toNat : Int), .int .u64 ((CSet.between n n).d.toNat : Int)] 25).far (p := ⟨rb, 1, none⟩) (by dsimp only; omega) (.int .i64 ((p : Int) + 1))).drewN m2)
    have hz3 : w1.heap.size < w3.heap.size := hB3.lt
    have hO3 : Only rb w w3 := (HO2.out m2).step ho
    have hT3 : TabW w3 := (HT2.out m2).only ho hr
    cases more with
    | true =>
      have HE : Hid (Rx.item s.data.toList i = .bad 2 (p + 1)) := hid_mk (by rw [HI.out]; dsimp only; rw [if_pos (Or.inl rfl)])
      have HO3 := hid_mk hO3
      clear HI hfi hq
      go_wp2_with fail
      go_quiet (fail)
      go_wp2_with fail
      refine (fail_any _ _ _).mono ?_
      rintro e w1 ⟨rfl, rfl⟩
      exact ⟨rfl, by have ho := HO3.out; exact (by repeat (first | with_reducible exact Only.refl _ _ | with_reducible assumption | with_reducible refine Only.set ?_ (by first | exact Or.inl rfl | (right; dsimp only; omega)) _ | with_reducible refine Only.alloc ?_ _ | with_reducible refine Only.drewN ?_ _ | with_reducible refine Only.drew ?_)), by rw [HE.out] <;> exact rfl⟩
    | false =>
      obtain ⟨m, hm, rfl⟩ := sign_single hq
      dsimp only at HI
      rw [first_one hm] at HI
      have hA4 := Blk.alloc hA3 (.cells #[.int .u64 ((CSet.between m m).a.toNat : Int), .int .u64 ((CSet.between m m).b.toNat : Int), .int .u64 ((CSet.between m m).c.toNat : Int), .int .u64 ((CSet.between m m).d.toNat : Int)] 25)
      have hB4 := Blk.alloc hB3 (.cells #[.int .u64 ((CSet.between m m).a.toNat : Int), .int .u64 ((CSet.between m m).b.toNat : Int), .int .u64 ((CSet.between m m).c.toNat : Int), .int .u64 ((CSet.between m m).d.toNat : Int)] 25)
      have hC4 := Blk.new w3 #[.int .u64 ((CSet.between m m).a.toNat : Int), .int .u64 ((CSet.between m m).b.toNat : Int), .int .u64 ((CSet.between m m).c.toNat : Int), .int .u64 ((CSet.between m m).d.toNat : Int)] 25
      have hd4 := Blk.alloc hd (.cells #[.int .u64 ((CSet.between m m).a.toNat : Int), .int .u64 ((CSet.between m m).b.toNat : Int), .int .u64 ((CSet.between m m).c.toNat : Int), .int .u64 ((CSet.between m m).d.toNat : Int)] 25)
      have hO4 : Only rb w (w3.alloc (.cells #[.int .u64 ((CSet.between m m).a.toNat : Int), .int .u64 ((CSet.between m m).b.toNat : Int), .int .u64 ((CSet.between m m).c.toNat : Int), .int .u64 ((CSet.between m m).d.toNat : Int)] 25)) := (by repeat (first | with_reducible exact Only.refl _ _ | with_reducible assumption | with_reducible refine Only.set ?_ (by first | exact Or.inl rfl | (right; dsimp only; omega)) _ | with_reducible refine Only.alloc ?_ _ | with_reducible refine Only.drewN ?_ _ | with_reducible refine Only.drew ?_))
      have hT4 : TabW (w3.alloc (.cells #[.int .u64 ((CSet.between m m).a.toNat : Int), .int .u64 ((CSet.between m m).b.toNat : Int), .int .u64 ((CSet.between m m).c.toNat : Int), .int .u64 ((CSet.between m m).d.toNat : Int)] 25)) := hT3.only (rb := rb) (by repeat (first | with_reducible exact Only.refl _ _ | with_reducible assumption | with_reducible refine Only.set ?_ (by first | exact Or.inl rfl | (right; dsimp only; omega)) _ | with_reducible refine Only.alloc ?_ _ | with_reducible refine Only.drewN ?_ _ | with_reducible refine Only.drew ?_)) hr
      have HF := hide (fun n (hn : n < 256) w hT => first_any (CSet.between n n) w hT)
      have hlW : w3.heap.size < (w3.alloc (.cells #[.int .u64 ((CSet.between m m).a.toNat : Int), .int .u64 ((CSet.between m m).b.toNat : Int), .int .u64 ((CSet.between m m).c.toNat : Int), .int .u64 ((CSet.between m m).d.toNat : Int)] 25)).heap.size := hC4.lt
      clear hA3 hB3 hO3 hT3 hq hfi hB0 hd ho
      go_wp2_with fail
      generalize w3.alloc (.cells #[.int .u64 ((CSet.between m m).a.toNat : Int), .int .u64 ((CSet.between m m).b.toNat : Int), .int .u64 ((CSet.between m m).c.toNat : Int), .int .u64 ((CSet.between m m).d.toNat : Int)] 25) = W at *
      have HA4 := hid_mk hA4
      have HB4 := hid_mk hB4
      have HC4 := hid_mk hC4
      have HD4 := hid_mk hd4
      have HO4 := hid_mk hO4
      have HT4 := hid_mk (fun w' h => TabW.below (w' := w') hT4 h)
      have HS4 := hid_mk hlW
      clear hlW
      (have x0 : ∀ d os, (grow (redrawn W d) os).cell? ⟨w3.heap.size, 0, none⟩ = some (.int .u64 ((CSet.between m m).a.toNat : Int)) := fun d os => cell_regrown (hC4.cell 0) d os; have x1 : ∀ d os, (grow (redrawn W d) os).cell? ⟨w3.heap.size, 1, none⟩ = some (.int .u64 ((CSet.between m m).b.toNat : Int)) := fun d os => cell_regrown (hC4.cell 1) d os; have x2 : ∀ d os, (grow (redrawn W d) os).cell? ⟨w3.heap.size, 2, none⟩ = some (.int .u64 ((CSet.between m m).c.toNat : Int)) := fun d os => cell_regrown (hC4.cell 2) d os; have x3 : ∀ d os, (grow (redrawn W d) os).cell? ⟨w3.heap.size, 3, none⟩ = some (.int .u64 ((CSet.between m m).d.toNat : Int)) := fun d os => cell_regrown (hC4.cell 3) d os)
      (have y0 : ∀ d os, (grow (redrawn W d) os).cell? ⟨w1.heap.size, 0, none⟩ = some (.int .u64 ((CSet.between n n).a.toNat : Int)) := fun d os => cell_regrown (hB4.cell 0) d os; have y1 : ∀ d os, (grow (redrawn W d) os).cell? ⟨w1.heap.size, 1, none⟩ = some (.int .u64 ((CSet.between n n).b.toNat : Int)) := fun d os => cell_regrown (hB4.cell 1) d os; have y2 : ∀ d os, (grow (redrawn W d) os).cell? ⟨w1.heap.size, 2, none⟩ = some (.int .u64 ((CSet.between n n).c.toNat : Int)) := fun d os => cell_regrown (hB4.cell 2) d os; have y3 : ∀ d os, (grow (redrawn W d) os).cell? ⟨w1.heap.size, 3, none⟩ = some (.int .u64 ((CSet.between n n).d.toNat : Int)) := fun d os => cell_regrown (hB4.cell 3) d os)
      have HTQ := hid_mk (fun d os => hT4.below (below_regrown W d os))
      clear hA4 hB4 hC4 hd4 hO4 hT4
      by_cases hmn : m < n
      · have e1 : decide (m < n) = true := by simp; omega
        have HE : Hid (Rx.item s.data.toList i = .bad 2 (p + 1)) := hid_mk (by rw [HI.out, if_pos (Or.inr (by omega))])
        clear hmn
        (refine wp_region_quiet_below (by kernel_rfl) (by kernel_rfl) ?_; (repeat (quiet_step (((go_at_call 84; (with_reducible refine first_q _ ?_ _ _ _ (HTQ.out _ _)); assumption))))); refine wpQuiet_nil ?_; intro _ hw'; obtain ⟨⟨nq, osq⟩, hw''⟩ := hw'; subst hw'')
        have HB7 := hid_mk (below_regrown W nq osq)
        generalize grow (redrawn W nq) osq = W7 at *
        go_wp2_with fail
        refine (fail_any _ _ _).mono ?_
        rintro e w1 ⟨rfl, rfl⟩
        exact ⟨rfl, HO4.out.call HB7.out, by rw [HE.out] <;> exact rfl⟩
      · have e1 : decide (m < n) = false := by simp; omega
        have HE : Hid (Rx.item s.data.toList i = .ok (CSet.between n m) q) := hid_mk (by rw [HI.out, if_neg (fun h => hmn (by rcases h with h | h <;> first | cases h | omega))]; rfl)
        clear hmn
        (refine wp_region_quiet_below (by kernel_rfl) (by kernel_rfl) ?_; (repeat (quiet_step (((go_at_call 84; (with_reducible refine first_q _ ?_ _ _ _ (HTQ.out _ _)); assumption))))); refine wpQuiet_nil ?_; intro _ hw'; obtain ⟨⟨nq, osq⟩, hw''⟩ := hw'; subst hw'')
        have hb7 := below_regrown W nq osq
        have hz7 : w3.heap.size < (grow (redrawn W nq) osq).heap.size := by have := hb7.size; have := HS4.out; omega
        have hA7 := HA4.out.call hb7
        have hB7 := HB4.out.call hb7
        have hC7 := HC4.out.call hb7
        have HO7 := hid_mk (HO4.out.call hb7)
        have HD7 := hid_mk (HD4.out.call hb7)
        have hT7 := HTQ.out nq osq
        clear x0 x1 x2 x3 y0 y1 y2 y3 HTQ
        generalize grow (redrawn W nq) osq = V at *
        clear hb7
        (have x0 : ∀ d os, (grow (redrawn V d) os).cell? ⟨w3.heap.size, 0, none⟩ = some (.int .u64 ((CSet.between m m).a.toNat : Int)) := fun d os => cell_regrown (hC7.cell 0) d os; have x1 : ∀ d os, (grow (redrawn V d) os).cell? ⟨w3.heap.size, 1, none⟩ = some (.int .u64 ((CSet.between m m).b.toNat : Int)) := fun d os => cell_regrown (hC7.cell 1) d os; have x2 : ∀ d os, (grow (redrawn V d) os).cell? ⟨w3.heap.size, 2, none⟩ = some (.int .u64 ((CSet.between m m).c.toNat : Int)) := fun d os => cell_regrown (hC7.cell 2) d os; have x3 : ∀ d os, (grow (redrawn V d) os).cell? ⟨w3.heap.size, 3, none⟩ = some (.int .u64 ((CSet.between m m).d.toNat : Int)) := fun d os => cell_regrown (hC7.cell 3) d os)
        (have y0 : ∀ d os, (grow (redrawn V d) os).cell? ⟨w1.heap.size, 0, none⟩ = some (.int .u64 ((CSet.between n n).a.toNat : Int)) := fun d os => cell_regrown (hB7.cell 0) d os; have y1 : ∀ d os, (grow (redrawn V d) os).cell? ⟨w1.heap.size, 1, none⟩ = some (.int .u64 ((CSet.between n n).b.toNat : Int)) := fun d os => cell_regrown (hB7.cell 1) d os; have y2 : ∀ d os, (grow (redrawn V d) os).cell? ⟨w1.heap.size, 2, none⟩ = some (.int .u64 ((CSet.between n n).c.toNat : Int)) := fun d os => cell_regrown (hB7.cell 2) d os; have y3 : ∀ d os, (grow (redrawn V d) os).cell? ⟨w1.heap.size, 3, none⟩ = some (.int .u64 ((CSet.between n n).d.toNat : Int)) := fun d os => cell_regrown (hB7.cell 3) d os)
        have HA7 := hid_mk hA7
        have HTQ := hid_mk (fun d os => hT7.below (below_regrown V d os))
        have hcm : IntKind.u8.wrap (m : Int) = (m : Int) := IntWalk.u8_in _ (by omega)
        have hcn : IntKind.u8.wrap (n : Int) = (n : Int) := IntWalk.u8_in _ (by omega)
        clear hA7 hB7 hC7 hT7
        go_wp2_with fail
        (refine region_below_tail 6 (by kernel_rfl) (by kernel_rfl) ?_; simp only [List.take_succ_cons, List.take_zero, List.drop_succ_cons, List.drop_zero]; (repeat (quiet_step ( ((go_at_call 84; (with_reducible refine first_q _ ?_ _ _ _ (HTQ.out _ _)); assumption))))); refine wpQuiet_nil ?_; intro _ hw'; obtain ⟨⟨nq, osq⟩, hw''⟩ := hw'; subst hw'')
        have hb8 := below_regrown V nq osq
        have HA8 := hid_mk (HA7.out.call hb8)
        have HO8 := hid_mk (HO7.out.call hb8)
        have HD8 := hid_mk (HD7.out.call hb8)
        have hz8 : w3.heap.size < (grow (redrawn V nq) osq).heap.size := by have := hb8.size; omega
        clear x0 x1 x2 x3 y0 y1 y2 y3 HTQ hb8
        generalize grow (redrawn V nq) osq = U at *
        go_wp2_with fail
        refine (of_any n m hn hm _).mono ?_
        rintro x w9 ⟨rfl, hb9⟩
        have hA9 := Blk.call HA8.out hb9
        have HO9 := hid_mk (HO8.out.call hb9)
        have HD9 := hid_mk (Blk.call HD8.out hb9)
        have hz9 : w3.heap.size < w9.heap.size := by have := hb9.size; omega
        (have z0 : w9.cell? ⟨w.heap.size, 0, none⟩ = some (.int .u64 0) := hA9.cell 0; have z1 : w9.cell? ⟨w.heap.size, 1, none⟩ = some (.int .u64 0) := hA9.cell 1; have z2 : w9.cell? ⟨w.heap.size, 2, none⟩ = some (.int .u64 0) := hA9.cell 2; have z3 : w9.cell? ⟨w.heap.size, 3, none⟩ = some (.int .u64 0) := hA9.cell 3; have zf : ∀ i, w9.frozen? ⟨w.heap.size, i, none⟩ = false := hA9.frozen)
        clear hA9 hb9
        go_wp2
        refine bodyPost_ret (v := .agg #[.int .u64 ((CSet.between n m).a.toNat : Int), .int .u64 ((CSet.between n m).b.toNat : Int), .int .u64 ((CSet.between n m).c.toNat : Int), .int .u64 ((CSet.between n m).d.toNat : Int)]) (by simp [results, Tryd.results71, go_sem, z0, z1, z2, z3, hz9]) rfl ⟨by have ho := HO9.out; exact (by repeat (first | with_reducible exact Only.refl _ _ | with_reducible assumption | with_reducible refine Only.set ?_ (by first | exact Or.inl rfl | (right; dsimp only; omega)) _ | with_reducible refine Only.alloc ?_ _ | with_reducible refine Only.drewN ?_ _ | with_reducible refine Only.drew ?_)), ?_⟩
        rw [HE.out]
        exact ⟨rfl, (by (try unfold RD); (repeat (first | with_reducible refine Blk.far ?_ (by dsimp only; omega) _ | with_reducible refine Blk.alloc ?_ _ | with_reducible refine Blk.drewN ?_ _)); exact HD9.out)⟩
theorem item_any (s : ByteArray) (rb i op : Nat) (w : World) (h : RD s rb i op w) (hs : s.size ≤ 1000) (hi : i ≤ s.size) (hT : TabW w) (hr : 0 ≠ rb) :
    Calls Tryd.prog 71 #[.pointer (some ⟨rb, 0, none⟩)] w (RetSet s rb op (Rx.item s.data.toList i) w) := by
  by_cases hc : ∃ S p, Rx.sign s.data.toList i = .ok (S, false) p ∧ Rx.pk s.data.toList p = 45
  · obtain ⟨S, p, h1, h2⟩ := hc
    exact item_two s rb i op w h hs hi hT hr S p h1 h2
  · exact item_many s rb i op w h hs hi (fun S p h1 h2 => hc ⟨S, p, h1, h2⟩)
end Go.Proofs.YthgcefppeaopkaaDoor
