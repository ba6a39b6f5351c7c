/- Walks over the reference's pattern reader: braces with two numbers; every one. -/
import Derived.Test.YthgcefppeaopkaaDoorRefW9
namespace Go.Proofs.YthgcefppeaopkaaDoor
open Go Go.RowKit Go.Sort
set_option maxRecDepth 100000
set_option linter.unusedSimpArgs false
set_option linter.unusedVariables false
set_option maxHeartbeats 1000000
theorem rbraces_bad2 (s : ByteArray) (n : Node) (A : Option Addr) (cap i : Nat) (G : Nat → Prop) (w : World) (hG : ∀ b, G b → b < w.heap.size) (hsl : SlOk A n.kids.length cap) (hk : KidsAt G w A n.kids) (hs : s.size ≤ 1000) (hi : i + 1 ≤ s.size) (m p : Nat) (hr : Rx.number s.data.toList (i + 1) = .ok m p) (h44 : Rx.pk s.data.toList p = 44) (h125 : ¬ Rx.pk s.data.toList (p + 1) = 125) (e : Int) (q : Nat) (hr2 : Rx.number s.data.toList (p + 1) = .bad e q) :
    Calls Tryd.prog 60 #[.string s, .agg #[.int .i64 (n.kind), .int .u64 ((n.set).a.toNat : Int), .int .u64 ((n.set).b.toNat : Int), .int .u64 ((n.set).c.toNat : Int), .int .u64 ((n.set).d.toNat : Int), .slice (A) (n.kids.length) (cap), .int .i64 (n.min), .int .i64 (n.max)], .int .i64 i] w (RetPG G (.bad e q) w) := by
  have HN1 := hide (fun w => rnumber_any s (i + 1) w hs hi)
  rw [hr] at HN1
  have hp := pk_in (l := s.data.toList) (i := p) (by rw [h44]; decide)
  rw [len_data] at hp
  have hmm := number_le hr
  have HN2 := hide (fun w => rnumber_any s (p + 1) w hs hp)
  have HI1 := hide (fun w => ris_any s p 44 w hs (by omega) (by decide))
  have HI2 := hide (fun w => ris_any s (p + 1) 125 w hs (by omega) (by decide))
  rw [decide_eq_true (show Rx.pk s.data.toList p = ((44 : Nat) : Int) from h44)] at HI1
  rw [decide_eq_false (show ¬ Rx.pk s.data.toList (p + 1) = ((125 : Nat) : Int) from h125)] at HI2
  have hfq := fine_number s.data.toList (p + 1) (by simp; omega)
  rw [hr2] at HN2 hfq
  clear hr h44 h125
  clear hfq
  go_enter Tryd.func60, Tryd.ntmps60
  go_wp2_with fail
  refine (unhide HN1 _).mono ?_
  rintro x w1 ⟨hb1, rfl⟩
  have HB := BrAt.start (G := G) (w := w) (n := n) (A := A) (cap := cap) #[.int .i64 0, .int .u64 0, .int .u64 0, .int .u64 0, .int .u64 0, .slice none 0 0, .int .i64 0, .int .i64 0, .int .u64 0, .int .u64 0, .int .u64 0, .int .u64 0, .bool false, .int .i64 ((p : Nat)), .int .i64 (0), .int .i64 (0)] hb1
  clear hb1
  go_wp2_with fail
  refine (unhide HI1 _).mono ?_
  rintro x w2 ⟨rfl, rfl⟩
  go_wp2_with fail
  refine (unhide HI2 _).mono ?_
  rintro x w2 ⟨rfl, rfl⟩
  go_wp2_with fail
  refine (unhide HI1 _).mono ?_
  rintro x w2 ⟨rfl, rfl⟩
  go_wp2_with fail
  refine (unhide HN2 _).mono ?_
  rintro x w2 ⟨hb2, hne, rfl⟩
  have HB2 := HB.call hb2
  have HB3 := HB2.set #[.int .i64 0, .int .u64 0, .int .u64 0, .int .u64 0, .int .u64 0, .slice none 0 0, .int .i64 0, .int .i64 0, .int .u64 0, .int .u64 0, .int .u64 0, .int .u64 0, .bool false, .int .i64 (0), .int .i64 (e), .int .i64 ((q : Nat))]
  have c14 : (w2.setRow w1.heap.size #[.int .i64 0, .int .u64 0, .int .u64 0, .int .u64 0, .int .u64 0, .slice none 0 0, .int .i64 0, .int .i64 0, .int .u64 0, .int .u64 0, .int .u64 0, .int .u64 0, .bool false, .int .i64 (0), .int .i64 (e), .int .i64 ((q : Nat))]).cell? ⟨w1.heap.size, 14, none⟩ = some (.int .i64 e) := HB3.box.cell 14
  have hne2 : (e != 0) = true := by simpa using hne
  clear hb2
  go_wp2_with (first | (refine store_row 56 rfl _ _ rfl w1.heap.size _ _ 56 HB2.box rfl rfl (by kernel_rfl) rfl rfl ?_) | (refine load_row 56 rfl _ rfl (w1.heap.size) _ 56 HB3.box rfl _ Tryd.underlying56 rfl (by kernel_rfl) ?_) | (refine store_row 56 rfl _ _ rfl (w.heap.size + 1) _ _ 56 HB3.res rfl rfl (by kernel_rfl) rfl rfl ?_))
  refine ret_row rfl (w.heap.size + 1) _ _ HB3.res.row rfl _ Tryd.underlying56 rfl ?_ rfl ?_
  · kernel_rfl
  · exact ⟨below_row HB3.below (by omega) _, hne, 0, rfl⟩
theorem rbraces_zero2 (s : ByteArray) (n : Node) (A : Option Addr) (cap i : Nat) (G : Nat → Prop) (w : World) (hG : ∀ b, G b → b < w.heap.size) (hsl : SlOk A n.kids.length cap) (hk : KidsAt G w A n.kids) (hs : s.size ≤ 1000) (hi : i + 1 ≤ s.size) (m p : Nat) (hr : Rx.number s.data.toList (i + 1) = .ok m p) (h44 : Rx.pk s.data.toList p = 44) (h125 : ¬ Rx.pk s.data.toList (p + 1) = 125) (k q : Nat) (hr2 : Rx.number s.data.toList (p + 1) = .ok k q) (hm : k = 0) :
    Calls Tryd.prog 60 #[.string s, .agg #[.int .i64 (n.kind), .int .u64 ((n.set).a.toNat : Int), .int .u64 ((n.set).b.toNat : Int), .int .u64 ((n.set).c.toNat : Int), .int .u64 ((n.set).d.toNat : Int), .slice (A) (n.kids.length) (cap), .int .i64 (n.min), .int .i64 (n.max)], .int .i64 i] w (RetPG G (.bad 2 (p + 1)) w) := by
  have HN1 := hide (fun w => rnumber_any s (i + 1) w hs hi)
  rw [hr] at HN1
  have hp := pk_in (l := s.data.toList) (i := p) (by rw [h44]; decide)
  rw [len_data] at hp
  have hmm := number_le hr
  have HN2 := hide (fun w => rnumber_any s (p + 1) w hs hp)
  have HI1 := hide (fun w => ris_any s p 44 w hs (by omega) (by decide))
  have HI2 := hide (fun w => ris_any s (p + 1) 125 w hs (by omega) (by decide))
  rw [decide_eq_true (show Rx.pk s.data.toList p = ((44 : Nat) : Int) from h44)] at HI1
  rw [decide_eq_false (show ¬ Rx.pk s.data.toList (p + 1) = ((125 : Nat) : Int) from h125)] at HI2
  have hfq := fine_number s.data.toList (p + 1) (by simp; omega)
  rw [hr2] at HN2 hfq
  clear hr h44 h125
  have hq : q ≤ s.size := by have := hfq.2; simpa using this
  have hkk := number_le hr2
  clear hfq
  have z1 : ((k : Int) == 0) = true := by rw [hm]; rfl
  have HX := hide (fun e p w => rbad_any e p w)
  clear hr2
  go_enter Tryd.func60, Tryd.ntmps60
  go_wp2_with fail
  refine (unhide HN1 _).mono ?_
  rintro x w1 ⟨hb1, rfl⟩
  have HB := BrAt.start (G := G) (w := w) (n := n) (A := A) (cap := cap) #[.int .i64 0, .int .u64 0, .int .u64 0, .int .u64 0, .int .u64 0, .slice none 0 0, .int .i64 0, .int .i64 0, .int .u64 0, .int .u64 0, .int .u64 0, .int .u64 0, .bool false, .int .i64 ((p : Nat)), .int .i64 (0), .int .i64 (0)] hb1
  clear hb1
  go_wp2_with fail
  refine (unhide HI1 _).mono ?_
  rintro x w2 ⟨rfl, rfl⟩
  go_wp2_with fail
  refine (unhide HI2 _).mono ?_
  rintro x w2 ⟨rfl, rfl⟩
  go_wp2_with fail
  refine (unhide HI1 _).mono ?_
  rintro x w2 ⟨rfl, rfl⟩
  go_wp2_with fail
  refine (unhide HN2 _).mono ?_
  rintro x w2 ⟨hb2, rfl⟩
  have HB2 := HB.call hb2
  have HB3 := HB2.set #[.int .i64 0, .int .u64 0, .int .u64 0, .int .u64 0, .int .u64 0, .slice none 0 0, .int .i64 0, .int .i64 0, .int .u64 0, .int .u64 0, .int .u64 0, .int .u64 0, .bool false, .int .i64 ((q : Nat)), .int .i64 (0), .int .i64 (0)]
  have c14 : (w2.setRow w1.heap.size #[.int .i64 0, .int .u64 0, .int .u64 0, .int .u64 0, .int .u64 0, .slice none 0 0, .int .i64 0, .int .i64 0, .int .u64 0, .int .u64 0, .int .u64 0, .int .u64 0, .bool false, .int .i64 ((q : Nat)), .int .i64 (0), .int .i64 (0)]).cell? ⟨w1.heap.size, 14, none⟩ = some (.int .i64 0) := HB3.box.cell 14
  have c13 : (w2.setRow w1.heap.size #[.int .i64 0, .int .u64 0, .int .u64 0, .int .u64 0, .int .u64 0, .slice none 0 0, .int .i64 0, .int .i64 0, .int .u64 0, .int .u64 0, .int .u64 0, .int .u64 0, .bool false, .int .i64 ((q : Nat)), .int .i64 (0), .int .i64 (0)]).cell? ⟨w1.heap.size, 13, none⟩ = some (.int .i64 (q : Nat)) := HB3.box.cell 13
  clear hb2
  go_wp2_with (refine store_row 56 rfl _ _ rfl w1.heap.size _ _ 56 HB2.box rfl rfl (by kernel_rfl) rfl rfl ?_)
  refine (unhide HX _ _ _).mono ?_
  rintro x w3 ⟨rfl, hb3⟩
  have HB4 := HB3.call hb3
  clear hb3
  go_wp2_with (refine store_row 56 rfl _ _ rfl (w.heap.size + 1) _ _ 56 HB4.res rfl rfl (by kernel_rfl) rfl rfl ?_)
  refine ret_row rfl (w.heap.size + 1) _ _ HB4.res.row rfl _ Tryd.underlying56 rfl ?_ rfl ?_
  · kernel_rfl
  · exact ⟨below_row HB4.below (by omega) _, by decide, 0, rfl⟩
theorem rbraces_less2 (s : ByteArray) (n : Node) (A : Option Addr) (cap i : Nat) (G : Nat → Prop) (w : World) (hG : ∀ b, G b → b < w.heap.size) (hsl : SlOk A n.kids.length cap) (hk : KidsAt G w A n.kids) (hs : s.size ≤ 1000) (hi : i + 1 ≤ s.size) (m p : Nat) (hr : Rx.number s.data.toList (i + 1) = .ok m p) (h44 : Rx.pk s.data.toList p = 44) (h125 : ¬ Rx.pk s.data.toList (p + 1) = 125) (k q : Nat) (hr2 : Rx.number s.data.toList (p + 1) = .ok k q) (hm : k ≠ 0) (hm2 : k < m) :
    Calls Tryd.prog 60 #[.string s, .agg #[.int .i64 (n.kind), .int .u64 ((n.set).a.toNat : Int), .int .u64 ((n.set).b.toNat : Int), .int .u64 ((n.set).c.toNat : Int), .int .u64 ((n.set).d.toNat : Int), .slice (A) (n.kids.length) (cap), .int .i64 (n.min), .int .i64 (n.max)], .int .i64 i] w (RetPG G (.bad 2 (p + 1)) w) := by
  have HN1 := hide (fun w => rnumber_any s (i + 1) w hs hi)
  rw [hr] at HN1
  have hp := pk_in (l := s.data.toList) (i := p) (by rw [h44]; decide)
  rw [len_data] at hp
  have hmm := number_le hr
  have HN2 := hide (fun w => rnumber_any s (p + 1) w hs hp)
  have HI1 := hide (fun w => ris_any s p 44 w hs (by omega) (by decide))
  have HI2 := hide (fun w => ris_any s (p + 1) 125 w hs (by omega) (by decide))
  rw [decide_eq_true (show Rx.pk s.data.toList p = ((44 : Nat) : Int) from h44)] at HI1
  rw [decide_eq_false (show ¬ Rx.pk s.data.toList (p + 1) = ((125 : Nat) : Int) from h125)] at HI2
  have hfq := fine_number s.data.toList (p + 1) (by simp; omega)
  rw [hr2] at HN2 hfq
  clear hr h44 h125
  have hq : q ≤ s.size := by have := hfq.2; simpa using this
  have hkk := number_le hr2
  clear hfq
  have z1 : ((k : Int) == 0) = false := by simp; omega
  have z2 : decide (k < m) = true := by simp; omega
  have HX := hide (fun e p w => rbad_any e p w)
  clear hr2
  go_enter Tryd.func60, Tryd.ntmps60
  go_wp2_with fail
  refine (unhide HN1 _).mono ?_
  rintro x w1 ⟨hb1, rfl⟩
  have HB := BrAt.start (G := G) (w := w) (n := n) (A := A) (cap := cap) #[.int .i64 0, .int .u64 0, .int .u64 0, .int .u64 0, .int .u64 0, .slice none 0 0, .int .i64 0, .int .i64 0, .int .u64 0, .int .u64 0, .int .u64 0, .int .u64 0, .bool false, .int .i64 ((p : Nat)), .int .i64 (0), .int .i64 (0)] hb1
  clear hb1
  go_wp2_with fail
  refine (unhide HI1 _).mono ?_
  rintro x w2 ⟨rfl, rfl⟩
  go_wp2_with fail
  refine (unhide HI2 _).mono ?_
  rintro x w2 ⟨rfl, rfl⟩
  go_wp2_with fail
  refine (unhide HI1 _).mono ?_
  rintro x w2 ⟨rfl, rfl⟩
  go_wp2_with fail
  refine (unhide HN2 _).mono ?_
  rintro x w2 ⟨hb2, rfl⟩
  have HB2 := HB.call hb2
  have HB3 := HB2.set #[.int .i64 0, .int .u64 0, .int .u64 0, .int .u64 0, .int .u64 0, .slice none 0 0, .int .i64 0, .int .i64 0, .int .u64 0, .int .u64 0, .int .u64 0, .int .u64 0, .bool false, .int .i64 ((q : Nat)), .int .i64 (0), .int .i64 (0)]
  have c14 : (w2.setRow w1.heap.size #[.int .i64 0, .int .u64 0, .int .u64 0, .int .u64 0, .int .u64 0, .slice none 0 0, .int .i64 0, .int .i64 0, .int .u64 0, .int .u64 0, .int .u64 0, .int .u64 0, .bool false, .int .i64 ((q : Nat)), .int .i64 (0), .int .i64 (0)]).cell? ⟨w1.heap.size, 14, none⟩ = some (.int .i64 0) := HB3.box.cell 14
  have c13 : (w2.setRow w1.heap.size #[.int .i64 0, .int .u64 0, .int .u64 0, .int .u64 0, .int .u64 0, .slice none 0 0, .int .i64 0, .int .i64 0, .int .u64 0, .int .u64 0, .int .u64 0, .int .u64 0, .bool false, .int .i64 ((q : Nat)), .int .i64 (0), .int .i64 (0)]).cell? ⟨w1.heap.size, 13, none⟩ = some (.int .i64 (q : Nat)) := HB3.box.cell 13
  clear hb2
  go_wp2_with (refine store_row 56 rfl _ _ rfl w1.heap.size _ _ 56 HB2.box rfl rfl (by kernel_rfl) rfl rfl ?_)
  refine (unhide HX _ _ _).mono ?_
  rintro x w3 ⟨rfl, hb3⟩
  have HB4 := HB3.call hb3
  clear hb3
  go_wp2_with (refine store_row 56 rfl _ _ rfl (w.heap.size + 1) _ _ 56 HB4.res rfl rfl (by kernel_rfl) rfl rfl ?_)
  refine ret_row rfl (w.heap.size + 1) _ _ HB4.res.row rfl _ Tryd.underlying56 rfl ?_ rfl ?_
  · kernel_rfl
  · exact ⟨below_row HB4.below (by omega) _, by decide, 0, rfl⟩
theorem rbraces_other2 (s : ByteArray) (n : Node) (A : Option Addr) (cap i : Nat) (G : Nat → Prop) (w : World) (hG : ∀ b, G b → b < w.heap.size) (hsl : SlOk A n.kids.length cap) (hk : KidsAt G w A n.kids) (hs : s.size ≤ 1000) (hi : i + 1 ≤ s.size) (m p : Nat) (hr : Rx.number s.data.toList (i + 1) = .ok m p) (h44 : Rx.pk s.data.toList p = 44) (h125 : ¬ Rx.pk s.data.toList (p + 1) = 125) (k q : Nat) (hr2 : Rx.number s.data.toList (p + 1) = .ok k q) (hm : k ≠ 0) (hm2 : ¬ k < m) (h5 : ¬ Rx.pk s.data.toList q = 125) (e : Int) (r : Nat) (ho : (Rx.other s.data.toList q : Res Node) = .bad e r) (he : e ≠ 0) :
    Calls Tryd.prog 60 #[.string s, .agg #[.int .i64 (n.kind), .int .u64 ((n.set).a.toNat : Int), .int .u64 ((n.set).b.toNat : Int), .int .u64 ((n.set).c.toNat : Int), .int .u64 ((n.set).d.toNat : Int), .slice (A) (n.kids.length) (cap), .int .i64 (n.min), .int .i64 (n.max)], .int .i64 i] w (RetPG G (.bad e r) w) := by
  have HN1 := hide (fun w => rnumber_any s (i + 1) w hs hi)
  rw [hr] at HN1
  have hp := pk_in (l := s.data.toList) (i := p) (by rw [h44]; decide)
  rw [len_data] at hp
  have hmm := number_le hr
  have HN2 := hide (fun w => rnumber_any s (p + 1) w hs hp)
  have HI1 := hide (fun w => ris_any s p 44 w hs (by omega) (by decide))
  have HI2 := hide (fun w => ris_any s (p + 1) 125 w hs (by omega) (by decide))
  rw [decide_eq_true (show Rx.pk s.data.toList p = ((44 : Nat) : Int) from h44)] at HI1
  rw [decide_eq_false (show ¬ Rx.pk s.data.toList (p + 1) = ((125 : Nat) : Int) from h125)] at HI2
  have hfq := fine_number s.data.toList (p + 1) (by simp; omega)
  rw [hr2] at HN2 hfq
  clear hr h44 h125
  have hq : q ≤ s.size := by have := hfq.2; simpa using this
  have hkk := number_le hr2
  clear hfq
  have z1 : ((k : Int) == 0) = false := by simp; omega
  have z2 : decide (k < m) = false := by simp; omega
  have HI3 := hide (fun w => ris_any s q 125 w hs (by omega) (by decide))
  rw [decide_eq_false (show ¬ Rx.pk s.data.toList q = ((125 : Nat) : Int) from h5)] at HI3
  have HX := hide (fun w => rother_q s q w hs (by omega) e r ho)
  clear hr2 h5 ho hm hm2
  go_enter Tryd.func60, Tryd.ntmps60
  go_wp2_with fail
  refine (unhide HN1 _).mono ?_
  rintro x w1 ⟨hb1, rfl⟩
  have HB := BrAt.start (G := G) (w := w) (n := n) (A := A) (cap := cap) #[.int .i64 0, .int .u64 0, .int .u64 0, .int .u64 0, .int .u64 0, .slice none 0 0, .int .i64 0, .int .i64 0, .int .u64 0, .int .u64 0, .int .u64 0, .int .u64 0, .bool false, .int .i64 ((p : Nat)), .int .i64 (0), .int .i64 (0)] hb1
  clear hb1
  go_wp2_with fail
  refine (unhide HI1 _).mono ?_
  rintro x w2 ⟨rfl, rfl⟩
  go_wp2_with fail
  refine (unhide HI2 _).mono ?_
  rintro x w2 ⟨rfl, rfl⟩
  go_wp2_with fail
  refine (unhide HI1 _).mono ?_
  rintro x w2 ⟨rfl, rfl⟩
  go_wp2_with fail
  refine (unhide HN2 _).mono ?_
  rintro x w2 ⟨hb2, rfl⟩
  have HB2 := HB.call hb2
  have HB3 := HB2.set #[.int .i64 0, .int .u64 0, .int .u64 0, .int .u64 0, .int .u64 0, .slice none 0 0, .int .i64 0, .int .i64 0, .int .u64 0, .int .u64 0, .int .u64 0, .int .u64 0, .bool false, .int .i64 ((q : Nat)), .int .i64 (0), .int .i64 (0)]
  have c14 : (w2.setRow w1.heap.size #[.int .i64 0, .int .u64 0, .int .u64 0, .int .u64 0, .int .u64 0, .slice none 0 0, .int .i64 0, .int .i64 0, .int .u64 0, .int .u64 0, .int .u64 0, .int .u64 0, .bool false, .int .i64 ((q : Nat)), .int .i64 (0), .int .i64 (0)]).cell? ⟨w1.heap.size, 14, none⟩ = some (.int .i64 0) := HB3.box.cell 14
  have c13 : (w2.setRow w1.heap.size #[.int .i64 0, .int .u64 0, .int .u64 0, .int .u64 0, .int .u64 0, .slice none 0 0, .int .i64 0, .int .i64 0, .int .u64 0, .int .u64 0, .int .u64 0, .int .u64 0, .bool false, .int .i64 ((q : Nat)), .int .i64 (0), .int .i64 (0)]).cell? ⟨w1.heap.size, 13, none⟩ = some (.int .i64 (q : Nat)) := HB3.box.cell 13
  clear hb2
  go_wp2_with (refine store_row 56 rfl _ _ rfl w1.heap.size _ _ 56 HB2.box rfl rfl (by kernel_rfl) rfl rfl ?_)
  refine (unhide HI3 _).mono ?_
  rintro x w3 ⟨rfl, rfl⟩
  go_wp2_with fail
  refine (unhide HX _).mono ?_
  rintro x w3 ⟨rfl, hb3⟩
  have HB4 := HB3.call hb3
  clear hb3
  go_wp2_with (refine store_row 56 rfl _ _ rfl (w.heap.size + 1) _ _ 56 HB4.res rfl rfl (by kernel_rfl) rfl rfl ?_)
  refine ret_row rfl (w.heap.size + 1) _ _ HB4.res.row rfl _ Tryd.underlying56 rfl ?_ rfl ?_
  · kernel_rfl
  · exact ⟨below_row HB4.below (by omega) _, he, 0, rfl⟩
theorem rbraces_two (s : ByteArray) (n : Node) (A : Option Addr) (cap i : Nat) (G : Nat → Prop) (w : World) (hG : ∀ b, G b → b < w.heap.size) (hsl : SlOk A n.kids.length cap) (hk : KidsAt G w A n.kids) (hs : s.size ≤ 1000) (hi : i + 1 ≤ s.size) (m p : Nat) (hr : Rx.number s.data.toList (i + 1) = .ok m p) (h44 : Rx.pk s.data.toList p = 44) (h125 : ¬ Rx.pk s.data.toList (p + 1) = 125) (k q : Nat) (hr2 : Rx.number s.data.toList (p + 1) = .ok k q) (hm : k ≠ 0) (hm2 : ¬ k < m) (h5 : Rx.pk s.data.toList q = 125) :
    Calls Tryd.prog 60 #[.string s, .agg #[.int .i64 (n.kind), .int .u64 ((n.set).a.toNat : Int), .int .u64 ((n.set).b.toNat : Int), .int .u64 ((n.set).c.toNat : Int), .int .u64 ((n.set).d.toNat : Int), .slice (A) (n.kids.length) (cap), .int .i64 (n.min), .int .i64 (n.max)], .int .i64 i] w (RetPG G (.ok (Rx.rep n (m : Nat) (k : Nat)) (q + 1)) w) := by
  have HN1 := hide (fun w => rnumber_any s (i + 1) w hs hi)
  rw [hr] at HN1
  have hp := pk_in (l := s.data.toList) (i := p) (by rw [h44]; decide)
  rw [len_data] at hp
  have hmm := number_le hr
  have HN2 := hide (fun w => rnumber_any s (p + 1) w hs hp)
  have HI1 := hide (fun w => ris_any s p 44 w hs (by omega) (by decide))
  have HI2 := hide (fun w => ris_any s (p + 1) 125 w hs (by omega) (by decide))
  rw [decide_eq_true (show Rx.pk s.data.toList p = ((44 : Nat) : Int) from h44)] at HI1
  rw [decide_eq_false (show ¬ Rx.pk s.data.toList (p + 1) = ((125 : Nat) : Int) from h125)] at HI2
  have hfq := fine_number s.data.toList (p + 1) (by simp; omega)
  rw [hr2] at HN2 hfq
  clear hr h44 h125
  have hq : q ≤ s.size := by have := hfq.2; simpa using this
  have hkk := number_le hr2
  clear hfq
  have z1 : ((k : Int) == 0) = false := by simp; omega
  have z2 : decide (k < m) = false := by simp; omega
  have HI3 := hide (fun w => ris_any s q 125 w hs (by omega) (by decide))
  rw [decide_eq_true (show Rx.pk s.data.toList q = ((125 : Nat) : Int) from h5)] at HI3
  clear hr2 h5 hm hm2
  go_enter Tryd.func60, Tryd.ntmps60
  go_wp2_with fail
  refine (unhide HN1 _).mono ?_
  rintro x w1 ⟨hb1, rfl⟩
  have HB := BrAt.start (G := G) (w := w) (n := n) (A := A) (cap := cap) #[.int .i64 0, .int .u64 0, .int .u64 0, .int .u64 0, .int .u64 0, .slice none 0 0, .int .i64 0, .int .i64 0, .int .u64 0, .int .u64 0, .int .u64 0, .int .u64 0, .bool false, .int .i64 ((p : Nat)), .int .i64 (0), .int .i64 (0)] hb1
  clear hb1
  go_wp2_with fail
  refine (unhide HI1 _).mono ?_
  rintro x w2 ⟨rfl, rfl⟩
  go_wp2_with fail
  refine (unhide HI2 _).mono ?_
  rintro x w2 ⟨rfl, rfl⟩
  go_wp2_with fail
  refine (unhide HI1 _).mono ?_
  rintro x w2 ⟨rfl, rfl⟩
  go_wp2_with fail
  refine (unhide HN2 _).mono ?_
  rintro x w2 ⟨hb2, rfl⟩
  have HB2 := HB.call hb2
  have HB3 := HB2.set #[.int .i64 0, .int .u64 0, .int .u64 0, .int .u64 0, .int .u64 0, .slice none 0 0, .int .i64 0, .int .i64 0, .int .u64 0, .int .u64 0, .int .u64 0, .int .u64 0, .bool false, .int .i64 ((q : Nat)), .int .i64 (0), .int .i64 (0)]
  have c14 : (w2.setRow w1.heap.size #[.int .i64 0, .int .u64 0, .int .u64 0, .int .u64 0, .int .u64 0, .slice none 0 0, .int .i64 0, .int .i64 0, .int .u64 0, .int .u64 0, .int .u64 0, .int .u64 0, .bool false, .int .i64 ((q : Nat)), .int .i64 (0), .int .i64 (0)]).cell? ⟨w1.heap.size, 14, none⟩ = some (.int .i64 0) := HB3.box.cell 14
  have c13 : (w2.setRow w1.heap.size #[.int .i64 0, .int .u64 0, .int .u64 0, .int .u64 0, .int .u64 0, .slice none 0 0, .int .i64 0, .int .i64 0, .int .u64 0, .int .u64 0, .int .u64 0, .int .u64 0, .bool false, .int .i64 ((q : Nat)), .int .i64 (0), .int .i64 (0)]).cell? ⟨w1.heap.size, 13, none⟩ = some (.int .i64 (q : Nat)) := HB3.box.cell 13
  clear hb2
  go_wp2_with (refine store_row 56 rfl _ _ rfl w1.heap.size _ _ 56 HB2.box rfl rfl (by kernel_rfl) rfl rfl ?_)
  refine (unhide HI3 _).mono ?_
  rintro x w3 ⟨rfl, rfl⟩
  go_wp2_with (refine load_row 28 rfl _ rfl w.heap.size _ 28 HB3.node rfl _ Tryd.underlying28 rfl (by kernel_rfl) ?_)
  refine (rrep_any n A cap (m : Nat) (k : Nat) ((q + 1 : Nat) : Int) G _ (fun b hb => Nat.lt_of_lt_of_le (hG b hb) HB3.below.size) hsl (kidsAt_keep (below_keeps HB3.below hG) (fun b h => h) hk)).mono ?_
  rintro x w3 hrep
  obtain ⟨g2, rfl, hres, hfin⟩ := br_rep HB3 hG hrep
  have HF := hid_mk hfin
  clear hfin hrep
  go_wp2_with (refine store_row 56 rfl _ _ rfl (w.heap.size + 1) _ _ 56 hres rfl rfl (by kernel_rfl) rfl rfl ?_)
  refine ret_row rfl (w.heap.size + 1) _ _ hres.row rfl _ Tryd.underlying56 rfl ?_ rfl ?_
  · kernel_rfl
  · exact HF.out _
end Go.Proofs.YthgcefppeaopkaaDoor
