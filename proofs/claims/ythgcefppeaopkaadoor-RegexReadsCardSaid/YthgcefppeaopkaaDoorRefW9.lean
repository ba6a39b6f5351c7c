/- Walks over the reference's pattern reader: braces. -/
import Derived.Test.YthgcefppeaopkaaDoorRefW8
namespace Go.Proofs.YthgcefppeaopkaaDoor
open Go Go.RowKit Go.Sort
set_option maxRecDepth 100000
set_option linter.unusedSimpArgs false
set_option linter.unusedVariables false
set_option maxHeartbeats 1000000
/-- a tree over old kids is handed back, or a fault -/
def RetPG (G : Nat → Prop) (r : Res Node) (w : World) (x : Ending) (w' : World) : Prop := Below w.heap.size w w' ∧ match r with
  | .ok n p => ∃ (A : Option Addr) (cap : Nat), x = .returned (.agg #[.int .i64 (n.kind), .int .u64 ((n.set).a.toNat : Int), .int .u64 ((n.set).b.toNat : Int), .int .u64 ((n.set).c.toNat : Int), .int .u64 ((n.set).d.toNat : Int), .slice (A) (n.kids.length) (cap), .int .i64 (n.min), .int .i64 (n.max), .int .u64 0, .int .u64 0, .int .u64 0, .int .u64 0, .bool false, .int .i64 ((p : Nat)), .int .i64 0, .int .i64 0]) ∧ SlOk A n.kids.length cap ∧ KidsAt (fun b => G b ∨ (w.heap.size ≤ b ∧ b < w'.heap.size)) w' A n.kids
  | .bad e p => e ≠ 0 ∧ ∃ at_ : Int, x = .returned (.agg #[.int .i64 0, .int .u64 0, .int .u64 0, .int .u64 0, .int .u64 0, .slice none 0 0, .int .i64 0, .int .i64 0, .int .u64 0, .int .u64 0, .int .u64 0, .int .u64 0, .bool false, .int .i64 (at_), .int .i64 (e), .int .i64 ((p : Nat))])
  | .out => True
/-- what the walk of braces keeps: the node's box, the result's place, the last number's struct -/
structure BrAt (G : Nat → Prop) (w V : World) (n : Node) (A : Option Addr) (cap : Nat) (g : Nat) (cs : Array Value) : Prop where
  below : Below w.heap.size w V
  node : Blk V w.heap.size #[.int .i64 (n.kind), .int .u64 ((n.set).a.toNat : Int), .int .u64 ((n.set).b.toNat : Int), .int .u64 ((n.set).c.toNat : Int), .int .u64 ((n.set).d.toNat : Int), .slice (A) (n.kids.length) (cap), .int .i64 (n.min), .int .i64 (n.max)] 28
  res : Blk V (w.heap.size + 1) #[.int .i64 0, .int .u64 0, .int .u64 0, .int .u64 0, .int .u64 0, .slice none 0 0, .int .i64 0, .int .i64 0, .int .u64 0, .int .u64 0, .int .u64 0, .int .u64 0, .bool false, .int .i64 (0), .int .i64 (0), .int .i64 (0)] 56
  box : Blk V g cs 56
  far : w.heap.size + 1 < g
theorem BrAt.call {G : Nat → Prop} {w V V' : World} {n : Node} {A : Option Addr} {cap g : Nat} {cs : Array Value} (h : BrAt G w V n A cap g cs) (hb : Below V.heap.size V V') : BrAt G w V' n A cap g cs :=
  ⟨h.below.trans (hb.mono h.below.size), h.node.call hb, h.res.call hb, h.box.call hb, h.far⟩
theorem BrAt.set {G : Nat → Prop} {w V : World} {n : Node} {A : Option Addr} {cap g : Nat} {cs : Array Value} (h : BrAt G w V n A cap g cs) (ds : Array Value) : BrAt G w (V.setRow g ds) n A cap g ds :=
  ⟨below_row h.below (by have := h.far; omega) ds, h.node.rowFar (by have := h.far; omega) ds, h.res.rowFar (by have := h.far; omega) ds, h.box.row, h.far⟩
/-- the world behind the first steps -/
def brW (w : World) (n : Node) (A : Option Addr) (cap : Nat) : World := (w.alloc (.cells #[.int .i64 (n.kind), .int .u64 ((n.set).a.toNat : Int), .int .u64 ((n.set).b.toNat : Int), .int .u64 ((n.set).c.toNat : Int), .int .u64 ((n.set).d.toNat : Int), .slice (A) (n.kids.length) (cap), .int .i64 (n.min), .int .i64 (n.max)] 28)).alloc (.cells #[.int .i64 0, .int .u64 0, .int .u64 0, .int .u64 0, .int .u64 0, .slice none 0 0, .int .i64 0, .int .i64 0, .int .u64 0, .int .u64 0, .int .u64 0, .int .u64 0, .bool false, .int .i64 (0), .int .i64 (0), .int .i64 (0)] 56)
theorem BrAt.start {G : Nat → Prop} {w w1 : World} {n : Node} {A : Option Addr} {cap : Nat} (cs : Array Value) (hb : Below (brW w n A cap).heap.size (brW w n A cap) w1) : BrAt G w (w1.alloc (.cells cs 56)) n A cap w1.heap.size cs := by
  have h0 : Below w.heap.size w (brW w n A cap) := by unfold brW; exact (by repeat (first | with_reducible exact Below.refl _ _ | with_reducible assumption | with_reducible refine Below.setCell ?_ (by first | omega | (dsimp only; omega) | (simp <;> omega)) _ | with_reducible refine Below.alloc ?_ (by first | omega | (simp <;> omega)) _ | with_reducible refine below_drewN ?_ _ | with_reducible refine Below.drew ?_))
  have hz : (brW w n A cap).heap.size = w.heap.size + 2 := by simp [brW]
  have hb2 := h0.trans (hb.mono (by omega))
  have hs := hb.size
  refine ⟨hb2.alloc hb2.size _, Blk.alloc (Blk.call (w := brW w n A cap) (Blk.alloc (Blk.new w _ _) _) hb) _, Blk.alloc (Blk.call (w := brW w n A cap) (Blk.newAt (by simp)) hb) _, Blk.new w1 _ _, by omega⟩
/-- a repetition handed on -/
theorem br_rep {G : Nat → Prop} {w V V2 : World} {n : Node} {A : Option Addr} {cap g : Nat} {cs : Array Value} {lo hi : Int} {q : Nat} {x : Ending} (h : BrAt G w V n A cap g cs) (hG : ∀ b, G b → b < w.heap.size) (hr : RetRep G n lo hi (q : Nat) V x V2) :
    ∃ g2, x = .returned (.agg #[.int .i64 (4), .int .u64 ((CSet.empty).a.toNat : Int), .int .u64 ((CSet.empty).b.toNat : Int), .int .u64 ((CSet.empty).c.toNat : Int), .int .u64 ((CSet.empty).d.toNat : Int), .slice (some ⟨g2, 0, none⟩) (1) (1), .int .i64 (lo), .int .i64 (hi), .int .u64 0, .int .u64 0, .int .u64 0, .int .u64 0, .bool false, .int .i64 ((q : Nat)), .int .i64 0, .int .i64 0]) ∧ Blk V2 (w.heap.size + 1) #[.int .i64 0, .int .u64 0, .int .u64 0, .int .u64 0, .int .u64 0, .slice none 0 0, .int .i64 0, .int .i64 0, .int .u64 0, .int .u64 0, .int .u64 0, .int .u64 0, .bool false, .int .i64 (0), .int .i64 (0), .int .i64 (0)] 56 ∧ (∀ ds, RetPG G (.ok (Rx.rep n lo hi) q) w x (V2.setRow (w.heap.size + 1) ds)) := by
  obtain ⟨hb, g2, rfl, hk⟩ := hr
  have hw := h.below.size
  have hn := h.res.lt
  refine ⟨g2, rfl, h.res.call hb, fun ds => ⟨below_row (h.below.trans (hb.mono h.below.size)) (by omega) ds, some ⟨g2, 0, none⟩, 1, rfl, ⟨Nat.le_refl _, fun h => by cases h⟩, ?_⟩⟩
  refine kidsAt_keep (w := V2) (fun b hb' => setRow_other V2 _ ds (by rcases hb' with h1 | h1; have := hG b h1; omega; omega)) (fun b hb' => ?_) hk
  rw [setRow_size]
  rcases hb' with h1 | h1
  · exact Or.inl h1
  · exact Or.inr ⟨by omega, h1.2⟩
theorem rother_q (s : ByteArray) (i : Nat) (w : World) (hs : s.size ≤ 1000) (hi : i ≤ 2000) (e : Int) (q : Nat) (h : (Rx.other s.data.toList i : Res Node) = .bad e q) : Calls Tryd.prog 30 #[.string s, .int .i64 i] w (RetG (.agg #[.int .i64 0, .int .u64 0, .int .u64 0, .int .u64 0, .int .u64 0, .slice none 0 0, .int .i64 0, .int .i64 0, .int .u64 0, .int .u64 0, .int .u64 0, .int .u64 0, .bool false, .int .i64 (0), .int .i64 (e), .int .i64 ((q : Nat))]) w) := by
  rw [other_eq] at h
  obtain ⟨rfl, rfl⟩ := Res.bad.inj h
  exact rother_any s i w hs hi
theorem rbraces_bad (s : ByteArray) (n : Node) (A : Option Addr) (cap i : Nat) (G : Nat → Prop) (w : World) (hG : ∀ b, G b → b < w.heap.size) (hsl : SlOk A n.kids.length cap) (hk : KidsAt G w A n.kids) (hs : s.size ≤ 1000) (hi : i + 1 ≤ s.size) (e : Int) (q : Nat) (hr : Rx.number s.data.toList (i + 1) = .bad e q) :
    Calls Tryd.prog 60 #[.string s, .agg #[.int .i64 (n.kind), .int .u64 ((n.set).a.toNat : Int), .int .u64 ((n.set).b.toNat : Int), .int .u64 ((n.set).c.toNat : Int), .int .u64 ((n.set).d.toNat : Int), .slice (A) (n.kids.length) (cap), .int .i64 (n.min), .int .i64 (n.max)], .int .i64 i] w (RetPG G (.bad e q) w) := by
  have HN1 := hide (fun w => rnumber_any s (i + 1) w hs hi)
  rw [hr] at HN1
  clear hr
  go_enter Tryd.func60, Tryd.ntmps60
  go_wp2_with fail
  refine (unhide HN1 _).mono ?_
  rintro x w1 ⟨hb1, hne, rfl⟩
  have HB := BrAt.start (G := G) (w := w) (n := n) (A := A) (cap := cap) #[.int .i64 0, .int .u64 0, .int .u64 0, .int .u64 0, .int .u64 0, .slice none 0 0, .int .i64 0, .int .i64 0, .int .u64 0, .int .u64 0, .int .u64 0, .int .u64 0, .bool false, .int .i64 (0), .int .i64 (e), .int .i64 ((q : Nat))] hb1
  have hne2 : (e != 0) = true := by simpa using hne
  clear hb1
  go_wp2_with (first | (refine load_row 56 rfl _ rfl (w1.heap.size) _ 56 HB.box rfl _ Tryd.underlying56 rfl (by kernel_rfl) ?_) | (refine store_row 56 rfl _ _ rfl (w.heap.size + 1) _ _ 56 HB.res rfl rfl (by kernel_rfl) rfl rfl ?_))
  refine ret_row rfl (w.heap.size + 1) _ _ HB.res.row rfl _ Tryd.underlying56 rfl ?_ rfl ?_
  · kernel_rfl
  · exact ⟨below_row HB.below (by omega) _, hne, 0, rfl⟩
theorem rbraces_open (s : ByteArray) (n : Node) (A : Option Addr) (cap i : Nat) (G : Nat → Prop) (w : World) (hG : ∀ b, G b → b < w.heap.size) (hsl : SlOk A n.kids.length cap) (hk : KidsAt G w A n.kids) (hs : s.size ≤ 1000) (hi : i + 1 ≤ s.size) (m p : Nat) (hr : Rx.number s.data.toList (i + 1) = .ok m p) (h44 : Rx.pk s.data.toList p = 44) (h125 : Rx.pk s.data.toList (p + 1) = 125) :
    Calls Tryd.prog 60 #[.string s, .agg #[.int .i64 (n.kind), .int .u64 ((n.set).a.toNat : Int), .int .u64 ((n.set).b.toNat : Int), .int .u64 ((n.set).c.toNat : Int), .int .u64 ((n.set).d.toNat : Int), .slice (A) (n.kids.length) (cap), .int .i64 (n.min), .int .i64 (n.max)], .int .i64 i] w (RetPG G (.ok (Rx.rep n (m : Nat) (-1)) (p + 2)) w) := by
  have HN1 := hide (fun w => rnumber_any s (i + 1) w hs hi)
  rw [hr] at HN1
  have hp := pk_in (l := s.data.toList) (i := p) (by rw [h44]; decide)
  rw [len_data] at hp
  have HI1 := hide (fun w => ris_any s p 44 w hs (by omega) (by decide))
  have HI2 := hide (fun w => ris_any s (p + 1) 125 w hs (by omega) (by decide))
  rw [decide_eq_true (show Rx.pk s.data.toList p = ((44 : Nat) : Int) from h44)] at HI1
  rw [decide_eq_true (show Rx.pk s.data.toList (p + 1) = ((125 : Nat) : Int) from h125)] at HI2
  clear hr h44 h125
  go_enter Tryd.func60, Tryd.ntmps60
  go_wp2_with fail
  refine (unhide HN1 _).mono ?_
  rintro x w1 ⟨hb1, rfl⟩
  have HB := BrAt.start (G := G) (w := w) (n := n) (A := A) (cap := cap) #[.int .i64 0, .int .u64 0, .int .u64 0, .int .u64 0, .int .u64 0, .slice none 0 0, .int .i64 0, .int .i64 0, .int .u64 0, .int .u64 0, .int .u64 0, .int .u64 0, .bool false, .int .i64 ((p : Nat)), .int .i64 (0), .int .i64 (0)] hb1
  clear hb1
  go_wp2_with fail
  refine (unhide HI1 _).mono ?_
  rintro x w2 ⟨rfl, rfl⟩
  go_wp2_with fail
  refine (unhide HI2 _).mono ?_
  rintro x w2 ⟨rfl, rfl⟩
  go_wp2_with (refine load_row 28 rfl _ rfl w.heap.size _ 28 HB.node rfl _ Tryd.underlying28 rfl (by kernel_rfl) ?_)
  refine (rrep_any n A cap (m : Nat) (-1) ((p + 2 : Nat) : Int) G _ (fun b hb => Nat.lt_of_lt_of_le (hG b hb) HB.below.size) hsl (kidsAt_keep (below_keeps HB.below hG) (fun b h => h) hk)).mono ?_
  rintro x w3 hrep
  obtain ⟨g2, rfl, hres, hfin⟩ := br_rep HB hG hrep
  have HF := hid_mk hfin
  clear hfin hrep
  go_wp2_with (refine store_row 56 rfl _ _ rfl (w.heap.size + 1) _ _ 56 hres rfl rfl (by kernel_rfl) rfl rfl ?_)
  refine ret_row rfl (w.heap.size + 1) _ _ hres.row rfl _ Tryd.underlying56 rfl ?_ rfl ?_
  · kernel_rfl
  · exact HF.out _
theorem rbraces_zero (s : ByteArray) (n : Node) (A : Option Addr) (cap i : Nat) (G : Nat → Prop) (w : World) (hG : ∀ b, G b → b < w.heap.size) (hsl : SlOk A n.kids.length cap) (hk : KidsAt G w A n.kids) (hs : s.size ≤ 1000) (hi : i + 1 ≤ s.size) (m p : Nat) (hr : Rx.number s.data.toList (i + 1) = .ok m p) (h44 : ¬ Rx.pk s.data.toList p = 44) (hm : m = 0) :
    Calls Tryd.prog 60 #[.string s, .agg #[.int .i64 (n.kind), .int .u64 ((n.set).a.toNat : Int), .int .u64 ((n.set).b.toNat : Int), .int .u64 ((n.set).c.toNat : Int), .int .u64 ((n.set).d.toNat : Int), .slice (A) (n.kids.length) (cap), .int .i64 (n.min), .int .i64 (n.max)], .int .i64 i] w (RetPG G (.bad 2 (i + 1)) w) := by
  have HN1 := hide (fun w => rnumber_any s (i + 1) w hs hi)
  rw [hr] at HN1
  have hfn := fine_number s.data.toList (i + 1) (by simpa using hi)
  rw [hr] at hfn
  have hp : p ≤ s.size := by have := hfn.2; simpa using this
  have HI1 := hide (fun w => ris_any s p 44 w hs (by omega) (by decide))
  have HI2 := hide (fun w => ris_any s p 125 w hs (by omega) (by decide))
  have hmm := number_le hr
  rw [decide_eq_false (show ¬ Rx.pk s.data.toList p = ((44 : Nat) : Int) from h44)] at HI1
  clear hr hfn h44
  have HX := hide (fun e p w => rbad_any e p w)
  have z1 : ((m : Int) == 0) = true := by rw [hm]; rfl
  clear hm HI2
  go_enter Tryd.func60, Tryd.ntmps60
  go_wp2_with fail
  refine (unhide HN1 _).mono ?_
  rintro x w1 ⟨hb1, rfl⟩
  have HB := BrAt.start (G := G) (w := w) (n := n) (A := A) (cap := cap) #[.int .i64 0, .int .u64 0, .int .u64 0, .int .u64 0, .int .u64 0, .slice none 0 0, .int .i64 0, .int .i64 0, .int .u64 0, .int .u64 0, .int .u64 0, .int .u64 0, .bool false, .int .i64 ((p : Nat)), .int .i64 (0), .int .i64 (0)] hb1
  clear hb1
  go_wp2_with fail
  refine (unhide HI1 _).mono ?_
  rintro x w2 ⟨rfl, rfl⟩
  go_wp2_with fail
  refine (unhide HI1 _).mono ?_
  rintro x w2 ⟨rfl, rfl⟩
  go_wp2_with fail
  refine (unhide HX _ _ _).mono ?_
  rintro x w3 ⟨rfl, hb3⟩
  have HB3 := HB.call hb3
  clear hb3
  go_wp2_with (refine store_row 56 rfl _ _ rfl (w.heap.size + 1) _ _ 56 HB3.res rfl rfl (by kernel_rfl) rfl rfl ?_)
  refine ret_row rfl (w.heap.size + 1) _ _ HB3.res.row rfl _ Tryd.underlying56 rfl ?_ rfl ?_
  · kernel_rfl
  · exact ⟨below_row HB3.below (by omega) _, by decide, 0, rfl⟩
theorem rbraces_other (s : ByteArray) (n : Node) (A : Option Addr) (cap i : Nat) (G : Nat → Prop) (w : World) (hG : ∀ b, G b → b < w.heap.size) (hsl : SlOk A n.kids.length cap) (hk : KidsAt G w A n.kids) (hs : s.size ≤ 1000) (hi : i + 1 ≤ s.size) (m p : Nat) (hr : Rx.number s.data.toList (i + 1) = .ok m p) (h44 : ¬ Rx.pk s.data.toList p = 44) (hm : m ≠ 0) (h125 : ¬ Rx.pk s.data.toList p = 125) (e : Int) (q : Nat) (ho : (Rx.other s.data.toList p : Res Node) = .bad e q) (he : e ≠ 0) :
    Calls Tryd.prog 60 #[.string s, .agg #[.int .i64 (n.kind), .int .u64 ((n.set).a.toNat : Int), .int .u64 ((n.set).b.toNat : Int), .int .u64 ((n.set).c.toNat : Int), .int .u64 ((n.set).d.toNat : Int), .slice (A) (n.kids.length) (cap), .int .i64 (n.min), .int .i64 (n.max)], .int .i64 i] w (RetPG G (.bad e q) w) := by
  have HN1 := hide (fun w => rnumber_any s (i + 1) w hs hi)
  rw [hr] at HN1
  have hfn := fine_number s.data.toList (i + 1) (by simpa using hi)
  rw [hr] at hfn
  have hp : p ≤ s.size := by have := hfn.2; simpa using this
  have HI1 := hide (fun w => ris_any s p 44 w hs (by omega) (by decide))
  have HI2 := hide (fun w => ris_any s p 125 w hs (by omega) (by decide))
  have hmm := number_le hr
  rw [decide_eq_false (show ¬ Rx.pk s.data.toList p = ((44 : Nat) : Int) from h44)] at HI1
  clear hr hfn h44
  rw [decide_eq_false (show ¬ Rx.pk s.data.toList p = ((125 : Nat) : Int) from h125)] at HI2
  have HX := hide (fun w => rother_q s p w hs (by omega) e q ho)
  have z1 : ((m : Int) == 0) = false := by simp; omega
  have z2 : decide (m < m) = false := by simp
  clear hm h125 ho
  go_enter Tryd.func60, Tryd.ntmps60
  go_wp2_with fail
  refine (unhide HN1 _).mono ?_
  rintro x w1 ⟨hb1, rfl⟩
  have HB := BrAt.start (G := G) (w := w) (n := n) (A := A) (cap := cap) #[.int .i64 0, .int .u64 0, .int .u64 0, .int .u64 0, .int .u64 0, .slice none 0 0, .int .i64 0, .int .i64 0, .int .u64 0, .int .u64 0, .int .u64 0, .int .u64 0, .bool false, .int .i64 ((p : Nat)), .int .i64 (0), .int .i64 (0)] hb1
  clear hb1
  go_wp2_with fail
  refine (unhide HI1 _).mono ?_
  rintro x w2 ⟨rfl, rfl⟩
  go_wp2_with fail
  refine (unhide HI1 _).mono ?_
  rintro x w2 ⟨rfl, rfl⟩
  go_wp2_with fail
  refine (unhide HI2 _).mono ?_
  rintro x w2 ⟨rfl, rfl⟩
  go_wp2_with fail
  refine (unhide HX _).mono ?_
  rintro x w3 ⟨rfl, hb3⟩
  have HB3 := HB.call hb3
  clear hb3
  go_wp2_with (refine store_row 56 rfl _ _ rfl (w.heap.size + 1) _ _ 56 HB3.res rfl rfl (by kernel_rfl) rfl rfl ?_)
  refine ret_row rfl (w.heap.size + 1) _ _ HB3.res.row rfl _ Tryd.underlying56 rfl ?_ rfl ?_
  · kernel_rfl
  · exact ⟨below_row HB3.below (by omega) _, he, 0, rfl⟩
theorem rbraces_same (s : ByteArray) (n : Node) (A : Option Addr) (cap i : Nat) (G : Nat → Prop) (w : World) (hG : ∀ b, G b → b < w.heap.size) (hsl : SlOk A n.kids.length cap) (hk : KidsAt G w A n.kids) (hs : s.size ≤ 1000) (hi : i + 1 ≤ s.size) (m p : Nat) (hr : Rx.number s.data.toList (i + 1) = .ok m p) (h44 : ¬ Rx.pk s.data.toList p = 44) (hm : m ≠ 0) (h125 : Rx.pk s.data.toList p = 125) :
    Calls Tryd.prog 60 #[.string s, .agg #[.int .i64 (n.kind), .int .u64 ((n.set).a.toNat : Int), .int .u64 ((n.set).b.toNat : Int), .int .u64 ((n.set).c.toNat : Int), .int .u64 ((n.set).d.toNat : Int), .slice (A) (n.kids.length) (cap), .int .i64 (n.min), .int .i64 (n.max)], .int .i64 i] w (RetPG G (.ok (Rx.rep n (m : Nat) (m : Nat)) (p + 1)) w) := by
  have HN1 := hide (fun w => rnumber_any s (i + 1) w hs hi)
  rw [hr] at HN1
  have hfn := fine_number s.data.toList (i + 1) (by simpa using hi)
  rw [hr] at hfn
  have hp : p ≤ s.size := by have := hfn.2; simpa using this
  have HI1 := hide (fun w => ris_any s p 44 w hs (by omega) (by decide))
  have HI2 := hide (fun w => ris_any s p 125 w hs (by omega) (by decide))
  have hmm := number_le hr
  rw [decide_eq_false (show ¬ Rx.pk s.data.toList p = ((44 : Nat) : Int) from h44)] at HI1
  clear hr hfn h44
  rw [decide_eq_true (show Rx.pk s.data.toList p = ((125 : Nat) : Int) from h125)] at HI2
  have z1 : ((m : Int) == 0) = false := by simp; omega
  have z2 : decide (m < m) = false := by simp
  clear hm h125
  go_enter Tryd.func60, Tryd.ntmps60
  go_wp2_with fail
  refine (unhide HN1 _).mono ?_
  rintro x w1 ⟨hb1, rfl⟩
  have HB := BrAt.start (G := G) (w := w) (n := n) (A := A) (cap := cap) #[.int .i64 0, .int .u64 0, .int .u64 0, .int .u64 0, .int .u64 0, .slice none 0 0, .int .i64 0, .int .i64 0, .int .u64 0, .int .u64 0, .int .u64 0, .int .u64 0, .bool false, .int .i64 ((p : Nat)), .int .i64 (0), .int .i64 (0)] hb1
  clear hb1
  go_wp2_with fail
  refine (unhide HI1 _).mono ?_
  rintro x w2 ⟨rfl, rfl⟩
  go_wp2_with fail
  refine (unhide HI1 _).mono ?_
  rintro x w2 ⟨rfl, rfl⟩
  go_wp2_with fail
  refine (unhide HI2 _).mono ?_
  rintro x w2 ⟨rfl, rfl⟩
  go_wp2_with (refine load_row 28 rfl _ rfl w.heap.size _ 28 HB.node rfl _ Tryd.underlying28 rfl (by kernel_rfl) ?_)
  refine (rrep_any n A cap (m : Nat) (m : Nat) ((p + 1 : Nat) : Int) G _ (fun b hb => Nat.lt_of_lt_of_le (hG b hb) HB.below.size) hsl (kidsAt_keep (below_keeps HB.below hG) (fun b h => h) hk)).mono ?_
  rintro x w3 hrep
  obtain ⟨g2, rfl, hres, hfin⟩ := br_rep HB hG hrep
  have HF := hid_mk hfin
  clear hfin hrep
  go_wp2_with (refine store_row 56 rfl _ _ rfl (w.heap.size + 1) _ _ 56 hres rfl rfl (by kernel_rfl) rfl rfl ?_)
  refine ret_row rfl (w.heap.size + 1) _ _ hres.row rfl _ Tryd.underlying56 rfl ?_ rfl ?_
  · kernel_rfl
  · exact HF.out _
end Go.Proofs.YthgcefppeaopkaaDoor
