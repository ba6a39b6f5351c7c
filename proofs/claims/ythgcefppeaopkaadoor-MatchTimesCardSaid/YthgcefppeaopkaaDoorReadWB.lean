/- Walks over the pattern reader: pieces. -/
import Derived.Test.YthgcefppeaopkaaDoorReadWA
import Derived.Test.YthgcefppeaopkaaDoorNodeJ
import Derived.Deep.Cut
namespace Go.Proofs.YthgcefppeaopkaaDoor
open Go Go.RowKit Go.Sort
set_option maxRecDepth 100000
set_option linter.unusedSimpArgs false
set_option linter.unusedVariables false
set_option maxHeartbeats 1000000
/-- the blocks that were made from w to w' -/
def New (w w' : World) (b : Nat) : Prop := w.heap.size ≤ b ∧ b < w'.heap.size
/-- a reader hands back a tree, or gives up -/
def RetNd (s : ByteArray) (rb op : Nat) (r : Res Node) (w : World) (x : Ending) (w' : World) : Prop :=
  Only rb w w' ∧ match r with
  | .ok n p => RD s rb p op w' ∧ ∃ (A : Option Addr) (cap : Nat), x = .returned (.agg #[.int .i64 (n.kind), .int .u64 ((n.set).a.toNat : Int), .int .u64 ((n.set).b.toNat : Int), .int .u64 ((n.set).c.toNat : Int), .int .u64 ((n.set).d.toNat : Int), .slice (A) (n.kids.length) (cap), .int .i64 (n.min), .int .i64 (n.max)]) ∧ SlOk A n.kids.length cap ∧ KidsAt (New w w') w' A n.kids
  | .bad e p => x = .panicked (faultV e p)
  | .out => True
theorem RetNd.bad {s : ByteArray} {rb op : Nat} {w w' : World} {e : Int} {p : Nat} (h : Only rb w w') : RetNd s rb op (.bad e p) w (.panicked (faultV e p)) w' := ⟨h, rfl⟩
theorem RetNd.ok {s : ByteArray} {rb op p : Nat} {w w' : World} {n : Node} {A : Option Addr} {cap : Nat} (h : Only rb w w') (hd : RD s rb p op w') (hs : SlOk A n.kids.length cap) (hk : KidsAt (New w w') w' A n.kids) :
    RetNd s rb op (.ok n p) w (.returned (.agg #[.int .i64 (n.kind), .int .u64 ((n.set).a.toNat : Int), .int .u64 ((n.set).b.toNat : Int), .int .u64 ((n.set).c.toNat : Int), .int .u64 ((n.set).d.toNat : Int), .slice (A) (n.kids.length) (cap), .int .i64 (n.min), .int .i64 (n.max)])) w' := ⟨h, hd, A, cap, rfl, hs, hk⟩
/-- what a walk knows of the atoms that it calls -/
def AtomOk (s : ByteArray) (rb op : Nat) (atm : Nat → Res Node) : Prop :=
  ∀ (w : World) (i : Nat), RD s rb i op w → TabW w → i ≤ s.size → Calls Tryd.prog 55 #[.pointer (some ⟨rb, 0, none⟩)] w (RetNd s rb op (atm i) w)
theorem kids_only {rb : Nat} {w0 w w' : World} {A : Option Addr} {ns : List Node} (ho : Only rb w w') (hr : rb < w0.heap.size) (h : KidsAt (New w0 w) w A ns) : KidsAt (New w0 w') w' A ns :=
  kidsAt_keep (fun b hb => ho.block b hb.2 (by have := hb.1; omega)) (fun b hb => ⟨hb.1, Nat.lt_of_lt_of_le hb.2 ho.size⟩) h
theorem kids_more {w0 w1 w : World} {A : Option Addr} {ns : List Node} (hs : w1.heap.size ≤ w0.heap.size) (h : KidsAt (New w0 w) w A ns) : KidsAt (New w1 w) w A ns :=
  kidsAt_keep (fun b hb => rfl) (fun b hb => ⟨Nat.le_trans hs hb.1, hb.2⟩) h
theorem Blk.newAt {w : World} {g : Nat} {cs : Array Value} {t : TypeId} (h : w.heap.size = g) : Blk (w.alloc (.cells cs t)) g cs t := by subst h; exact Blk.new w cs t
/-- the cells of g are set -/
theorem Blk.put8 {w : World} {g t : Nat} {cs : Array Value} (h : Blk w g cs t) (hc : cs.size = 8) (v0 v1 v2 v3 v4 v5 v6 v7 : Value) : Blk ((((((((w.setCell ⟨g, 0, none⟩ v0).setCell ⟨g, 1, none⟩ v1).setCell ⟨g, 2, none⟩ v2).setCell ⟨g, 3, none⟩ v3).setCell ⟨g, 4, none⟩ v4).setCell ⟨g, 5, none⟩ v5).setCell ⟨g, 6, none⟩ v6).setCell ⟨g, 7, none⟩ v7) g #[v0, v1, v2, v3, v4, v5, v6, v7] t := by
  refine Blk.is ((((((((h.put 0 v0).put 1 v1).put 2 v2).put 3 v3).put 4 v4).put 5 v5).put 6 v6).put 7 v7) ?_
  obtain ⟨l⟩ := cs
  match l, hc with
  | [a0, a1, a2, a3, a4, a5, a6, a7], _ => rfl
/-- the kids of a repetition: one node, laid in a block of its own -/
theorem kids_one {G : Nat → Prop} {w : World} {g t : Nat} {n : Node} {A : Option Addr} {cap : Nat} (hg : G g) (hb : Blk w g #[.int .i64 (n.kind), .int .u64 ((n.set).a.toNat : Int), .int .u64 ((n.set).b.toNat : Int), .int .u64 ((n.set).c.toNat : Int), .int .u64 ((n.set).d.toNat : Int), .slice (A) (n.kids.length) (cap), .int .i64 (n.min), .int .i64 (n.max)] t) (hs : SlOk A n.kids.length cap) (hk : KidsAt G w A n.kids) : KidsAt G w (some ⟨g, 0, none⟩) [n] := fun _ =>
  ⟨g, 0, rfl, hg, _, nodesAt_one (nodeAt_of hs hk), fun j u hj => by
    rw [Nat.zero_add]
    exact (hb.cell j).trans (by simpa using hj)⟩
/-- behind the last steps of a repetition -/
def repW (V : World) (g : Nat) (n : Node) (A : Option Addr) (cap : Nat) (low high : Int) : World :=
  ((((((((V.setCell ⟨g, 0, none⟩ (.int .i64 4)).setCell ⟨g, 1, none⟩ (.int .u64 0)).setCell ⟨g, 2, none⟩ (.int .u64 0)).setCell ⟨g, 3, none⟩ (.int .u64 0)).setCell ⟨g, 4, none⟩ (.int .u64 0)).setCell ⟨g, 5, none⟩ (.slice (some ⟨V.heap.size, 0, none⟩) 1 1)).setCell ⟨g, 6, none⟩ (.int .i64 low)).setCell ⟨g, 7, none⟩ (.int .i64 high)).alloc (.cells #[.int .i64 (n.kind), .int .u64 ((n.set).a.toNat : Int), .int .u64 ((n.set).b.toNat : Int), .int .u64 ((n.set).c.toNat : Int), .int .u64 ((n.set).d.toNat : Int), .slice (A) (n.kids.length) (cap), .int .i64 (n.min), .int .i64 (n.max)] 28)
theorem rep_only (V : World) (g : Nat) (n : Node) (A : Option Addr) (cap : Nat) (low high : Int) : Only g V (repW V g n A cap low high) := (set8_only g V _ _ _ _ _ _ _ _).alloc _
theorem set8_size (rb : Nat) (w : World) (v0 v1 v2 v3 v4 v5 v6 v7 : Value) : ((((((((w.setCell ⟨rb, 0, none⟩ v0).setCell ⟨rb, 1, none⟩ v1).setCell ⟨rb, 2, none⟩ v2).setCell ⟨rb, 3, none⟩ v3).setCell ⟨rb, 4, none⟩ v4).setCell ⟨rb, 5, none⟩ v5).setCell ⟨rb, 6, none⟩ v6).setCell ⟨rb, 7, none⟩ v7).heap.size = w.heap.size := by simp [World.setCell]
theorem rep_final {s : ByteArray} {rb op q : Nat} {w w0 V : World} {n : Node} {A : Option Addr} {cap : Nat} {low high : Int} (ho : Only rb w V) (hd : RD s rb q op V) (hrb : rb < w.heap.size) (h0 : w.heap.size < w0.heap.size) (hV : w0.heap.size ≤ V.heap.size)
    (hs : SlOk A n.kids.length cap) (hk : KidsAt (New w0 V) V A n.kids) :
    RetNd s rb op (.ok (Rx.rep n low high) q) w (.returned (.agg #[.int .i64 4, .int .u64 0, .int .u64 0, .int .u64 0, .int .u64 0, .slice (some ⟨V.heap.size, 0, none⟩) 1 1, .int .i64 low, .int .i64 high])) (repW V w.heap.size n A cap low high) := by
  have h2 := rep_only V w.heap.size n A cap low high
  have h3 : Only rb w (repW V w.heap.size n A cap low high) := ⟨h2.os.trans ho.os, h2.tape.trans ho.tape, h2.output.trans ho.output, Nat.le_trans ho.size h2.size, fun k hk hne => (h2.block k (Nat.lt_of_lt_of_le hk ho.size) (by omega)).trans (ho.block k hk hne)⟩
  have hnb : Blk (repW V w.heap.size n A cap low high) V.heap.size #[.int .i64 (n.kind), .int .u64 ((n.set).a.toNat : Int), .int .u64 ((n.set).b.toNat : Int), .int .u64 ((n.set).c.toNat : Int), .int .u64 ((n.set).d.toNat : Int), .slice (A) (n.kids.length) (cap), .int .i64 (n.min), .int .i64 (n.max)] 28 := Blk.newAt (set8_size _ _ _ _ _ _ _ _ _ _)
  have hrd : RD s rb q op (repW V w.heap.size n A cap low high) := h2.blk (by omega) hd
  have hrl := ho.size
  refine ⟨h3, hrd, some ⟨V.heap.size, 0, none⟩, 1, rfl, ⟨Nat.le_refl _, fun h => by cases h⟩, kids_one ⟨by omega, hnb.lt⟩ hnb hs ?_⟩
  exact kidsAt_keep (fun b hb => h2.block b hb.2 (by have := hb.1; omega)) (fun b hb => ⟨by have := hb.1; omega, Nat.lt_of_lt_of_le hb.2 h2.size⟩) hk
/-- what the walk of a piece knows behind its atom -/
structure PieceAt (s : ByteArray) (rb op q : Nat) (w w0 V : World) (n : Node) (A : Option Addr) (cap g : Nat) : Prop where
  only : Only rb w V
  rd : RD s rb q op V
  res : Blk V w.heap.size #[.int .i64 0, .int .u64 0, .int .u64 0, .int .u64 0, .int .u64 0, .slice none 0 0, .int .i64 0, .int .i64 0] 28
  box : Blk V g #[.int .i64 (n.kind), .int .u64 ((n.set).a.toNat : Int), .int .u64 ((n.set).b.toNat : Int), .int .u64 ((n.set).c.toNat : Int), .int .u64 ((n.set).d.toNat : Int), .slice (A) (n.kids.length) (cap), .int .i64 (n.min), .int .i64 (n.max)] 28
  sl : SlOk A n.kids.length cap
  kids : KidsAt (New w0 V) V A n.kids
  rb : rb < w.heap.size
  old : w.heap.size < w0.heap.size
  new : w0.heap.size ≤ g
theorem PieceAt.step {s : ByteArray} {rb op q q' : Nat} {w w0 V V' : World} {n : Node} {A : Option Addr} {cap g : Nat} (h : PieceAt s rb op q w w0 V n A cap g) (ho : Only rb V V') (hd : RD s rb q' op V') : PieceAt s rb op q' w w0 V' n A cap g :=
  ⟨h.only.step ho, hd, ho.blk (by have := h.rb; omega) h.res, ho.blk (by have := h.rb; have := h.old; have := h.new; omega) h.box, h.sl, kids_only ho (by have := h.rb; have := h.old; omega) h.kids, h.rb, h.old, h.new⟩
/-- behind an atom: the result's place was made before it, a box for the node behind it -/
theorem PieceAt.start {s : ByteArray} {rb op q : Nat} {w w1 : World} {n : Node} {A : Option Addr} {cap : Nat} (hrb : rb < w.heap.size) (ho : Only rb (w.alloc (.cells #[.int .i64 0, .int .u64 0, .int .u64 0, .int .u64 0, .int .u64 0, .slice none 0 0, .int .i64 0, .int .i64 0] 28)) w1) (hd : RD s rb q op w1) (hs : SlOk A n.kids.length cap)
    (hk : KidsAt (New (w.alloc (.cells #[.int .i64 0, .int .u64 0, .int .u64 0, .int .u64 0, .int .u64 0, .slice none 0 0, .int .i64 0, .int .i64 0] 28)) w1) w1 A n.kids) :
    PieceAt s rb op q w (w.alloc (.cells #[.int .i64 0, .int .u64 0, .int .u64 0, .int .u64 0, .int .u64 0, .slice none 0 0, .int .i64 0, .int .i64 0] 28)) (w1.alloc (.cells #[.int .i64 (n.kind), .int .u64 ((n.set).a.toNat : Int), .int .u64 ((n.set).b.toNat : Int), .int .u64 ((n.set).c.toNat : Int), .int .u64 ((n.set).d.toNat : Int), .slice (A) (n.kids.length) (cap), .int .i64 (n.min), .int .i64 (n.max)] 28)) n A cap w1.heap.size :=
  ⟨(((Only.refl rb w).alloc _).step ho).alloc _, Blk.alloc hd _, Blk.alloc (ho.blk (by omega) (Blk.new w _ _)) _, Blk.new w1 _ _, hs, kids_only ((Only.refl rb w1).alloc _) (by simp; omega) hk, hrb, by simp, ho.size⟩
theorem RD.nextD {s : ByteArray} {rb i op : Nat} {w : World} (h : RD s rb i op w) (m : Nat) : RD s rb (i + 1) op ((w.setCell ⟨rb, 1, none⟩ (.int .i64 ((i : Int) + 1))).drewN m) := (RD.next h).drewN m
theorem nextD_only (rb i : Nat) (w : World) (m : Nat) : Only rb w ((w.setCell ⟨rb, 1, none⟩ (.int .i64 ((i : Int) + 1))).drewN m) := ((Only.refl rb w).set (Or.inl rfl) _).drewN m
theorem PieceAt.start2 {s : ByteArray} {rb op q m : Nat} {w w1 : World} {n : Node} {A : Option Addr} {cap : Nat} (hrb : rb < w.heap.size) (ho : Only rb (w.alloc (.cells #[.int .i64 0, .int .u64 0, .int .u64 0, .int .u64 0, .int .u64 0, .slice none 0 0, .int .i64 0, .int .i64 0] 28)) w1) (hd : RD s rb q op w1) (hs : SlOk A n.kids.length cap)
    (hk : KidsAt (New (w.alloc (.cells #[.int .i64 0, .int .u64 0, .int .u64 0, .int .u64 0, .int .u64 0, .slice none 0 0, .int .i64 0, .int .i64 0] 28)) w1) w1 A n.kids) :
    PieceAt s rb op (q + 1) w (w.alloc (.cells #[.int .i64 0, .int .u64 0, .int .u64 0, .int .u64 0, .int .u64 0, .slice none 0 0, .int .i64 0, .int .i64 0] 28)) (((w1.setCell ⟨rb, 1, none⟩ (.int .i64 ((q : Int) + 1))).alloc (.cells #[.int .i64 (n.kind), .int .u64 ((n.set).a.toNat : Int), .int .u64 ((n.set).b.toNat : Int), .int .u64 ((n.set).c.toNat : Int), .int .u64 ((n.set).d.toNat : Int), .slice (A) (n.kids.length) (cap), .int .i64 (n.min), .int .i64 (n.max)] 28)).drewN m) n A cap w1.heap.size := by
  have h := PieceAt.start (n := n) hrb (ho.set (Or.inl rfl) (.int .i64 ((q : Int) + 1))) (RD.next hd) hs (kids_only ((Only.refl rb w1).set (Or.inl rfl) _) (by simp; omega) hk)
  rw [show (w1.setCell ⟨rb, 1, none⟩ (.int .i64 ((q : Int) + 1))).heap.size = w1.heap.size by simp [World.setCell]] at h
  exact h.step ((Only.refl _ _).drewN m) (h.rd.drewN m)
theorem own_final {s : ByteArray} {rb op q g : Nat} {w w0 V V' : World} {n : Node} {A : Option Addr} {cap : Nat} (h : PieceAt s rb op q w w0 V n A cap g) (h1 : Only w.heap.size V V') :
    RetNd s rb op (.ok n q) w (.returned (.agg #[.int .i64 (n.kind), .int .u64 ((n.set).a.toNat : Int), .int .u64 ((n.set).b.toNat : Int), .int .u64 ((n.set).c.toNat : Int), .int .u64 ((n.set).d.toNat : Int), .slice (A) (n.kids.length) (cap), .int .i64 (n.min), .int .i64 (n.max)])) V' := by
  have hrb := h.rb
  have hs := h.only.size
  refine RetNd.ok ⟨h1.os.trans h.only.os, h1.tape.trans h.only.tape, h1.output.trans h.only.output, Nat.le_trans hs h1.size, fun k hk hne => (h1.block k (Nat.lt_of_lt_of_le hk hs) (by omega)).trans (h.only.block k hk hne)⟩ (h1.blk (by omega) h.rd) h.sl ?_
  exact kidsAt_keep (fun b hb => h1.block b hb.2 (by have := hb.1; have := h.old; omega)) (fun b hb => ⟨by have := hb.1; have := h.old; omega, Nat.lt_of_lt_of_le hb.2 h1.size⟩) h.kids
theorem piece_42 (s : ByteArray) (rb i op : Nat) (atm : Nat → Res Node) (HA : AtomOk s rb op atm) (hf : ∀ i, i ≤ s.data.toList.length → Fine s.data.toList i (atm i)) (w : World) (h : RD s rb i op w) (hs : s.size ≤ 1000) (hi : i ≤ s.size) (hT : TabW w) (hr : 0 ≠ rb) (n : Node) (p : Nat) (hit : atm i = .ok n p) (hc1 :  Rx.pk s.data.toList p = 42) :
    Calls Tryd.prog 51 #[.pointer (some ⟨rb, 0, none⟩)] w (RetNd s rb op (Rx.piece s.data.toList atm i) w) := by
  have hl : rb < w.heap.size := h.lt
  have HA1 := hide (HA (w.alloc (.cells #[.int .i64 0, .int .u64 0, .int .u64 0, .int .u64 0, .int .u64 0, .slice none 0 0, .int .i64 0, .int .i64 0] 28)) i (Blk.alloc h _) (hT.only (rb := rb) ((Only.refl rb w).alloc _) hr) hi)
  have hfi := hf i (by simpa using hi)
  rw [hit] at HA1 hfi
  have hp : p ≤ s.size := by simpa using hfi.2
  have HP : Hid (Rx.piece s.data.toList atm i = _) := hid_mk (by unfold Rx.piece; rw [hit])
  dsimp only at HP
  clear h hT HA hf hit hfi
  have hb := pk_bd s.data.toList p
  have hbp := pk_in (l := s.data.toList) (i := p)
  rw [len_data] at hbp
  have HPK := hide (fun a h => peek_any s rb p op a h hs (by omega))
  have HE := hid_mk (HP.out.trans (if_pos hc1))
  rw [hc1] at HPK hbp
  have hlt := hbp (by decide)
  rw [HE.out]
  clear HP HE hb hbp hc1
  go_enter Tryd.func51, Tryd.ntmps51
  go_wp2_with fail
  refine (unhide HA1).mono ?_
  rintro x w1 ⟨ho, hd, A, cap, rfl, hsl, hk⟩
  have HS := hid_mk (PieceAt.start hl ho hd hsl hk)
  have HS2 := hid_mk (fun m => PieceAt.start2 (m := m) hl ho hd hsl hk)
  (have g0 : (w1.alloc (.cells #[.int .i64 (n.kind), .int .u64 ((n.set).a.toNat : Int), .int .u64 ((n.set).b.toNat : Int), .int .u64 ((n.set).c.toNat : Int), .int .u64 ((n.set).d.toNat : Int), .slice (A) (n.kids.length) (cap), .int .i64 (n.min), .int .i64 (n.max)] 28)).cell? ⟨rb, 0, none⟩ = some (.string s) := HS.out.rd.cell 0; have g1 : (w1.alloc (.cells #[.int .i64 (n.kind), .int .u64 ((n.set).a.toNat : Int), .int .u64 ((n.set).b.toNat : Int), .int .u64 ((n.set).c.toNat : Int), .int .u64 ((n.set).d.toNat : Int), .slice (A) (n.kids.length) (cap), .int .i64 (n.min), .int .i64 (n.max)] 28)).cell? ⟨rb, 1, none⟩ = some (.int .i64 ((p : Nat) : Int)) := HS.out.rd.cell 1; have g2 : (w1.alloc (.cells #[.int .i64 (n.kind), .int .u64 ((n.set).a.toNat : Int), .int .u64 ((n.set).b.toNat : Int), .int .u64 ((n.set).c.toNat : Int), .int .u64 ((n.set).d.toNat : Int), .slice (A) (n.kids.length) (cap), .int .i64 (n.min), .int .i64 (n.max)] 28)).cell? ⟨rb, 2, none⟩ = some (.int .i64 ((op : Nat) : Int)) := HS.out.rd.cell 2; have gf : ∀ i, (w1.alloc (.cells #[.int .i64 (n.kind), .int .u64 ((n.set).a.toNat : Int), .int .u64 ((n.set).b.toNat : Int), .int .u64 ((n.set).c.toNat : Int), .int .u64 ((n.set).d.toNat : Int), .slice (A) (n.kids.length) (cap), .int .i64 (n.min), .int .i64 (n.max)] 28)).frozen? ⟨rb, i, none⟩ = false := HS.out.rd.frozen)
  have hl1 : rb < w1.heap.size := hd.lt
  have hz1 : w.heap.size < w1.heap.size := by have := ho.size; simp at this; omega
  clear ho hd hsl hk
  go_wp2_with fail
  refine (unhide HPK _ HS.out.rd).mono ?_
  rintro x w2 ⟨rfl, m, rfl⟩
  go_upto_region 16 with (fail)
  have HV := hid_mk (HS2.out m)
  clear HS HS2 g0 g1 g2 gf
  generalize ((w1.setCell ⟨rb, 1, none⟩ (.int .i64 ((p : Int) + 1))).alloc (.cells #[.int .i64 (n.kind), .int .u64 ((n.set).a.toNat : Int), .int .u64 ((n.set).b.toNat : Int), .int .u64 ((n.set).c.toNat : Int), .int .u64 ((n.set).d.toNat : Int), .slice (A) (n.kids.length) (cap), .int .i64 (n.min), .int .i64 (n.max)] 28)).drewN m = V at *
  (have y0 : V.cell? ⟨w1.heap.size, 0, none⟩ = some (.int .i64 (n.kind)) := HV.out.box.cell 0; have y1 : V.cell? ⟨w1.heap.size, 1, none⟩ = some (.int .u64 ((n.set).a.toNat : Int)) := HV.out.box.cell 1; have y2 : V.cell? ⟨w1.heap.size, 2, none⟩ = some (.int .u64 ((n.set).b.toNat : Int)) := HV.out.box.cell 2; have y3 : V.cell? ⟨w1.heap.size, 3, none⟩ = some (.int .u64 ((n.set).c.toNat : Int)) := HV.out.box.cell 3; have y4 : V.cell? ⟨w1.heap.size, 4, none⟩ = some (.int .u64 ((n.set).d.toNat : Int)) := HV.out.box.cell 4; have y5 : V.cell? ⟨w1.heap.size, 5, none⟩ = some (.slice (A) (n.kids.length) (cap)) := HV.out.box.cell 5; have y6 : V.cell? ⟨w1.heap.size, 6, none⟩ = some (.int .i64 (n.min)) := HV.out.box.cell 6; have y7 : V.cell? ⟨w1.heap.size, 7, none⟩ = some (.int .i64 (n.max)) := HV.out.box.cell 7; have yf : ∀ i, V.frozen? ⟨w1.heap.size, i, none⟩ = false := HV.out.box.frozen)
  (have r0 : V.cell? ⟨w.heap.size, 0, none⟩ = some (.int .i64 0) := HV.out.res.cell 0; have r1 : V.cell? ⟨w.heap.size, 1, none⟩ = some (.int .u64 0) := HV.out.res.cell 1; have r2 : V.cell? ⟨w.heap.size, 2, none⟩ = some (.int .u64 0) := HV.out.res.cell 2; have r3 : V.cell? ⟨w.heap.size, 3, none⟩ = some (.int .u64 0) := HV.out.res.cell 3; have r4 : V.cell? ⟨w.heap.size, 4, none⟩ = some (.int .u64 0) := HV.out.res.cell 4; have r5 : V.cell? ⟨w.heap.size, 5, none⟩ = some (.slice none 0 0) := HV.out.res.cell 5; have r6 : V.cell? ⟨w.heap.size, 6, none⟩ = some (.int .i64 0) := HV.out.res.cell 6; have r7 : V.cell? ⟨w.heap.size, 7, none⟩ = some (.int .i64 0) := HV.out.res.cell 7; have rf : ∀ i, V.frozen? ⟨w.heap.size, i, none⟩ = false := HV.out.res.frozen)
  have hz2 : w1.heap.size < V.heap.size := HV.out.box.lt
  have hz3 : w.heap.size < V.heap.size := HV.out.res.lt
  go_wp2
  refine bodyPost_ret (v := .agg #[.int .i64 4, .int .u64 0, .int .u64 0, .int .u64 0, .int .u64 0, .slice (some ⟨V.heap.size, 0, none⟩) 1 1, .int .i64 (0), .int .i64 (-1)]) (by simp [results, Tryd.results51, go_sem, r0, r1, r2, r3, r4, r5, r6, r7, hz1, hz2, hz3]) rfl ?_
  exact rep_final HV.out.only HV.out.rd hl HV.out.old (Nat.le_trans HV.out.new (Nat.le_of_lt hz2)) HV.out.sl HV.out.kids
theorem piece_43 (s : ByteArray) (rb i op : Nat) (atm : Nat → Res Node) (HA : AtomOk s rb op atm) (hf : ∀ i, i ≤ s.data.toList.length → Fine s.data.toList i (atm i)) (w : World) (h : RD s rb i op w) (hs : s.size ≤ 1000) (hi : i ≤ s.size) (hT : TabW w) (hr : 0 ≠ rb) (n : Node) (p : Nat) (hit : atm i = .ok n p) (hc1 : ¬ Rx.pk s.data.toList p = 42) (hc2 :  Rx.pk s.data.toList p = 43) :
    Calls Tryd.prog 51 #[.pointer (some ⟨rb, 0, none⟩)] w (RetNd s rb op (Rx.piece s.data.toList atm i) w) := by
  have hl : rb < w.heap.size := h.lt
  have HA1 := hide (HA (w.alloc (.cells #[.int .i64 0, .int .u64 0, .int .u64 0, .int .u64 0, .int .u64 0, .slice none 0 0, .int .i64 0, .int .i64 0] 28)) i (Blk.alloc h _) (hT.only (rb := rb) ((Only.refl rb w).alloc _) hr) hi)
  have hfi := hf i (by simpa using hi)
  rw [hit] at HA1 hfi
  have hp : p ≤ s.size := by simpa using hfi.2
  have HP : Hid (Rx.piece s.data.toList atm i = _) := hid_mk (by unfold Rx.piece; rw [hit])
  dsimp only at HP
  clear h hT HA hf hit hfi
  have hb := pk_bd s.data.toList p
  have hbp := pk_in (l := s.data.toList) (i := p)
  rw [len_data] at hbp
  have HPK := hide (fun a h => peek_any s rb p op a h hs (by omega))
  have HP2 := hid_mk (HP.out.trans (if_neg hc1))
  have HE := hid_mk (HP2.out.trans (if_pos hc2))
  rw [hc2] at HPK hbp
  have hlt := hbp (by decide)
  rw [HE.out]
  clear HP HE hb hbp hc2 HP2 hc1
  go_enter Tryd.func51, Tryd.ntmps51
  go_wp2_with fail
  refine (unhide HA1).mono ?_
  rintro x w1 ⟨ho, hd, A, cap, rfl, hsl, hk⟩
  have HS := hid_mk (PieceAt.start hl ho hd hsl hk)
  have HS2 := hid_mk (fun m => PieceAt.start2 (m := m) hl ho hd hsl hk)
  (have g0 : (w1.alloc (.cells #[.int .i64 (n.kind), .int .u64 ((n.set).a.toNat : Int), .int .u64 ((n.set).b.toNat : Int), .int .u64 ((n.set).c.toNat : Int), .int .u64 ((n.set).d.toNat : Int), .slice (A) (n.kids.length) (cap), .int .i64 (n.min), .int .i64 (n.max)] 28)).cell? ⟨rb, 0, none⟩ = some (.string s) := HS.out.rd.cell 0; have g1 : (w1.alloc (.cells #[.int .i64 (n.kind), .int .u64 ((n.set).a.toNat : Int), .int .u64 ((n.set).b.toNat : Int), .int .u64 ((n.set).c.toNat : Int), .int .u64 ((n.set).d.toNat : Int), .slice (A) (n.kids.length) (cap), .int .i64 (n.min), .int .i64 (n.max)] 28)).cell? ⟨rb, 1, none⟩ = some (.int .i64 ((p : Nat) : Int)) := HS.out.rd.cell 1; have g2 : (w1.alloc (.cells #[.int .i64 (n.kind), .int .u64 ((n.set).a.toNat : Int), .int .u64 ((n.set).b.toNat : Int), .int .u64 ((n.set).c.toNat : Int), .int .u64 ((n.set).d.toNat : Int), .slice (A) (n.kids.length) (cap), .int .i64 (n.min), .int .i64 (n.max)] 28)).cell? ⟨rb, 2, none⟩ = some (.int .i64 ((op : Nat) : Int)) := HS.out.rd.cell 2; have gf : ∀ i, (w1.alloc (.cells #[.int .i64 (n.kind), .int .u64 ((n.set).a.toNat : Int), .int .u64 ((n.set).b.toNat : Int), .int .u64 ((n.set).c.toNat : Int), .int .u64 ((n.set).d.toNat : Int), .slice (A) (n.kids.length) (cap), .int .i64 (n.min), .int .i64 (n.max)] 28)).frozen? ⟨rb, i, none⟩ = false := HS.out.rd.frozen)
  have hl1 : rb < w1.heap.size := hd.lt
  have hz1 : w.heap.size < w1.heap.size := by have := ho.size; simp at this; omega
  clear ho hd hsl hk
  go_wp2_with fail
  refine (unhide HPK _ HS.out.rd).mono ?_
  rintro x w2 ⟨rfl, m, rfl⟩
  go_upto_region 16 with (fail)
  have HV := hid_mk (HS2.out m)
  clear HS HS2 g0 g1 g2 gf
  generalize ((w1.setCell ⟨rb, 1, none⟩ (.int .i64 ((p : Int) + 1))).alloc (.cells #[.int .i64 (n.kind), .int .u64 ((n.set).a.toNat : Int), .int .u64 ((n.set).b.toNat : Int), .int .u64 ((n.set).c.toNat : Int), .int .u64 ((n.set).d.toNat : Int), .slice (A) (n.kids.length) (cap), .int .i64 (n.min), .int .i64 (n.max)] 28)).drewN m = V at *
  (have y0 : V.cell? ⟨w1.heap.size, 0, none⟩ = some (.int .i64 (n.kind)) := HV.out.box.cell 0; have y1 : V.cell? ⟨w1.heap.size, 1, none⟩ = some (.int .u64 ((n.set).a.toNat : Int)) := HV.out.box.cell 1; have y2 : V.cell? ⟨w1.heap.size, 2, none⟩ = some (.int .u64 ((n.set).b.toNat : Int)) := HV.out.box.cell 2; have y3 : V.cell? ⟨w1.heap.size, 3, none⟩ = some (.int .u64 ((n.set).c.toNat : Int)) := HV.out.box.cell 3; have y4 : V.cell? ⟨w1.heap.size, 4, none⟩ = some (.int .u64 ((n.set).d.toNat : Int)) := HV.out.box.cell 4; have y5 : V.cell? ⟨w1.heap.size, 5, none⟩ = some (.slice (A) (n.kids.length) (cap)) := HV.out.box.cell 5; have y6 : V.cell? ⟨w1.heap.size, 6, none⟩ = some (.int .i64 (n.min)) := HV.out.box.cell 6; have y7 : V.cell? ⟨w1.heap.size, 7, none⟩ = some (.int .i64 (n.max)) := HV.out.box.cell 7; have yf : ∀ i, V.frozen? ⟨w1.heap.size, i, none⟩ = false := HV.out.box.frozen)
  (have r0 : V.cell? ⟨w.heap.size, 0, none⟩ = some (.int .i64 0) := HV.out.res.cell 0; have r1 : V.cell? ⟨w.heap.size, 1, none⟩ = some (.int .u64 0) := HV.out.res.cell 1; have r2 : V.cell? ⟨w.heap.size, 2, none⟩ = some (.int .u64 0) := HV.out.res.cell 2; have r3 : V.cell? ⟨w.heap.size, 3, none⟩ = some (.int .u64 0) := HV.out.res.cell 3; have r4 : V.cell? ⟨w.heap.size, 4, none⟩ = some (.int .u64 0) := HV.out.res.cell 4; have r5 : V.cell? ⟨w.heap.size, 5, none⟩ = some (.slice none 0 0) := HV.out.res.cell 5; have r6 : V.cell? ⟨w.heap.size, 6, none⟩ = some (.int .i64 0) := HV.out.res.cell 6; have r7 : V.cell? ⟨w.heap.size, 7, none⟩ = some (.int .i64 0) := HV.out.res.cell 7; have rf : ∀ i, V.frozen? ⟨w.heap.size, i, none⟩ = false := HV.out.res.frozen)
  have hz2 : w1.heap.size < V.heap.size := HV.out.box.lt
  have hz3 : w.heap.size < V.heap.size := HV.out.res.lt
  go_wp2
  refine bodyPost_ret (v := .agg #[.int .i64 4, .int .u64 0, .int .u64 0, .int .u64 0, .int .u64 0, .slice (some ⟨V.heap.size, 0, none⟩) 1 1, .int .i64 (1), .int .i64 (-1)]) (by simp [results, Tryd.results51, go_sem, r0, r1, r2, r3, r4, r5, r6, r7, hz1, hz2, hz3]) rfl ?_
  exact rep_final HV.out.only HV.out.rd hl HV.out.old (Nat.le_trans HV.out.new (Nat.le_of_lt hz2)) HV.out.sl HV.out.kids
theorem piece_63 (s : ByteArray) (rb i op : Nat) (atm : Nat → Res Node) (HA : AtomOk s rb op atm) (hf : ∀ i, i ≤ s.data.toList.length → Fine s.data.toList i (atm i)) (w : World) (h : RD s rb i op w) (hs : s.size ≤ 1000) (hi : i ≤ s.size) (hT : TabW w) (hr : 0 ≠ rb) (n : Node) (p : Nat) (hit : atm i = .ok n p) (hc1 : ¬ Rx.pk s.data.toList p = 42) (hc2 : ¬ Rx.pk s.data.toList p = 43) (hc3 :  Rx.pk s.data.toList p = 63) :
    Calls Tryd.prog 51 #[.pointer (some ⟨rb, 0, none⟩)] w (RetNd s rb op (Rx.piece s.data.toList atm i) w) := by
  have hl : rb < w.heap.size := h.lt
  have HA1 := hide (HA (w.alloc (.cells #[.int .i64 0, .int .u64 0, .int .u64 0, .int .u64 0, .int .u64 0, .slice none 0 0, .int .i64 0, .int .i64 0] 28)) i (Blk.alloc h _) (hT.only (rb := rb) ((Only.refl rb w).alloc _) hr) hi)
  have hfi := hf i (by simpa using hi)
  rw [hit] at HA1 hfi
  have hp : p ≤ s.size := by simpa using hfi.2
  have HP : Hid (Rx.piece s.data.toList atm i = _) := hid_mk (by unfold Rx.piece; rw [hit])
  dsimp only at HP
  clear h hT HA hf hit hfi
  have hb := pk_bd s.data.toList p
  have hbp := pk_in (l := s.data.toList) (i := p)
  rw [len_data] at hbp
  have HPK := hide (fun a h => peek_any s rb p op a h hs (by omega))
  have HP2 := hid_mk (HP.out.trans (if_neg hc1))
  have HP3 := hid_mk (HP2.out.trans (if_neg hc2))
  have HE := hid_mk (HP3.out.trans (if_pos hc3))
  rw [hc3] at HPK hbp
  have hlt := hbp (by decide)
  rw [HE.out]
  clear HP HE hb hbp hc3 HP2 HP3 hc1 hc2
  go_enter Tryd.func51, Tryd.ntmps51
  go_wp2_with fail
  refine (unhide HA1).mono ?_
  rintro x w1 ⟨ho, hd, A, cap, rfl, hsl, hk⟩
  have HS := hid_mk (PieceAt.start hl ho hd hsl hk)
  have HS2 := hid_mk (fun m => PieceAt.start2 (m := m) hl ho hd hsl hk)
  (have g0 : (w1.alloc (.cells #[.int .i64 (n.kind), .int .u64 ((n.set).a.toNat : Int), .int .u64 ((n.set).b.toNat : Int), .int .u64 ((n.set).c.toNat : Int), .int .u64 ((n.set).d.toNat : Int), .slice (A) (n.kids.length) (cap), .int .i64 (n.min), .int .i64 (n.max)] 28)).cell? ⟨rb, 0, none⟩ = some (.string s) := HS.out.rd.cell 0; have g1 : (w1.alloc (.cells #[.int .i64 (n.kind), .int .u64 ((n.set).a.toNat : Int), .int .u64 ((n.set).b.toNat : Int), .int .u64 ((n.set).c.toNat : Int), .int .u64 ((n.set).d.toNat : Int), .slice (A) (n.kids.length) (cap), .int .i64 (n.min), .int .i64 (n.max)] 28)).cell? ⟨rb, 1, none⟩ = some (.int .i64 ((p : Nat) : Int)) := HS.out.rd.cell 1; have g2 : (w1.alloc (.cells #[.int .i64 (n.kind), .int .u64 ((n.set).a.toNat : Int), .int .u64 ((n.set).b.toNat : Int), .int .u64 ((n.set).c.toNat : Int), .int .u64 ((n.set).d.toNat : Int), .slice (A) (n.kids.length) (cap), .int .i64 (n.min), .int .i64 (n.max)] 28)).cell? ⟨rb, 2, none⟩ = some (.int .i64 ((op : Nat) : Int)) := HS.out.rd.cell 2; have gf : ∀ i, (w1.alloc (.cells #[.int .i64 (n.kind), .int .u64 ((n.set).a.toNat : Int), .int .u64 ((n.set).b.toNat : Int), .int .u64 ((n.set).c.toNat : Int), .int .u64 ((n.set).d.toNat : Int), .slice (A) (n.kids.length) (cap), .int .i64 (n.min), .int .i64 (n.max)] 28)).frozen? ⟨rb, i, none⟩ = false := HS.out.rd.frozen)
  have hl1 : rb < w1.heap.size := hd.lt
  have hz1 : w.heap.size < w1.heap.size := by have := ho.size; simp at this; omega
  clear ho hd hsl hk
  go_wp2_with fail
  refine (unhide HPK _ HS.out.rd).mono ?_
  rintro x w2 ⟨rfl, m, rfl⟩
  go_upto_region 16 with (fail)
  have HV := hid_mk (HS2.out m)
  clear HS HS2 g0 g1 g2 gf
  generalize ((w1.setCell ⟨rb, 1, none⟩ (.int .i64 ((p : Int) + 1))).alloc (.cells #[.int .i64 (n.kind), .int .u64 ((n.set).a.toNat : Int), .int .u64 ((n.set).b.toNat : Int), .int .u64 ((n.set).c.toNat : Int), .int .u64 ((n.set).d.toNat : Int), .slice (A) (n.kids.length) (cap), .int .i64 (n.min), .int .i64 (n.max)] 28)).drewN m = V at *
  (have y0 : V.cell? ⟨w1.heap.size, 0, none⟩ = some (.int .i64 (n.kind)) := HV.out.box.cell 0; have y1 : V.cell? ⟨w1.heap.size, 1, none⟩ = some (.int .u64 ((n.set).a.toNat : Int)) := HV.out.box.cell 1; have y2 : V.cell? ⟨w1.heap.size, 2, none⟩ = some (.int .u64 ((n.set).b.toNat : Int)) := HV.out.box.cell 2; have y3 : V.cell? ⟨w1.heap.size, 3, none⟩ = some (.int .u64 ((n.set).c.toNat : Int)) := HV.out.box.cell 3; have y4 : V.cell? ⟨w1.heap.size, 4, none⟩ = some (.int .u64 ((n.set).d.toNat : Int)) := HV.out.box.cell 4; have y5 : V.cell? ⟨w1.heap.size, 5, none⟩ = some (.slice (A) (n.kids.length) (cap)) := HV.out.box.cell 5; have y6 : V.cell? ⟨w1.heap.size, 6, none⟩ = some (.int .i64 (n.min)) := HV.out.box.cell 6; have y7 : V.cell? ⟨w1.heap.size, 7, none⟩ = some (.int .i64 (n.max)) := HV.out.box.cell 7; have yf : ∀ i, V.frozen? ⟨w1.heap.size, i, none⟩ = false := HV.out.box.frozen)
  (have r0 : V.cell? ⟨w.heap.size, 0, none⟩ = some (.int .i64 0) := HV.out.res.cell 0; have r1 : V.cell? ⟨w.heap.size, 1, none⟩ = some (.int .u64 0) := HV.out.res.cell 1; have r2 : V.cell? ⟨w.heap.size, 2, none⟩ = some (.int .u64 0) := HV.out.res.cell 2; have r3 : V.cell? ⟨w.heap.size, 3, none⟩ = some (.int .u64 0) := HV.out.res.cell 3; have r4 : V.cell? ⟨w.heap.size, 4, none⟩ = some (.int .u64 0) := HV.out.res.cell 4; have r5 : V.cell? ⟨w.heap.size, 5, none⟩ = some (.slice none 0 0) := HV.out.res.cell 5; have r6 : V.cell? ⟨w.heap.size, 6, none⟩ = some (.int .i64 0) := HV.out.res.cell 6; have r7 : V.cell? ⟨w.heap.size, 7, none⟩ = some (.int .i64 0) := HV.out.res.cell 7; have rf : ∀ i, V.frozen? ⟨w.heap.size, i, none⟩ = false := HV.out.res.frozen)
  have hz2 : w1.heap.size < V.heap.size := HV.out.box.lt
  have hz3 : w.heap.size < V.heap.size := HV.out.res.lt
  go_wp2
  refine bodyPost_ret (v := .agg #[.int .i64 4, .int .u64 0, .int .u64 0, .int .u64 0, .int .u64 0, .slice (some ⟨V.heap.size, 0, none⟩) 1 1, .int .i64 (0), .int .i64 (1)]) (by simp [results, Tryd.results51, go_sem, r0, r1, r2, r3, r4, r5, r6, r7, hz1, hz2, hz3]) rfl ?_
  exact rep_final HV.out.only HV.out.rd hl HV.out.old (Nat.le_trans HV.out.new (Nat.le_of_lt hz2)) HV.out.sl HV.out.kids
theorem piece_123 (s : ByteArray) (rb i op : Nat) (atm : Nat → Res Node) (HA : AtomOk s rb op atm) (hf : ∀ i, i ≤ s.data.toList.length → Fine s.data.toList i (atm i)) (w : World) (h : RD s rb i op w) (hs : s.size ≤ 1000) (hi : i ≤ s.size) (hT : TabW w) (hr : 0 ≠ rb) (n : Node) (p : Nat) (hit : atm i = .ok n p) (hc1 : ¬ Rx.pk s.data.toList p = 42) (hc2 : ¬ Rx.pk s.data.toList p = 43) (hc3 : ¬ Rx.pk s.data.toList p = 63) (hc4 :  Rx.pk s.data.toList p = 123) :
    Calls Tryd.prog 51 #[.pointer (some ⟨rb, 0, none⟩)] w (RetNd s rb op (Rx.piece s.data.toList atm i) w) := by
  have hl : rb < w.heap.size := h.lt
  have HA1 := hide (HA (w.alloc (.cells #[.int .i64 0, .int .u64 0, .int .u64 0, .int .u64 0, .int .u64 0, .slice none 0 0, .int .i64 0, .int .i64 0] 28)) i (Blk.alloc h _) (hT.only (rb := rb) ((Only.refl rb w).alloc _) hr) hi)
  have hfi := hf i (by simpa using hi)
  rw [hit] at HA1 hfi
  have hp : p ≤ s.size := by simpa using hfi.2
  have HP : Hid (Rx.piece s.data.toList atm i = _) := hid_mk (by unfold Rx.piece; rw [hit])
  dsimp only at HP
  clear h hT HA hf hit hfi
  have hb := pk_bd s.data.toList p
  have hbp := pk_in (l := s.data.toList) (i := p)
  rw [len_data] at hbp
  have HPK := hide (fun a h => peek_any s rb p op a h hs (by omega))
  have HP2 := hid_mk (HP.out.trans (if_neg hc1))
  have HP3 := hid_mk (HP2.out.trans (if_neg hc2))
  have HP4 := hid_mk (HP3.out.trans (if_neg hc3))
  have HE := hid_mk (HP4.out.trans (if_pos hc4))
  rw [hc4] at HPK hbp
  have hlt := hbp (by decide)
  have hfb := fine_brc s.data.toList (p + 1) (by simp; omega)
  have HBR := hide (fun a h => braces_any s rb (p + 1) op a h hs (by omega))
  have HEB := HE
  clear HP HE hb hbp hc4 HP2 HP3 HP4 hc1 hc2 hc3
  go_enter Tryd.func51, Tryd.ntmps51
  go_wp2_with fail
  refine (unhide HA1).mono ?_
  rintro x w1 ⟨ho, hd, A, cap, rfl, hsl, hk⟩
  have HS := hid_mk (PieceAt.start hl ho hd hsl hk)
  have HS2 := hid_mk (fun m => PieceAt.start2 (m := m) hl ho hd hsl hk)
  (have g0 : (w1.alloc (.cells #[.int .i64 (n.kind), .int .u64 ((n.set).a.toNat : Int), .int .u64 ((n.set).b.toNat : Int), .int .u64 ((n.set).c.toNat : Int), .int .u64 ((n.set).d.toNat : Int), .slice (A) (n.kids.length) (cap), .int .i64 (n.min), .int .i64 (n.max)] 28)).cell? ⟨rb, 0, none⟩ = some (.string s) := HS.out.rd.cell 0; have g1 : (w1.alloc (.cells #[.int .i64 (n.kind), .int .u64 ((n.set).a.toNat : Int), .int .u64 ((n.set).b.toNat : Int), .int .u64 ((n.set).c.toNat : Int), .int .u64 ((n.set).d.toNat : Int), .slice (A) (n.kids.length) (cap), .int .i64 (n.min), .int .i64 (n.max)] 28)).cell? ⟨rb, 1, none⟩ = some (.int .i64 ((p : Nat) : Int)) := HS.out.rd.cell 1; have g2 : (w1.alloc (.cells #[.int .i64 (n.kind), .int .u64 ((n.set).a.toNat : Int), .int .u64 ((n.set).b.toNat : Int), .int .u64 ((n.set).c.toNat : Int), .int .u64 ((n.set).d.toNat : Int), .slice (A) (n.kids.length) (cap), .int .i64 (n.min), .int .i64 (n.max)] 28)).cell? ⟨rb, 2, none⟩ = some (.int .i64 ((op : Nat) : Int)) := HS.out.rd.cell 2; have gf : ∀ i, (w1.alloc (.cells #[.int .i64 (n.kind), .int .u64 ((n.set).a.toNat : Int), .int .u64 ((n.set).b.toNat : Int), .int .u64 ((n.set).c.toNat : Int), .int .u64 ((n.set).d.toNat : Int), .slice (A) (n.kids.length) (cap), .int .i64 (n.min), .int .i64 (n.max)] 28)).frozen? ⟨rb, i, none⟩ = false := HS.out.rd.frozen)
  have hl1 : rb < w1.heap.size := hd.lt
  have hz1 : w.heap.size < w1.heap.size := by have := ho.size; simp at this; omega
  clear ho hd hsl hk
  go_wp2_with fail
  refine (unhide HPK _ HS.out.rd).mono ?_
  rintro x w2 ⟨rfl, m, rfl⟩
  go_upto_region 12 with (fail)
  have HV := hid_mk (HS2.out m)
  clear HS HS2 g0 g1 g2 gf
  generalize ((w1.setCell ⟨rb, 1, none⟩ (.int .i64 ((p : Int) + 1))).alloc (.cells #[.int .i64 (n.kind), .int .u64 ((n.set).a.toNat : Int), .int .u64 ((n.set).b.toNat : Int), .int .u64 ((n.set).c.toNat : Int), .int .u64 ((n.set).d.toNat : Int), .slice (A) (n.kids.length) (cap), .int .i64 (n.min), .int .i64 (n.max)] 28)).drewN m = V at *
  go_wp2_with fail
  refine (unhide HBR _ HV.out.rd).mono ?_
  rintro x w3 ⟨ho3, h3⟩
  cases hbr : Rx.brc s.data.toList (p + 1) with
  | out => rw [hbr] at hfb; exact hfb.elim
  | bad e q =>
    rw [hbr] at h3 HEB
    obtain rfl := h3
    have HE : Hid (Rx.piece s.data.toList atm i = .bad e q) := HEB
    rw [HE.out]
    exact ⟨rfl, RetNd.bad (HV.out.only.step ho3)⟩
  | ok a q =>
    rw [hbr] at h3 HEB hfb
    obtain ⟨lo, hi'⟩ := a
    obtain ⟨rfl, hd3⟩ := h3
    have hq : q ≤ s.size := by simpa using hfb.2
    have HV3 := hid_mk (HV.out.step ho3 hd3)
    dsimp only at HEB
    have HND := hide (fun a h => need_any s rb q op 125 a h hs (by omega) (by decide))
    clear hbr hfb ho3 hd3 HV
    go_wp2_with fail
    refine (unhide HND _ HV3.out.rd).mono ?_
    rintro x w4 ⟨ho4, h4⟩
    by_cases hc5 : Rx.pk s.data.toList q = 125
    · rw [if_pos (show Rx.pk s.data.toList q = ((125 : Nat) : Int) from hc5)] at h4
      rw [if_pos hc5] at HEB
      obtain ⟨rfl, hd4⟩ := h4
      have HV4 := hid_mk (HV3.out.step ho4 hd4)
      have HEBB : Hid (Rx.piece s.data.toList atm i = .ok (Rx.rep n lo hi') (q + 1)) := HEB
      clear hc5 ho4 hd4 HV3 HEB
      (have y0 : w4.cell? ⟨w1.heap.size, 0, none⟩ = some (.int .i64 (n.kind)) := HV4.out.box.cell 0; have y1 : w4.cell? ⟨w1.heap.size, 1, none⟩ = some (.int .u64 ((n.set).a.toNat : Int)) := HV4.out.box.cell 1; have y2 : w4.cell? ⟨w1.heap.size, 2, none⟩ = some (.int .u64 ((n.set).b.toNat : Int)) := HV4.out.box.cell 2; have y3 : w4.cell? ⟨w1.heap.size, 3, none⟩ = some (.int .u64 ((n.set).c.toNat : Int)) := HV4.out.box.cell 3; have y4 : w4.cell? ⟨w1.heap.size, 4, none⟩ = some (.int .u64 ((n.set).d.toNat : Int)) := HV4.out.box.cell 4; have y5 : w4.cell? ⟨w1.heap.size, 5, none⟩ = some (.slice (A) (n.kids.length) (cap)) := HV4.out.box.cell 5; have y6 : w4.cell? ⟨w1.heap.size, 6, none⟩ = some (.int .i64 (n.min)) := HV4.out.box.cell 6; have y7 : w4.cell? ⟨w1.heap.size, 7, none⟩ = some (.int .i64 (n.max)) := HV4.out.box.cell 7; have yf : ∀ i, w4.frozen? ⟨w1.heap.size, i, none⟩ = false := HV4.out.box.frozen)
      (have r0 : w4.cell? ⟨w.heap.size, 0, none⟩ = some (.int .i64 0) := HV4.out.res.cell 0; have r1 : w4.cell? ⟨w.heap.size, 1, none⟩ = some (.int .u64 0) := HV4.out.res.cell 1; have r2 : w4.cell? ⟨w.heap.size, 2, none⟩ = some (.int .u64 0) := HV4.out.res.cell 2; have r3 : w4.cell? ⟨w.heap.size, 3, none⟩ = some (.int .u64 0) := HV4.out.res.cell 3; have r4 : w4.cell? ⟨w.heap.size, 4, none⟩ = some (.int .u64 0) := HV4.out.res.cell 4; have r5 : w4.cell? ⟨w.heap.size, 5, none⟩ = some (.slice none 0 0) := HV4.out.res.cell 5; have r6 : w4.cell? ⟨w.heap.size, 6, none⟩ = some (.int .i64 0) := HV4.out.res.cell 6; have r7 : w4.cell? ⟨w.heap.size, 7, none⟩ = some (.int .i64 0) := HV4.out.res.cell 7; have rf : ∀ i, w4.frozen? ⟨w.heap.size, i, none⟩ = false := HV4.out.res.frozen)
      have hz2 : w1.heap.size < w4.heap.size := HV4.out.box.lt
      have hz3 : w.heap.size < w4.heap.size := HV4.out.res.lt
      go_wp2
      refine bodyPost_ret (v := .agg #[.int .i64 4, .int .u64 0, .int .u64 0, .int .u64 0, .int .u64 0, .slice (some ⟨w4.heap.size, 0, none⟩) 1 1, .int .i64 lo, .int .i64 hi']) (by simp [results, Tryd.results51, go_sem, r0, r1, r2, r3, r4, r5, r6, r7, hz1, hz2, hz3]) rfl ?_
      rw [HEBB.out]
      exact rep_final HV4.out.only HV4.out.rd hl HV4.out.old (Nat.le_trans HV4.out.new (Nat.le_of_lt hz2)) HV4.out.sl HV4.out.kids
    · rw [if_neg (show ¬ Rx.pk s.data.toList q = ((125 : Nat) : Int) from hc5)] at h4
      rw [if_neg hc5] at HEB
      rw [other_eq] at h4
      rw [other_eq] at HEB
      obtain rfl := h4
      have HEBB := hid_mk HEB.out
      rw [HEBB.out]
      exact ⟨rfl, RetNd.bad (HV3.out.only.step ho4)⟩
theorem piece_def (s : ByteArray) (rb i op : Nat) (atm : Nat → Res Node) (HA : AtomOk s rb op atm) (hf : ∀ i, i ≤ s.data.toList.length → Fine s.data.toList i (atm i)) (w : World) (h : RD s rb i op w) (hs : s.size ≤ 1000) (hi : i ≤ s.size) (hT : TabW w) (hr : 0 ≠ rb) (n : Node) (p : Nat) (hit : atm i = .ok n p) (hc1 : ¬ Rx.pk s.data.toList p = 42) (hc2 : ¬ Rx.pk s.data.toList p = 43) (hc3 : ¬ Rx.pk s.data.toList p = 63) (hc4 : ¬ Rx.pk s.data.toList p = 123) :
    Calls Tryd.prog 51 #[.pointer (some ⟨rb, 0, none⟩)] w (RetNd s rb op (Rx.piece s.data.toList atm i) w) := by
  have hl : rb < w.heap.size := h.lt
  have HA1 := hide (HA (w.alloc (.cells #[.int .i64 0, .int .u64 0, .int .u64 0, .int .u64 0, .int .u64 0, .slice none 0 0, .int .i64 0, .int .i64 0] 28)) i (Blk.alloc h _) (hT.only (rb := rb) ((Only.refl rb w).alloc _) hr) hi)
  have hfi := hf i (by simpa using hi)
  rw [hit] at HA1 hfi
  have hp : p ≤ s.size := by simpa using hfi.2
  have HP : Hid (Rx.piece s.data.toList atm i = _) := hid_mk (by unfold Rx.piece; rw [hit])
  dsimp only at HP
  clear h hT HA hf hit hfi
  have hb := pk_bd s.data.toList p
  have hbp := pk_in (l := s.data.toList) (i := p)
  rw [len_data] at hbp
  have HPK := hide (fun a h => peek_any s rb p op a h hs (by omega))
  have HP2 := hid_mk (HP.out.trans (if_neg hc1))
  have HP3 := hid_mk (HP2.out.trans (if_neg hc2))
  have HP4 := hid_mk (HP3.out.trans (if_neg hc3))
  have HE := hid_mk (HP4.out.trans (if_neg hc4))
  rw [HE.out]
  generalize Rx.pk s.data.toList p = c at *
  have e1 : (c == 42) = false := by simpa using hc1
  have e2 : (c == 43) = false := by simpa using hc2
  have e3 : (c == 63) = false := by simpa using hc3
  have e4 : (c == 123) = false := by simpa using hc4
  clear HP HE HP2 HP3 HP4 hbp hc1 hc2 hc3 hc4
  go_enter Tryd.func51, Tryd.ntmps51
  go_wp2_with fail
  refine (unhide HA1).mono ?_
  rintro x w1 ⟨ho, hd, A, cap, rfl, hsl, hk⟩
  have HS := hid_mk (PieceAt.start hl ho hd hsl hk)
  have hz1 : w.heap.size < w1.heap.size := by have := ho.size; simp at this; omega
  clear ho hd hsl hk
  go_wp2_with fail
  refine (unhide HPK _ HS.out.rd).mono ?_
  rintro x w2 ⟨rfl, m, rfl⟩
  go_upto_region 4 with (fail)
  have HV := hid_mk (HS.out.step ((Only.refl _ _).drewN m) (HS.out.rd.drewN m))
  clear HS
  generalize (w1.alloc (.cells #[.int .i64 (n.kind), .int .u64 ((n.set).a.toNat : Int), .int .u64 ((n.set).b.toNat : Int), .int .u64 ((n.set).c.toNat : Int), .int .u64 ((n.set).d.toNat : Int), .slice (A) (n.kids.length) (cap), .int .i64 (n.min), .int .i64 (n.max)] 28)).drewN m = V at *
  (have y0 : V.cell? ⟨w1.heap.size, 0, none⟩ = some (.int .i64 (n.kind)) := HV.out.box.cell 0; have y1 : V.cell? ⟨w1.heap.size, 1, none⟩ = some (.int .u64 ((n.set).a.toNat : Int)) := HV.out.box.cell 1; have y2 : V.cell? ⟨w1.heap.size, 2, none⟩ = some (.int .u64 ((n.set).b.toNat : Int)) := HV.out.box.cell 2; have y3 : V.cell? ⟨w1.heap.size, 3, none⟩ = some (.int .u64 ((n.set).c.toNat : Int)) := HV.out.box.cell 3; have y4 : V.cell? ⟨w1.heap.size, 4, none⟩ = some (.int .u64 ((n.set).d.toNat : Int)) := HV.out.box.cell 4; have y5 : V.cell? ⟨w1.heap.size, 5, none⟩ = some (.slice (A) (n.kids.length) (cap)) := HV.out.box.cell 5; have y6 : V.cell? ⟨w1.heap.size, 6, none⟩ = some (.int .i64 (n.min)) := HV.out.box.cell 6; have y7 : V.cell? ⟨w1.heap.size, 7, none⟩ = some (.int .i64 (n.max)) := HV.out.box.cell 7; have yf : ∀ i, V.frozen? ⟨w1.heap.size, i, none⟩ = false := HV.out.box.frozen)
  (have r0 : V.cell? ⟨w.heap.size, 0, none⟩ = some (.int .i64 0) := HV.out.res.cell 0; have r1 : V.cell? ⟨w.heap.size, 1, none⟩ = some (.int .u64 0) := HV.out.res.cell 1; have r2 : V.cell? ⟨w.heap.size, 2, none⟩ = some (.int .u64 0) := HV.out.res.cell 2; have r3 : V.cell? ⟨w.heap.size, 3, none⟩ = some (.int .u64 0) := HV.out.res.cell 3; have r4 : V.cell? ⟨w.heap.size, 4, none⟩ = some (.int .u64 0) := HV.out.res.cell 4; have r5 : V.cell? ⟨w.heap.size, 5, none⟩ = some (.slice none 0 0) := HV.out.res.cell 5; have r6 : V.cell? ⟨w.heap.size, 6, none⟩ = some (.int .i64 0) := HV.out.res.cell 6; have r7 : V.cell? ⟨w.heap.size, 7, none⟩ = some (.int .i64 0) := HV.out.res.cell 7; have rf : ∀ i, V.frozen? ⟨w.heap.size, i, none⟩ = false := HV.out.res.frozen)
  have hz2 : w1.heap.size < V.heap.size := HV.out.box.lt
  go_wp2
  refine bodyPost_ret (v := .agg #[.int .i64 (n.kind), .int .u64 ((n.set).a.toNat : Int), .int .u64 ((n.set).b.toNat : Int), .int .u64 ((n.set).c.toNat : Int), .int .u64 ((n.set).d.toNat : Int), .slice (A) (n.kids.length) (cap), .int .i64 (n.min), .int .i64 (n.max)]) (by simp [results, Tryd.results51, go_sem, r0, r1, r2, r3, r4, r5, r6, r7, hz1, hz2]) rfl ?_
  have h1 := set8_only w.heap.size V (.int .i64 n.kind) (.int .u64 (n.set.a.toNat : Int)) (.int .u64 (n.set.b.toNat : Int)) (.int .u64 (n.set.c.toNat : Int)) (.int .u64 (n.set.d.toNat : Int)) (.slice A n.kids.length cap) (.int .i64 n.min) (.int .i64 n.max)
  exact own_final HV.out h1
theorem piece_any (s : ByteArray) (rb i op : Nat) (atm : Nat → Res Node) (HA : AtomOk s rb op atm) (hf : ∀ i, i ≤ s.data.toList.length → Fine s.data.toList i (atm i)) (w : World) (h : RD s rb i op w) (hs : s.size ≤ 1000) (hi : i ≤ s.size) (hT : TabW w) (hr : 0 ≠ rb) :
    Calls Tryd.prog 51 #[.pointer (some ⟨rb, 0, none⟩)] w (RetNd s rb op (Rx.piece s.data.toList atm i) w) := by
  cases hit : atm i with
  | out => have hfi := hf i (by simpa using hi); rw [hit] at hfi; exact hfi.elim
  | bad e q =>
    have hl : rb < w.heap.size := h.lt
    have HA1 := hide (HA (w.alloc (.cells #[.int .i64 0, .int .u64 0, .int .u64 0, .int .u64 0, .int .u64 0, .slice none 0 0, .int .i64 0, .int .i64 0] 28)) i (Blk.alloc h _) (hT.only (rb := rb) ((Only.refl rb w).alloc _) hr) hi)
    rw [hit] at HA1
    have HE : Hid (Rx.piece s.data.toList atm i = .bad e q) := hid_mk (by unfold Rx.piece; rw [hit])
    rw [HE.out]
    clear hit HE h hT HA hf
    go_enter Tryd.func51, Tryd.ntmps51
    go_wp2_with fail
    refine (unhide HA1).mono ?_
    rintro x w1 ⟨ho, rfl⟩
    exact ⟨rfl, RetNd.bad (((Only.refl rb w).alloc _).step ho)⟩
  | ok n p =>
    by_cases hc1 : Rx.pk s.data.toList p = 42
    · exact piece_42 s rb i op atm HA hf w h hs hi hT hr n p hit hc1
    · by_cases hc2 : Rx.pk s.data.toList p = 43
      · exact piece_43 s rb i op atm HA hf w h hs hi hT hr n p hit hc1 hc2
      · by_cases hc3 : Rx.pk s.data.toList p = 63
        · exact piece_63 s rb i op atm HA hf w h hs hi hT hr n p hit hc1 hc2 hc3
        · by_cases hc4 : Rx.pk s.data.toList p = 123
          · exact piece_123 s rb i op atm HA hf w h hs hi hT hr n p hit hc1 hc2 hc3 hc4
          · exact piece_def s rb i op atm HA hf w h hs hi hT hr n p hit hc1 hc2 hc3 hc4
end Go.Proofs.YthgcefppeaopkaaDoor
