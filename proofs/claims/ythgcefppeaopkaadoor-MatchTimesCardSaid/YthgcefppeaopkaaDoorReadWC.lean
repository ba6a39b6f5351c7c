/- Walks over the pattern reader: cats. -/
import Derived.Test.YthgcefppeaopkaaDoorReadWB
namespace Go.Proofs.YthgcefppeaopkaaDoor
open Go Go.RowKit Go.Sort
set_option maxRecDepth 100000
set_option linter.unusedSimpArgs false
set_option linter.unusedVariables false
set_option maxHeartbeats 1000000
/-- where the kids of collected nodes lie: made since w, not the row itself -/
def Off (w wr : World) (v : Value) (b : Nat) : Prop := w.heap.size < b ∧ b < wr.heap.size ∧ v.ownBlock ≠ some b
theorem Only.grownB {rb : Nat} {w w' : World} (h : Only rb w w') : w.grownBy w' (some rb) := ⟨h.os, h.tape, h.output, h.size, fun k hk hne => h.block k hk (fun e => hne (by rw [e]))⟩
theorem own_only {rb base n : Nat} {e : TypeId} {w w' : World} {v : Value} {xs : List Value} (h : w.ownsRow base e 8 v n xs) (ho : Only rb w w') (hr : rb < base) : w'.ownsRow base e 8 v n xs := by
  refine h.kept ho.grownB ?_
  rcases hv : v.ownBlock with _ | g
  · exact Or.inl rfl
  · refine Or.inr fun e => ?_
    have := (h.lt g hv).1
    injection e with e
    omega
/-- the parts collected so far -/
structure Parts (w wr : World) (v : Value) (ns : List Node) (ds : List Value) : Prop where
  nodes : NodesAt (Off w wr v) wr ns ds
  own : wr.ownsRow (w.heap.size + 1) 28 8 v ns.length ds
theorem Parts.nil (w wr : World) : Parts w wr (.slice none 0 0) [] [] := ⟨nodesAt_nil, World.ownsRow_nil _ _ _ _⟩
theorem Parts.only {rb : Nat} {w wr w' : World} {v : Value} {ns : List Node} {ds : List Value} (h : Parts w wr v ns ds) (ho : Only rb wr w') (hr : rb ≤ w.heap.size) : Parts w w' v ns ds :=
  ⟨nodesAt_keep (fun b hb => ho.block b hb.2.1 (by have := hb.1; omega)) (fun b hb => ⟨hb.1, Nat.lt_of_lt_of_le hb.2.1 ho.size, hb.2.2⟩) h.nodes, own_only h.own ho (by omega)⟩
/-- one part more, read since -/
theorem Parts.push {w wr w1 w2 : World} {v v' : Value} {ns : List Node} {ds : List Value} {n : Node} {A : Option Addr} {cap : Nat} (h : Parts w w1 v ns ds) (hlt : ∀ g, v.ownBlock = some g → g < wr.heap.size) (hw : w.heap.size < wr.heap.size) (hs : SlOk A n.kids.length cap) (hk : KidsAt (New wr w1) w1 A n.kids)
    (hsz : wr.heap.size ≤ w1.heap.size) (hg : w1.grownBy w2 v.ownBlock) (hat : v'.ownBlock = v.ownBlock ∨ v'.ownBlock = some w1.heap.size) (hown : w2.ownsRow (w.heap.size + 1) 28 8 v' (ns.length + 1) (ds ++ [.int .i64 (n.kind), .int .u64 ((n.set).a.toNat : Int), .int .u64 ((n.set).b.toNat : Int), .int .u64 ((n.set).c.toNat : Int), .int .u64 ((n.set).d.toNat : Int), .slice (A) (n.kids.length) (cap), .int .i64 (n.min), .int .i64 (n.max)])) :
    Parts w w2 v' (ns ++ [n]) (ds ++ [.int .i64 (n.kind), .int .u64 ((n.set).a.toNat : Int), .int .u64 ((n.set).b.toNat : Int), .int .u64 ((n.set).c.toNat : Int), .int .u64 ((n.set).d.toNat : Int), .slice (A) (n.kids.length) (cap), .int .i64 (n.min), .int .i64 (n.max)]) := by
  have k1 : Keeps (Off w w1 v) w1 w2 := fun b hb => hg.block b hb.2.1 (fun e => hb.2.2 e.symm)
  have k2 : Keeps (New wr w1) w1 w2 := fun b hb => hg.block b hb.2 (fun e => by have := hlt b e.symm; have := hb.1; omega)
  refine ⟨nodesAt_append (nodesAt_keep k1 (fun b hb => ?_) h.nodes) (nodesAt_one (nodeAt_of hs (kidsAt_keep k2 (fun b hb => ?_) hk))), by rw [List.length_append, List.length_singleton]; exact hown⟩
  · refine ⟨hb.1, Nat.lt_of_lt_of_le hb.2.1 hg.size, ?_⟩
    rcases hat with e | e <;> rw [e]
    · exact hb.2.2
    · intro e; injection e with e; have := hb.2.1; omega
  · refine ⟨by have := hb.1; omega, Nat.lt_of_lt_of_le hb.2 hg.size, ?_⟩
    rcases hat with e | e <;> rw [e]
    · intro e; have := hlt b e; have := hb.1; omega
    · intro e; injection e with e; have := hb.2; omega
/-- the parts as a slice that is handed on -/
theorem Parts.slice {w wr : World} {v : Value} {ns : List Node} {ds : List Value} (h : Parts w wr v ns ds) :
    ∃ (A : Option Addr) (cap : Nat), v = .slice A ns.length cap ∧ SlOk A ns.length cap ∧ KidsAt (fun b => w.heap.size < b ∧ b < wr.heap.size) wr A ns := by
  have hn : NodesAt (fun b => w.heap.size < b ∧ b < wr.heap.size) wr ns ds := nodesAt_keep (fun b hb => rfl) (fun b hb => ⟨hb.1, hb.2.1⟩) h.nodes
  rcases h.own.2 with ⟨hv, h0⟩ | ⟨g, cap, cur, hv, hbg, hgl, hnc, hcm, hcs, hct⟩
  · refine ⟨none, 0, by rw [hv, h0], ⟨by omega, fun _ => rfl⟩, fun hp => absurd hp (by omega)⟩
  · have hlt := (h.own.lt g (by rw [hv]; rfl)).2
    refine ⟨_, cap, hv, ⟨hnc, fun e => by cases e⟩, fun _ => ⟨g, 0, rfl, ⟨by omega, hlt⟩, ds, hn, fun j u hj => ?_⟩⟩
    have := h.own.cells (g := g) (by rw [hv]; rfl) j u hj
    rwa [add_off] at this
/-- at a round's head -/
def CatAt (s : ByteArray) (rb op i : Nat) (atm : Nat → Res Node) (w : World) (R : Res (List Node)) (v : Value) (wr : World) : Prop :=
  ∃ (ns : List Node) (ds : List Value) (k f : Nat), Parts w wr v ns ds ∧ RD s rb k op wr ∧ Only rb w wr ∧ TabW wr ∧ Blk wr w.heap.size #[.int .i64 0, .int .u64 0, .int .u64 0, .int .u64 0, .int .u64 0, .slice none 0 0, .int .i64 0, .int .i64 0] 28 ∧ i ≤ k ∧ k ≤ s.size ∧ s.size < k + f ∧ Node.sizes ns ≤ 2 * (k - i) ∧ R = Rx.pieces s.data.toList atm f ns k
theorem pieces_stop {l : List UInt8} {atm : Nat → Res Node} {f : Nat} {ns : List Node} {k : Nat} (h : Rx.pk l k = -1 ∨ Rx.pk l k = 124 ∨ Rx.pk l k = 41) : Rx.pieces l atm (f + 1) ns k = .ok ns k := by rw [Rx.pieces, if_pos h]
theorem pieces_bad {l : List UInt8} {atm : Nat → Res Node} {f : Nat} {ns : List Node} {k : Nat} {e : Int} {q : Nat} (h : ¬ (Rx.pk l k = -1 ∨ Rx.pk l k = 124 ∨ Rx.pk l k = 41)) (hr : Rx.piece l atm k = .bad e q) : Rx.pieces l atm (f + 1) ns k = .bad e q := by rw [Rx.pieces, if_neg h, hr]
theorem pieces_next {l : List UInt8} {atm : Nat → Res Node} {f : Nat} {ns : List Node} {k : Nat} {n : Node} {q : Nat} (h : ¬ (Rx.pk l k = -1 ∨ Rx.pk l k = 124 ∨ Rx.pk l k = 41)) (hr : Rx.piece l atm k = .ok n q) : Rx.pieces l atm (f + 1) ns k = Rx.pieces l atm f (ns ++ [n]) q := by rw [Rx.pieces, if_neg h, hr]
theorem cat_of {l : List UInt8} {atm : Nat → Res Node} {i : Nat} {R : Res (List Node)} (h : R = Rx.pieces l atm (l.length + 1) [] i) : (∀ ns p, R = .ok ns p → Rx.cat l atm i = .ok (Rx.join 2 ns) p) ∧ (∀ e p, R = .bad e p → Rx.cat l atm i = .bad e p) := by
  refine ⟨fun ns p e => ?_, fun e p e' => ?_⟩ <;> unfold Rx.cat <;> rw [← h]
  · rw [e]
  · rw [e']
/-- a tree joined of parts is handed back -/
theorem join_final {s : ByteArray} {rb op q : Nat} {w W w1 V : World} {n : Node} {A : Option Addr} {cap : Nat} (ho : Only rb w W) (hd : RD s rb q op W) (hrb : rb < w.heap.size) (hb : Below W.heap.size W w1) (hs : SlOk A n.kids.length cap)
    (hw : w.heap.size < W.heap.size) (hk : KidsAt (fun b => (w.heap.size < b ∧ b < W.heap.size) ∨ (W.heap.size ≤ b ∧ b < w1.heap.size)) w1 A n.kids) (hv : Only w.heap.size w1 V) :
    RetNd s rb op (.ok n q) w (.returned (.agg #[.int .i64 (n.kind), .int .u64 ((n.set).a.toNat : Int), .int .u64 ((n.set).b.toNat : Int), .int .u64 ((n.set).c.toNat : Int), .int .u64 ((n.set).d.toNat : Int), .slice (A) (n.kids.length) (cap), .int .i64 (n.min), .int .i64 (n.max)])) V := by
  have h1 := ho.call hb
  have hz := ho.size
  have hz1 := hb.size
  refine RetNd.ok ⟨hv.os.trans h1.os, hv.tape.trans h1.tape, hv.output.trans h1.output, Nat.le_trans h1.size hv.size, fun k hk' hne => (hv.block k (Nat.lt_of_lt_of_le hk' h1.size) (by omega)).trans (h1.block k hk' hne)⟩ (hv.blk (by omega) (Blk.call hd hb)) hs ?_
  refine kidsAt_keep (fun b hb' => hv.block b ?_ ?_) (fun b hb' => ⟨?_, Nat.lt_of_lt_of_le ?_ hv.size⟩) hk <;> rcases hb' with h2 | h2 <;> omega
theorem blk_grown {w w' : World} {g : Nat} {cs : Array Value} {t : TypeId} {row : Option Nat} (h : Blk w g cs t) (hg : w.grownBy w' row) (hne : row ≠ some g) : Blk w' g cs t := (hg.block g h.lt (fun e => hne e.symm)).trans h
theorem CatAt.mk' {s : ByteArray} {rb op i k f : Nat} {atm : Nat → Res Node} {w : World} {R : Res (List Node)} {v : Value} {wr : World} {ns : List Node} {ds : List Value} (h1 : Parts w wr v ns ds) (h2 : RD s rb k op wr) (h3 : Only rb w wr) (h4 : TabW wr) (h5 : Blk wr w.heap.size #[.int .i64 0, .int .u64 0, .int .u64 0, .int .u64 0, .int .u64 0, .slice none 0 0, .int .i64 0, .int .i64 0] 28) (h6 : i ≤ k) (h7 : k ≤ s.size) (h8 : s.size < k + f) (h9 : Node.sizes ns ≤ 2 * (k - i)) (h10 : R = Rx.pieces s.data.toList atm f ns k) : CatAt s rb op i atm w R v wr :=
  ⟨ns, ds, k, f, h1, h2, h3, h4, h5, h6, h7, h8, h9, h10⟩
theorem cat_any (s : ByteArray) (rb i op : Nat) (atm : Nat → Res Node) (HA : AtomOk s rb op atm) (hf : ∀ i, i ≤ s.data.toList.length → Fine s.data.toList i (atm i)) (hz : Rx.Lean2 s.data.toList atm) (w : World) (h : RD s rb i op w) (hs : s.size ≤ 1000) (hi : i ≤ s.size) (hT : TabW w) (hr : 0 ≠ rb) :
    Calls Tryd.prog 37 #[.pointer (some ⟨rb, 0, none⟩)] w (RetNd s rb op (Rx.cat s.data.toList atm i) w) := by
  have hl : rb < w.heap.size := h.lt
  have HPI := hide (fun k (hk : k ≤ s.size) a h hT => piece_any s rb k op atm HA hf a h hs hk hT hr)
  have HPK := hide (fun k (hk : k ≤ s.size) a h => peek_any s rb k op a h hs (by omega))
  have HSZ := hid_mk (Rx.size_piece hz hf)
  have HFI := hid_mk (fun k (hk : k ≤ s.size) => fine_piece s.data.toList atm k (hf k (by simpa using hk)))
  obtain ⟨i0, hi0, hz0, hz1, hz2⟩ := info_parts node_info
  obtain ⟨R, hR⟩ : ∃ R, R = Rx.pieces s.data.toList atm (s.data.toList.length + 1) [] i := ⟨_, rfl⟩
  have HC := hid_mk (cat_of hR)
  rw [len_data] at hR
  have HR := hid_mk hR
  have HS0 : Hid (RD s rb i op (w.alloc (.cells #[.int .i64 0, .int .u64 0, .int .u64 0, .int .u64 0, .int .u64 0, .slice none 0 0, .int .i64 0, .int .i64 0] 28)) ∧ TabW (w.alloc (.cells #[.int .i64 0, .int .u64 0, .int .u64 0, .int .u64 0, .int .u64 0, .slice none 0 0, .int .i64 0, .int .i64 0] 28))) := hid_mk ⟨Blk.alloc h _, hT.only (rb := rb) ((Only.refl rb w).alloc _) hr⟩
  have HTW := hid_mk hT
  clear h hT HA hf hz hR
  go_enter Tryd.func37, Tryd.ntmps37
  go_wp2
  go_loopw [3] (fun v wr => CatAt s rb op i atm w R v wr) (fun _ wr => s.size - posOf rb wr)
  case atStart => exact ⟨[], [], i, s.size + 1, Parts.nil _ _, HS0.out.1, (Only.refl rb w).alloc _, HS0.out.2, Blk.new w _ _, Nat.le_refl _, hi, by omega, by rw [Node.sizes_nil]; omega, HR.out⟩
  case round =>
    obtain ⟨ns, ds, k, f, hpt, hd, ho, ht, hb, hik, hk, hf, hsz, he⟩ := hrel
    have HP := hide (unhide HPK k hk wr hd)
    have HPO := hid_mk (posOf_eq hd)
    have HPT := hid_mk hpt
    have HD := hid_mk hd
    have HO := hid_mk ho
    have HT := hid_mk ht
    have HB := hid_mk hb
    have hf1 : ∃ f', f = f' + 1 := ⟨f - 1, by omega⟩
    obtain ⟨f', rfl⟩ := hf1
    have hzw : w.heap.size < wr.heap.size := hb.lt
    have hbk := pk_bd s.data.toList k
    by_cases hstop : Rx.pk s.data.toList k = -1 ∨ Rx.pk s.data.toList k = 124 ∨ Rx.pk s.data.toList k = 41
    · have HE := hid_mk (HC.out.1 _ _ (he.trans (pieces_stop hstop)))
      clear hpt hd ho ht hb he HR HS0
      have hj := HPT.out.slice
      obtain ⟨A, cap, hv, hsl, hkk⟩ := hj
      have HJ := hide (fun m => join_any 2 A cap ns (fun b => w.heap.size < b ∧ b < wr.heap.size) (wr.drewN m) (fun b hb => hb.2) hsl (kidsAt_keep (w := wr) (w' := wr.drewN m) (fun b hb => rfl) (fun b hb => hb) hkk) (by omega))
      subst hv
      have HNJ : ∃ nj, nj = Rx.join 2 ns := ⟨_, rfl⟩
      obtain ⟨nj, hnj⟩ := HNJ
      rw [← hnj] at HE HJ
      clear hnj hsl hkk
      generalize Rx.pk s.data.toList k = c at *
      have HST : (c = -1) ∨ (c = 124) ∨ (c = 41) := hstop
      clear hstop
      rcases HST with rfl | rfl | rfl
      all_goals
        go_wp2_with fail
        refine (unhide HP).mono ?_
        rintro x w2 ⟨rfl, m, rfl⟩
        go_wp2_with fail
        refine (unhide HJ m).mono ?_
        rintro x w3 ⟨A', cap', rfl, hsl', hb3, hk3⟩
        have hr3 := Blk.call (HB.out.drewN m) hb3
        (have r0 : w3.cell? ⟨w.heap.size, 0, none⟩ = some (.int .i64 0) := hr3.cell 0; have r1 : w3.cell? ⟨w.heap.size, 1, none⟩ = some (.int .u64 0) := hr3.cell 1; have r2 : w3.cell? ⟨w.heap.size, 2, none⟩ = some (.int .u64 0) := hr3.cell 2; have r3 : w3.cell? ⟨w.heap.size, 3, none⟩ = some (.int .u64 0) := hr3.cell 3; have r4 : w3.cell? ⟨w.heap.size, 4, none⟩ = some (.int .u64 0) := hr3.cell 4; have r5 : w3.cell? ⟨w.heap.size, 5, none⟩ = some (.slice none 0 0) := hr3.cell 5; have r6 : w3.cell? ⟨w.heap.size, 6, none⟩ = some (.int .i64 0) := hr3.cell 6; have r7 : w3.cell? ⟨w.heap.size, 7, none⟩ = some (.int .i64 0) := hr3.cell 7; have rf : ∀ i, w3.frozen? ⟨w.heap.size, i, none⟩ = false := hr3.frozen)
        have hz3 : w.heap.size < w3.heap.size := hr3.lt
        have HR3 := hid_mk (And.intro hsl' (And.intro hb3 hk3))
        clear hr3 hsl' hb3 hk3
        go_wp2
        refine bodyPost_ret (v := .agg #[.int .i64 (nj.kind), .int .u64 ((nj.set).a.toNat : Int), .int .u64 ((nj.set).b.toNat : Int), .int .u64 ((nj.set).c.toNat : Int), .int .u64 ((nj.set).d.toNat : Int), .slice (A') (nj.kids.length) (cap'), .int .i64 (nj.min), .int .i64 (nj.max)]) (by simp [results, Tryd.results37, go_sem, r0, r1, r2, r3, r4, r5, r6, r7, hz3]) rfl ?_
        rw [HE.out]
        exact join_final (HO.out.drewN m) (HD.out.drewN m) hl HR3.out.2.1 HR3.out.1 hzw HR3.out.2.2 (set8_only w.heap.size _ _ _ _ _ _ _ _ _)
    · have hpc := HFI.out k hk
      cases hit : Rx.piece s.data.toList atm k with
      | out => rw [hit] at hpc; exact hpc.elim
      | bad e q =>
        have HE := hid_mk (HC.out.2 _ _ (he.trans (pieces_bad hstop hit)))
        have HPX := hide (fun m => unhide HPI k hk (wr.drewN m) hd ht)
        rw [hit] at HPX
        clear hpt hd ho ht hb he HR HS0 hit hpc HC
        generalize Rx.pk s.data.toList k = c at *
        have e1 : (c == -1) = false := by simp; omega
        have e2 : (c == 124) = false := by simp; omega
        have e3 : (c == 41) = false := by simp; omega
        clear hstop
        go_wp2_with fail
        refine (unhide HP).mono ?_
        rintro x w2 ⟨rfl, m, rfl⟩
        go_wp2_with fail
        refine (unhide HPX m).mono ?_
        rintro x w3 ⟨ho3, rfl⟩
        refine ⟨rfl, ?_⟩
        rw [HE.out]
        exact RetNd.bad ((HO.out.drewN m).step ho3)
      | ok n q =>
        have HNX := hid_mk (he.trans (pieces_next hstop hit))
        have HPX := hide (fun m => unhide HPI k hk (wr.drewN m) hd ht)
        have hsp := HSZ.out k n q (by simpa using hk) hit
        rw [hit] at HPX hpc
        have hkq : k < q ∧ q ≤ s.size := by have := hpc.1; have := hpc.2; simp at *; omega
        clear hpt hd ho ht hb he HR HS0 hit hpc HC
        generalize Rx.pk s.data.toList k = c at *
        have e1 : (c == -1) = false := by simp; omega
        have e2 : (c == 124) = false := by simp; omega
        have e3 : (c == 41) = false := by simp; omega
        clear hstop
        go_wp2_with fail
        refine (unhide HP).mono ?_
        rintro x w2 ⟨rfl, m, rfl⟩
        go_wp2_with fail
        refine (unhide HPX m).mono ?_
        rintro x w3 ⟨ho3, hd3, A, cap, rfl, hsl, hkk⟩
        have hp3 := HPT.out.only ((Only.drewN (Only.refl rb wr) m).step ho3) (Nat.le_of_lt hl)
        have hlen := Node.length_le_sizes ns
        have hk8 := n.size_pos
        have hz3 : wr.heap.size ≤ w3.heap.size := ho3.size
        have hown := (hp3.only ((Only.refl rb w3).alloc (.cells #[.int .i64 (n.kind), .int .u64 ((n.set).a.toNat : Int), .int .u64 ((n.set).b.toNat : Int), .int .u64 ((n.set).c.toNat : Int), .int .u64 ((n.set).d.toNat : Int), .slice (A) (n.kids.length) (cap), .int .i64 (n.min), .int .i64 (n.max)] 28)) (Nat.le_of_lt hl)).own
        have HP3 := hid_mk hp3
        have HLT := hid_mk (fun g hg => (HPT.out.own.lt g hg).2)
        have HD3 := hid_mk hd3
        have HO3 := hid_mk (((HO.out.drewN m).step ho3).alloc (.cells #[.int .i64 (n.kind), .int .u64 ((n.set).a.toNat : Int), .int .u64 ((n.set).b.toNat : Int), .int .u64 ((n.set).c.toNat : Int), .int .u64 ((n.set).d.toNat : Int), .slice (A) (n.kids.length) (cap), .int .i64 (n.min), .int .i64 (n.max)] 28))
        have HK3 := hid_mk hkk
        have HB3 := hid_mk (ho3.blk (by omega) (HB.out.drewN m))
        have HT3 := hid_mk (HT.out.only ((Only.drewN (Only.refl rb wr) m).step ho3) hr)
        have HNB := hid_mk (World.news_of_block (Blk.new w3 #[.int .i64 (n.kind), .int .u64 ((n.set).a.toNat : Int), .int .u64 ((n.set).b.toNat : Int), .int .u64 ((n.set).c.toNat : Int), .int .u64 ((n.set).d.toNat : Int), .slice (A) (n.kids.length) (cap), .int .i64 (n.min), .int .i64 (n.max)] 28))
        clear hp3 ho3 hd3 hkk
        go_wp2_with (at_builtin; refine wpList_append_own_at _ rfl _ _ 26 rfl (w.heap.size + 1) 28 i0 _ 8 80 Tryd.underlying26 hi0 hz0 hz1 hz2 rfl (by decide) _ _ ds rfl hown ⟨w3.heap.size, 0, none⟩ 1 1 [.int .i64 (n.kind), .int .u64 ((n.set).a.toNat : Int), .int .u64 ((n.set).b.toNat : Int), .int .u64 ((n.set).c.toNat : Int), .int .u64 ((n.set).d.toNat : Int), .slice (A) (n.kids.length) (cap), .int .i64 (n.min), .int .i64 (n.max)] rfl rfl ?c1 ?c2 ?c3 ?c4 ?c5 ?_)
        case c1 => exact HNB.out
        case c2 => exact nodeAt_plain (nodeAt_of hsl HK3.out)
        case c3 => unfold maxLen; omega
        case c4 => omega
        case c5 => simp; omega
        intro v' w4 hown4 hg hnil hat
        have hrow : ∀ g, u3.ownBlock = some g → w.heap.size ≤ g := fun g hg' => by have := (HPT.out.own.lt g hg').1; omega
        have hO4 := HO3.out.grown hg hrow
        have hD4 := blk_grown (Blk.alloc HD3.out (.cells #[.int .i64 (n.kind), .int .u64 ((n.set).a.toNat : Int), .int .u64 ((n.set).b.toNat : Int), .int .u64 ((n.set).c.toNat : Int), .int .u64 ((n.set).d.toNat : Int), .slice (A) (n.kids.length) (cap), .int .i64 (n.min), .int .i64 (n.max)] 28)) hg (fun e => by have := hrow _ e; omega)
        have hB4 := blk_grown (Blk.alloc HB3.out (.cells #[.int .i64 (n.kind), .int .u64 ((n.set).a.toNat : Int), .int .u64 ((n.set).b.toNat : Int), .int .u64 ((n.set).c.toNat : Int), .int .u64 ((n.set).d.toNat : Int), .slice (A) (n.kids.length) (cap), .int .i64 (n.min), .int .i64 (n.max)] 28)) hg (fun e => by have := (HPT.out.own.lt _ e).1; omega)
        have hP4 := Parts.push (wr := wr.drewN m) (HP3.out.only ((Only.refl rb w3).alloc _) (Nat.le_of_lt hl)) HLT.out (by exact hzw) hsl (kids_only ((Only.refl rb w3).alloc _) (by exact (Nat.lt_trans hl hzw)) HK3.out) (by simp; exact Nat.le_succ_of_le hz3) hg (by simpa using hat) hown4
        have HX := hid_mk (CatAt.mk' hP4 hD4 hO4 (HTW.out.only hO4 hr) hB4 (Nat.le_trans hik (Nat.le_of_lt hkq.1)) hkq.2 (by omega) (by rw [Node.sizes_append, Node.sizes_cons, Node.sizes_nil]; omega) HNX.out)
        have HPO4 := hid_mk (posOf_eq hD4)
        clear hO4 hD4 hB4 hP4 hg hat hown4 hnil
        go_wp2
        refine ⟨HX.out, ?_⟩
        rw [HPO4.out, HPO.out]
        omega
/-- at a round's head -/
def AltAt (s : ByteArray) (rb op i : Nat) (atm : Nat → Res Node) (w : World) (R : Res (List Node)) (v : Value) (wr : World) : Prop :=
  ∃ (ns : List Node) (ds : List Value) (k f : Nat), Parts w wr v ns ds ∧ RD s rb k op wr ∧ Only rb w wr ∧ Blk wr w.heap.size #[.int .i64 0, .int .u64 0, .int .u64 0, .int .u64 0, .int .u64 0, .slice none 0 0, .int .i64 0, .int .i64 0] 28 ∧ i ≤ k ∧ k ≤ s.size ∧ s.size < k + f ∧ Node.sizes ns ≤ 2 * (k - i) + 1 ∧ R = Rx.cats s.data.toList atm f ns k
theorem AltAt.mk' {s : ByteArray} {rb op i k f : Nat} {atm : Nat → Res Node} {w : World} {R : Res (List Node)} {v : Value} {wr : World} {ns : List Node} {ds : List Value} (h1 : Parts w wr v ns ds) (h2 : RD s rb k op wr) (h3 : Only rb w wr) (h5 : Blk wr w.heap.size #[.int .i64 0, .int .u64 0, .int .u64 0, .int .u64 0, .int .u64 0, .slice none 0 0, .int .i64 0, .int .i64 0] 28) (h6 : i ≤ k) (h7 : k ≤ s.size) (h8 : s.size < k + f) (h9 : Node.sizes ns ≤ 2 * (k - i) + 1) (h10 : R = Rx.cats s.data.toList atm f ns k) : AltAt s rb op i atm w R v wr :=
  ⟨ns, ds, k, f, h1, h2, h3, h5, h6, h7, h8, h9, h10⟩
theorem cats_stop {l : List UInt8} {atm : Nat → Res Node} {f : Nat} {ns : List Node} {k : Nat} (h : ¬ Rx.pk l k = 124) : Rx.cats l atm (f + 1) ns k = .ok ns k := by rw [Rx.cats, if_neg h]
theorem cats_bad {l : List UInt8} {atm : Nat → Res Node} {f : Nat} {ns : List Node} {k : Nat} {e : Int} {q : Nat} (h : Rx.pk l k = 124) (hr : Rx.cat l atm (k + 1) = .bad e q) : Rx.cats l atm (f + 1) ns k = .bad e q := by rw [Rx.cats, if_pos h, hr]
theorem cats_next {l : List UInt8} {atm : Nat → Res Node} {f : Nat} {ns : List Node} {k : Nat} {n : Node} {q : Nat} (h : Rx.pk l k = 124) (hr : Rx.cat l atm (k + 1) = .ok n q) : Rx.cats l atm (f + 1) ns k = Rx.cats l atm f (ns ++ [n]) q := by rw [Rx.cats, if_pos h, hr]
theorem alt_of {l : List UInt8} {atm : Nat → Res Node} {i : Nat} {n : Node} {p : Nat} {R : Res (List Node)} (hc : Rx.cat l atm i = .ok n p) (h : R = Rx.cats l atm (l.length + 1) [n] p) :
    (∀ n q, R = .ok [n] q → Rx.alt l atm i = .ok n q) ∧ (∀ ns q, ns.length ≠ 1 → R = .ok ns q → Rx.alt l atm i = .ok (Rx.join 3 ns) q) ∧ (∀ e q, R = .bad e q → Rx.alt l atm i = .bad e q) := by
  refine ⟨fun n q e => ?_, fun ns q hn e => ?_, fun e q e' => ?_⟩ <;> unfold Rx.alt <;> rw [hc] <;> dsimp only <;> rw [← h]
  · rw [e]
  · rw [e]
    split
    · rename_i e2; obtain ⟨rfl, rfl⟩ := Res.ok.inj e2; simp at hn
    · rename_i e2; obtain ⟨rfl, rfl⟩ := Res.ok.inj e2; rfl
    · rename_i e2; cases e2
    · rename_i e2; cases e2
  · rw [e']
/-- the parts at the start: one node in a new slice -/
theorem Parts.first {w w1 : World} {n : Node} {A : Option Addr} {cap : Nat} (h0 : w.heap.size < w1.heap.size) (hs : SlOk A n.kids.length cap) (hk : KidsAt (New (w.alloc (.cells #[.int .i64 0, .int .u64 0, .int .u64 0, .int .u64 0, .int .u64 0, .slice none 0 0, .int .i64 0, .int .i64 0] 28)) w1) w1 A n.kids) :
    Parts w (w1.alloc (.cells #[.int .i64 (n.kind), .int .u64 ((n.set).a.toNat : Int), .int .u64 ((n.set).b.toNat : Int), .int .u64 ((n.set).c.toNat : Int), .int .u64 ((n.set).d.toNat : Int), .slice (A) (n.kids.length) (cap), .int .i64 (n.min), .int .i64 (n.max)] 28)) (.slice (some ⟨w1.heap.size, 0, none⟩) 1 1) [n] [.int .i64 (n.kind), .int .u64 ((n.set).a.toNat : Int), .int .u64 ((n.set).b.toNat : Int), .int .u64 ((n.set).c.toNat : Int), .int .u64 ((n.set).d.toNat : Int), .slice (A) (n.kids.length) (cap), .int .i64 (n.min), .int .i64 (n.max)] := by
  have k1 : Keeps (New (w.alloc (.cells #[.int .i64 0, .int .u64 0, .int .u64 0, .int .u64 0, .int .u64 0, .slice none 0 0, .int .i64 0, .int .i64 0] 28)) w1) w1 (w1.alloc (.cells #[.int .i64 (n.kind), .int .u64 ((n.set).a.toNat : Int), .int .u64 ((n.set).b.toNat : Int), .int .u64 ((n.set).c.toNat : Int), .int .u64 ((n.set).d.toNat : Int), .slice (A) (n.kids.length) (cap), .int .i64 (n.min), .int .i64 (n.max)] 28)) := fun b hb => ((Below.refl w1.heap.size w1).alloc (Nat.le_refl _) _).block b hb.2
  refine ⟨nodesAt_one (nodeAt_of hs (kidsAt_keep k1 (fun b hb => ?_) hk)), World.ownsRow_lit w1 #[.int .i64 (n.kind), .int .u64 ((n.set).a.toNat : Int), .int .u64 ((n.set).b.toNat : Int), .int .u64 ((n.set).c.toNat : Int), .int .u64 ((n.set).d.toNat : Int), .slice (A) (n.kids.length) (cap), .int .i64 (n.min), .int .i64 (n.max)] 1 (by omega) (by unfold maxLen; omega) rfl⟩
  have h1 := hb.1
  have h2 := hb.2
  simp at h1
  refine ⟨by omega, by simp; omega, fun e => ?_⟩
  injection e with e
  dsimp only at e
  omega
theorem one_final {s : ByteArray} {rb op q : Nat} {w W V : World} {n : Node} {A : Option Addr} {cap : Nat} (ho : Only rb w W) (hd : RD s rb q op W) (hrb : rb < w.heap.size) (hs : SlOk A n.kids.length cap)
    (hk : KidsAt (fun b => w.heap.size < b ∧ b < W.heap.size) W A n.kids) (hv : Only w.heap.size W V) :
    RetNd s rb op (.ok n q) w (.returned (.agg #[.int .i64 (n.kind), .int .u64 ((n.set).a.toNat : Int), .int .u64 ((n.set).b.toNat : Int), .int .u64 ((n.set).c.toNat : Int), .int .u64 ((n.set).d.toNat : Int), .slice (A) (n.kids.length) (cap), .int .i64 (n.min), .int .i64 (n.max)])) V := by
  refine RetNd.ok ⟨hv.os.trans ho.os, hv.tape.trans ho.tape, hv.output.trans ho.output, Nat.le_trans ho.size hv.size, fun k hk' hne => (hv.block k (Nat.lt_of_lt_of_le hk' ho.size) (by omega)).trans (ho.block k hk' hne)⟩ (hv.blk (by omega) hd) hs ?_
  exact kidsAt_keep (fun b hb' => hv.block b hb'.2 (by have := hb'.1; omega)) (fun b hb' => ⟨Nat.le_of_lt hb'.1, Nat.lt_of_lt_of_le hb'.2 hv.size⟩) hk
theorem alt_any (s : ByteArray) (rb i op : Nat) (atm : Nat → Res Node) (HA : AtomOk s rb op atm) (hf : ∀ i, i ≤ s.data.toList.length → Fine s.data.toList i (atm i)) (hz : Rx.Lean2 s.data.toList atm) (w : World) (h : RD s rb i op w) (hs : s.size ≤ 1000) (hi : i ≤ s.size) (hT : TabW w) (hr : 0 ≠ rb) :
    Calls Tryd.prog 27 #[.pointer (some ⟨rb, 0, none⟩)] w (RetNd s rb op (Rx.alt s.data.toList atm i) w) := by
  have hl : rb < w.heap.size := h.lt
  have HCT := hide (fun k (hk : k ≤ s.size) a h hT => cat_any s rb k op atm HA hf hz a h hs hk hT hr)
  have HPK := hide (fun k (hk : k ≤ s.size) a h => peek_any s rb k op a h hs (by omega))
  have HSZ := hid_mk (fun k n q (hk : k ≤ s.data.toList.length) e => Rx.size_cat (n := n) (p := q) hz hf hk e)
  have HFI := hid_mk (fun k (hk : k ≤ s.size) => fine_cat s.data.toList atm hf k (by simpa using hk))
  obtain ⟨i0, hi0, hz0, hz1, hz2⟩ := info_parts node_info
  have HCC := unhide HCT i hi (w.alloc (.cells #[.int .i64 0, .int .u64 0, .int .u64 0, .int .u64 0, .int .u64 0, .slice none 0 0, .int .i64 0, .int .i64 0] 28)) (Blk.alloc h _) (hT.only (rb := rb) ((Only.refl rb w).alloc _) hr)
  have HTW := hid_mk hT
  have hfc := HFI.out i hi
  clear h hT HA hf hz
  cases hit0 : Rx.cat s.data.toList atm i with
  | out => rw [hit0] at hfc; exact hfc.elim
  | bad e q =>
    have HE : Hid (Rx.alt s.data.toList atm i = .bad e q) := hid_mk (by unfold Rx.alt; rw [hit0])
    rw [hit0] at HCC
    have HC1 := hide HCC
    rw [HE.out]
    clear hit0 hfc HCC HE
    go_enter Tryd.func27, Tryd.ntmps27
    go_wp2_with fail
    refine (unhide HC1).mono ?_
    rintro x w1 ⟨ho, rfl⟩
    exact ⟨rfl, RetNd.bad (((Only.refl rb w).alloc _).step ho)⟩
  | ok n0 p0 =>
    obtain ⟨R, hR⟩ : ∃ R, R = Rx.cats s.data.toList atm (s.data.toList.length + 1) [n0] p0 := ⟨_, rfl⟩
    have HC := hid_mk (alt_of hit0 hR)
    have hs0 := HSZ.out i n0 p0 (by simpa using hi) hit0
    rw [hit0] at HCC hfc
    have hp0 : i ≤ p0 ∧ p0 ≤ s.size := by have := hfc.1; have := hfc.2; simp at *; omega
    rw [len_data] at hR
    have HR := hid_mk hR
    have HC1 := hide HCC
    clear hit0 hfc HCC hR
    go_enter Tryd.func27, Tryd.ntmps27
    go_wp2_with fail
    refine (unhide HC1).mono ?_
    rintro x w1 ⟨ho1, hd1, A1, cap1, rfl, hsl1, hk1⟩
    have hzw1 : w.heap.size < w1.heap.size := by have := ho1.size; simp at this; omega
    have HX0 : Hid (AltAt s rb op i atm w R (.slice (some ⟨w1.heap.size, 0, none⟩) 1 1) (w1.alloc (.cells #[.int .i64 (n0.kind), .int .u64 ((n0.set).a.toNat : Int), .int .u64 ((n0.set).b.toNat : Int), .int .u64 ((n0.set).c.toNat : Int), .int .u64 ((n0.set).d.toNat : Int), .slice (A1) (n0.kids.length) (cap1), .int .i64 (n0.min), .int .i64 (n0.max)] 28))) :=
      hid_mk (AltAt.mk' (Parts.first hzw1 hsl1 hk1) (Blk.alloc hd1 _) ((((Only.refl rb w).alloc _).step ho1).alloc _) (Blk.alloc (ho1.blk (by omega) (Blk.new w _ _)) _) hp0.1 hp0.2 (by omega) (by rw [Node.sizes_cons, Node.sizes_nil]; omega) HR.out)
    clear ho1 hd1 hk1 hsl1 HR
    go_wp2
    go_loopw [3] (fun v wr => AltAt s rb op i atm w R v wr) (fun _ wr => s.size - posOf rb wr)
    case atStart => exact HX0.out
    case round =>
      clear HX0 hzw1
      obtain ⟨ns, ds, k, f, hpt, hd, ho, hb, hik, hk, hf, hsz, he⟩ := hrel
      have HP := hide (unhide HPK k hk wr hd)
      have HPO := hid_mk (posOf_eq hd)
      have HPT := hid_mk hpt
      have HD := hid_mk hd
      have HO := hid_mk ho
      have HB := hid_mk hb
      have hf1 : ∃ f', f = f' + 1 := ⟨f - 1, by omega⟩
      obtain ⟨f', rfl⟩ := hf1
      have hzw : w.heap.size < wr.heap.size := hb.lt
      have hlw : rb < wr.heap.size := hd.lt
      have hbk := pk_bd s.data.toList k
      by_cases hbar : Rx.pk s.data.toList k = 124
      · have hlt : k < s.size := by simpa using pk_in (l := s.data.toList) (i := k) (by rw [hbar]; decide)
        have hpc := HFI.out (k + 1) hlt
        have hdn : ∀ m, RD s rb (k + 1) op ((wr.setCell ⟨rb, 1, none⟩ (.int .i64 ((k : Int) + 1))).drewN m) := fun m => hd.nextD m
        have hon : ∀ m, Only rb wr ((wr.setCell ⟨rb, 1, none⟩ (.int .i64 ((k : Int) + 1))).drewN m) := fun m => nextD_only rb k wr m
        have HPX := hide (fun m => unhide HCT (k + 1) hlt _ (hdn m) (HTW.out.only (ho.step (hon m)) hr))
        have HON := hid_mk hon
        (have g0 : wr.cell? ⟨rb, 0, none⟩ = some (.string s) := hd.cell 0; have g1 : wr.cell? ⟨rb, 1, none⟩ = some (.int .i64 ((k : Nat) : Int)) := hd.cell 1; have g2 : wr.cell? ⟨rb, 2, none⟩ = some (.int .i64 ((op : Nat) : Int)) := hd.cell 2; have gf : ∀ i, wr.frozen? ⟨rb, i, none⟩ = false := hd.frozen)
        clear hdn hon
        cases hit : Rx.cat s.data.toList atm (k + 1) with
        | out => rw [hit] at hpc; exact hpc.elim
        | bad e q =>
          have HE := hid_mk (HC.out.2.2 _ _ (he.trans (cats_bad hbar hit)))
          rw [hit] at HPX
          rw [hbar] at HP
          clear hpt hd ho hb he hit hpc HC hbar hbk
          go_wp2_with fail
          refine (unhide HP).mono ?_
          rintro x w2 ⟨rfl, m, rfl⟩
          go_wp2_with fail
          refine (unhide HPX m).mono ?_
          rintro x w3 ⟨ho3, rfl⟩
          refine ⟨rfl, ?_⟩
          rw [HE.out]
          exact RetNd.bad ((HO.out.step (HON.out m)).step ho3)
        | ok n q =>
          have HNX := hid_mk (he.trans (cats_next hbar hit))
          have hsp := HSZ.out (k + 1) n q (by simp; omega) hit
          rw [hit] at HPX hpc
          rw [hbar] at HP
          have hkq : k + 1 ≤ q ∧ q ≤ s.size := by have := hpc.1; have := hpc.2; simp at *; omega
          clear hpt hd ho hb he hit hpc HC hbar hbk
          go_wp2_with fail
          refine (unhide HP).mono ?_
          rintro x w2 ⟨rfl, m, rfl⟩
          go_wp2_with fail
          refine (unhide HPX m).mono ?_
          rintro x w3 ⟨ho3, hd3, A, cap, rfl, hsl, hkk⟩
          have hstep := (HON.out m).step ho3
          have hp3 := HPT.out.only hstep (Nat.le_of_lt hl)
          have hlen := Node.length_le_sizes ns
          have hk8 := n.size_pos
          have hz3 : wr.heap.size ≤ w3.heap.size := hstep.size
          have hown := (hp3.only ((Only.refl rb w3).alloc (.cells #[.int .i64 (n.kind), .int .u64 ((n.set).a.toNat : Int), .int .u64 ((n.set).b.toNat : Int), .int .u64 ((n.set).c.toNat : Int), .int .u64 ((n.set).d.toNat : Int), .slice (A) (n.kids.length) (cap), .int .i64 (n.min), .int .i64 (n.max)] 28)) (Nat.le_of_lt hl)).own
          have HP3 := hid_mk hp3
          have HLT := hid_mk (fun g hg => (HPT.out.own.lt g hg).2)
          have HD3 := hid_mk hd3
          have HO3 := hid_mk ((HO.out.step hstep).alloc (.cells #[.int .i64 (n.kind), .int .u64 ((n.set).a.toNat : Int), .int .u64 ((n.set).b.toNat : Int), .int .u64 ((n.set).c.toNat : Int), .int .u64 ((n.set).d.toNat : Int), .slice (A) (n.kids.length) (cap), .int .i64 (n.min), .int .i64 (n.max)] 28))
          have HK3 := hid_mk (kids_more (w1 := wr) (by simp [World.setCell]) hkk)
          have HB3 := hid_mk (hstep.blk (by omega) HB.out)
          have HNB := hid_mk (World.news_of_block (Blk.new w3 #[.int .i64 (n.kind), .int .u64 ((n.set).a.toNat : Int), .int .u64 ((n.set).b.toNat : Int), .int .u64 ((n.set).c.toNat : Int), .int .u64 ((n.set).d.toNat : Int), .slice (A) (n.kids.length) (cap), .int .i64 (n.min), .int .i64 (n.max)] 28))
          clear hp3 ho3 hd3 hkk hstep
          go_wp2_with (at_builtin; refine wpList_append_own_at _ rfl _ _ 26 rfl (w.heap.size + 1) 28 i0 _ 8 80 Tryd.underlying26 hi0 hz0 hz1 hz2 rfl (by decide) _ _ ds rfl hown ⟨w3.heap.size, 0, none⟩ 1 1 [.int .i64 (n.kind), .int .u64 ((n.set).a.toNat : Int), .int .u64 ((n.set).b.toNat : Int), .int .u64 ((n.set).c.toNat : Int), .int .u64 ((n.set).d.toNat : Int), .slice (A) (n.kids.length) (cap), .int .i64 (n.min), .int .i64 (n.max)] rfl rfl ?c1 ?c2 ?c3 ?c4 ?c5 ?_)
          case c1 => exact HNB.out
          case c2 => exact nodeAt_plain (nodeAt_of hsl HK3.out)
          case c3 => unfold maxLen; omega
          case c4 => omega
          case c5 => simp; omega
          intro v' w4 hown4 hg hnil hat
          have hrow : ∀ g, u3.ownBlock = some g → w.heap.size ≤ g := fun g hg' => by have := (HPT.out.own.lt g hg').1; omega
          have hO4 := HO3.out.grown hg hrow
          have hD4 := blk_grown (Blk.alloc HD3.out (.cells #[.int .i64 (n.kind), .int .u64 ((n.set).a.toNat : Int), .int .u64 ((n.set).b.toNat : Int), .int .u64 ((n.set).c.toNat : Int), .int .u64 ((n.set).d.toNat : Int), .slice (A) (n.kids.length) (cap), .int .i64 (n.min), .int .i64 (n.max)] 28)) hg (fun e => by have := hrow _ e; omega)
          have hB4 := blk_grown (Blk.alloc HB3.out (.cells #[.int .i64 (n.kind), .int .u64 ((n.set).a.toNat : Int), .int .u64 ((n.set).b.toNat : Int), .int .u64 ((n.set).c.toNat : Int), .int .u64 ((n.set).d.toNat : Int), .slice (A) (n.kids.length) (cap), .int .i64 (n.min), .int .i64 (n.max)] 28)) hg (fun e => by have := (HPT.out.own.lt _ e).1; omega)
          have hP4 := Parts.push (wr := wr) (HP3.out.only ((Only.refl rb w3).alloc _) (Nat.le_of_lt hl)) HLT.out hzw hsl (kids_only ((Only.refl rb w3).alloc _) hlw HK3.out) (by simp; exact Nat.le_succ_of_le hz3) hg (by simpa using hat) hown4
          have HX := hid_mk (AltAt.mk' hP4 hD4 hO4 hB4 (by omega : i ≤ q) hkq.2 (by omega) (by rw [Node.sizes_append, Node.sizes_cons, Node.sizes_nil]; omega) HNX.out)
          have HPO4 := hid_mk (posOf_eq hD4)
          clear hO4 hD4 hB4 hP4 hg hat hown4 hnil
          go_wp2
          refine ⟨HX.out, ?_⟩
          rw [HPO4.out, HPO.out]
          omega
      · have HE := hid_mk (he.trans (cats_stop hbar))
        clear hpt hd ho hb he
        have hj := HPT.out.slice
        obtain ⟨A, cap, hv, hsl, hkk⟩ := hj
        have hbar2 : (Rx.pk s.data.toList k == 124) = false := by simpa using hbar
        clear hbar
        generalize Rx.pk s.data.toList k = c at *
        by_cases h1 : ns.length = 1
        · obtain ⟨nj, rfl⟩ : ∃ nj, ns = [nj] := by
            match ns, h1 with
            | [a], _ => exact ⟨a, rfl⟩
          have HF := hid_mk (HC.out.1 _ _ HE.out)
          obtain ⟨b, o, A', cap', rfl, hgb, hsl', hkj, hc⟩ := kidsAt_at hkk (i := 0) (by simp)
          simp only [List.getElem_cons_zero, Nat.zero_mul, Nat.add_zero] at hsl' hkj hc
          subst hv
          (have z0 : wr.cell? ⟨b, o, none⟩ = some (.int .i64 (nj.kind)) := hc 0 _ rfl; have z1 : wr.cell? ⟨b, o + 1, none⟩ = some (.int .u64 ((nj.set).a.toNat : Int)) := hc 1 _ rfl; have z2 : wr.cell? ⟨b, o + 2, none⟩ = some (.int .u64 ((nj.set).b.toNat : Int)) := hc 2 _ rfl; have z3 : wr.cell? ⟨b, o + 3, none⟩ = some (.int .u64 ((nj.set).c.toNat : Int)) := hc 3 _ rfl; have z4 : wr.cell? ⟨b, o + 4, none⟩ = some (.int .u64 ((nj.set).d.toNat : Int)) := hc 4 _ rfl; have z5 : wr.cell? ⟨b, o + 5, none⟩ = some (.slice (A') (nj.kids.length) (cap')) := hc 5 _ rfl; have z6 : wr.cell? ⟨b, o + 6, none⟩ = some (.int .i64 (nj.min)) := hc 6 _ rfl; have z7 : wr.cell? ⟨b, o + 7, none⟩ = some (.int .i64 (nj.max)) := hc 7 _ rfl)
          (have r0 : wr.cell? ⟨w.heap.size, 0, none⟩ = some (.int .i64 0) := HB.out.cell 0; have r1 : wr.cell? ⟨w.heap.size, 1, none⟩ = some (.int .u64 0) := HB.out.cell 1; have r2 : wr.cell? ⟨w.heap.size, 2, none⟩ = some (.int .u64 0) := HB.out.cell 2; have r3 : wr.cell? ⟨w.heap.size, 3, none⟩ = some (.int .u64 0) := HB.out.cell 3; have r4 : wr.cell? ⟨w.heap.size, 4, none⟩ = some (.int .u64 0) := HB.out.cell 4; have r5 : wr.cell? ⟨w.heap.size, 5, none⟩ = some (.slice none 0 0) := HB.out.cell 5; have r6 : wr.cell? ⟨w.heap.size, 6, none⟩ = some (.int .i64 0) := HB.out.cell 6; have r7 : wr.cell? ⟨w.heap.size, 7, none⟩ = some (.int .i64 0) := HB.out.cell 7; have rf : ∀ i, wr.frozen? ⟨w.heap.size, i, none⟩ = false := HB.out.frozen)
          have HKJ := hid_mk hkj
          clear hkj hc hkk hsl h1 HE HC hgb
          go_wp2_with fail
          refine (unhide HP).mono ?_
          rintro x w2 ⟨rfl, m, rfl⟩
          go_wp2
          refine bodyPost_ret (v := .agg #[.int .i64 (nj.kind), .int .u64 ((nj.set).a.toNat : Int), .int .u64 ((nj.set).b.toNat : Int), .int .u64 ((nj.set).c.toNat : Int), .int .u64 ((nj.set).d.toNat : Int), .slice (A') (nj.kids.length) (cap'), .int .i64 (nj.min), .int .i64 (nj.max)]) (by simp [results, Tryd.results27, go_sem, r0, r1, r2, r3, r4, r5, r6, r7, hzw]) rfl ?_
          rw [HF.out]
          exact one_final HO.out HD.out hl hsl' HKJ.out ((set8_only w.heap.size wr _ _ _ _ _ _ _ _).drewN m)
        · have HF := hid_mk (HC.out.2.1 _ _ h1 HE.out)
          have HJ := hide (fun m => join_any 3 A cap ns (fun b => w.heap.size < b ∧ b < wr.heap.size) (wr.drewN m) (fun b hb => hb.2) hsl (kidsAt_keep (w := wr) (w' := wr.drewN m) (fun b hb => rfl) (fun b hb => hb) hkk) (by omega))
          subst hv
          have hl1 : (ns.length == 1) = false := by simpa using h1
          have hl2 : ((ns.length : Int) == 1) = false := by simp; omega
          have HNJ : ∃ nj, nj = Rx.join 3 ns := ⟨_, rfl⟩
          obtain ⟨nj, hnj⟩ := HNJ
          rw [← hnj] at HF HJ
          clear hnj hsl hkk HE HC h1
          go_wp2_with fail
          refine (unhide HP).mono ?_
          rintro x w2 ⟨rfl, m, rfl⟩
          go_wp2_with fail
          refine (unhide HJ m).mono ?_
          rintro x w3 ⟨A', cap', rfl, hsl', hb3, hk3⟩
          have hr3 := Blk.call (HB.out.drewN m) hb3
          (have r0 : w3.cell? ⟨w.heap.size, 0, none⟩ = some (.int .i64 0) := hr3.cell 0; have r1 : w3.cell? ⟨w.heap.size, 1, none⟩ = some (.int .u64 0) := hr3.cell 1; have r2 : w3.cell? ⟨w.heap.size, 2, none⟩ = some (.int .u64 0) := hr3.cell 2; have r3 : w3.cell? ⟨w.heap.size, 3, none⟩ = some (.int .u64 0) := hr3.cell 3; have r4 : w3.cell? ⟨w.heap.size, 4, none⟩ = some (.int .u64 0) := hr3.cell 4; have r5 : w3.cell? ⟨w.heap.size, 5, none⟩ = some (.slice none 0 0) := hr3.cell 5; have r6 : w3.cell? ⟨w.heap.size, 6, none⟩ = some (.int .i64 0) := hr3.cell 6; have r7 : w3.cell? ⟨w.heap.size, 7, none⟩ = some (.int .i64 0) := hr3.cell 7; have rf : ∀ i, w3.frozen? ⟨w.heap.size, i, none⟩ = false := hr3.frozen)
          have hz3 : w.heap.size < w3.heap.size := hr3.lt
          have HR3 := hid_mk (And.intro hsl' (And.intro hb3 hk3))
          clear hr3 hsl' hb3 hk3
          go_wp2
          refine bodyPost_ret (v := .agg #[.int .i64 (nj.kind), .int .u64 ((nj.set).a.toNat : Int), .int .u64 ((nj.set).b.toNat : Int), .int .u64 ((nj.set).c.toNat : Int), .int .u64 ((nj.set).d.toNat : Int), .slice (A') (nj.kids.length) (cap'), .int .i64 (nj.min), .int .i64 (nj.max)]) (by simp [results, Tryd.results27, go_sem, r0, r1, r2, r3, r4, r5, r6, r7, hz3]) rfl ?_
          rw [HF.out]
          exact join_final (HO.out.drewN m) (HD.out.drewN m) hl HR3.out.2.1 HR3.out.1 hzw HR3.out.2.2 (set8_only w.heap.size _ _ _ _ _ _ _ _ _)
theorem RD.opened {s : ByteArray} {rb i op : Nat} {w : World} (h : RD s rb i op w) (op' : Nat) (m : Nat) : RD s rb i op' ((w.setCell ⟨rb, 2, none⟩ (.int .i64 (op' : Int))).drewN m) := Blk.drewN (Blk.put h 2 (.int .i64 (op' : Int))) m
theorem set_final {s : ByteArray} {rb op q : Nat} {w W V : World} {S : CSet} (ho : Only rb w W) (hd : RD s rb q op W) (hrb : rb < w.heap.size) (hv : Only w.heap.size W V) :
    RetNd s rb op (.ok (.mk 1 S [] 0 0) q) w (.returned (.agg #[.int .i64 1, .int .u64 ((S).a.toNat : Int), .int .u64 ((S).b.toNat : Int), .int .u64 ((S).c.toNat : Int), .int .u64 ((S).d.toNat : Int), .slice none 0 0, .int .i64 0, .int .i64 0])) V :=
  RetNd.ok (n := .mk 1 S [] 0 0) ⟨hv.os.trans ho.os, hv.tape.trans ho.tape, hv.output.trans ho.output, Nat.le_trans ho.size hv.size, fun k hk' hne => (hv.block k (Nat.lt_of_lt_of_le hk' ho.size) (by omega)).trans (ho.block k hk' hne)⟩ (hv.blk (by omega) hd) SlOk.none_ (fun h => absurd h (by simp [Node.kids]))
/-- what the walk of an atom begins with -/
structure AtomIn (s : ByteArray) (rb op i : Nat) (w : World) : Prop where
  rd : RD s rb i op w
  tab : TabW w
  len : s.size ≤ 1000
  pos : i ≤ s.size
  ne : 0 ≠ rb
theorem AtomIn.peek {s : ByteArray} {rb op i : Nat} {w : World} (h : AtomIn s rb op i w) (m : Nat) : Calls Tryd.prog 38 #[.pointer (some ⟨rb, 0, none⟩)] ((w.alloc (.cells #[.int .i64 0, .int .u64 0, .int .u64 0, .int .u64 0, .int .u64 0, .slice none 0 0, .int .i64 0, .int .i64 0] 28)).drewN m) (RetN (.int .i64 (Rx.pk s.data.toList i)) ((w.alloc (.cells #[.int .i64 0, .int .u64 0, .int .u64 0, .int .u64 0, .int .u64 0, .slice none 0 0, .int .i64 0, .int .i64 0] 28)).drewN m)) :=
  peek_any s rb i op _ (Blk.drewN (Blk.alloc h.rd _) m) h.len (by have := h.pos; have := h.len; omega)
theorem atom_wrong (s : ByteArray) (rb op i : Nat) (w : World) (h : AtomIn s rb op i w) (hw : Rx.wrongAtom (Rx.pk s.data.toList i) = true) :
    Calls Tryd.prog 55 #[.pointer (some ⟨rb, 0, none⟩)] w (RetNd s rb op (Rx.other s.data.toList i) w) := by
  have HP := hide (h.peek 0)
  have HW := hide (fun m => wrong_any s rb i op ((w.alloc (.cells #[.int .i64 0, .int .u64 0, .int .u64 0, .int .u64 0, .int .u64 0, .slice none 0 0, .int .i64 0, .int .i64 0] 28)).drewN m) (Blk.drewN (Blk.alloc h.rd _) m) h.len (by have := h.pos; have := h.len; omega))
  have HO := hid_mk (other_eq (α := Node) s i)
  clear h
  generalize Rx.pk s.data.toList i = c at *
  have hcs : c = -1 ∨ c = 41 ∨ c = 93 ∨ c = 123 ∨ c = 125 ∨ c = 124 ∨ c = 42 ∨ c = 43 ∨ c = 63 := by simpa [Rx.wrongAtom] using hw
  clear hw
  rcases hcs with rfl | rfl | rfl | rfl | rfl | rfl | rfl | rfl | rfl
  all_goals
    go_enter Tryd.func55, Tryd.ntmps55
    go_wp2_with fail
    refine (unhide HP).mono ?_
    rintro x w1 ⟨rfl, m, rfl⟩
    go_wp2_with fail
    refine (unhide HW _).mono ?_
    rintro x w2 ⟨rfl, ho⟩
    refine ⟨rfl, ?_⟩
    rw [HO.out]
    exact RetNd.bad (((Only.refl rb w).alloc _).step (((Only.refl _ _).drewN _).step ho))
/-- behind the step over a byte -/
def atomW (w : World) (rb i m : Nat) : World := ((w.setCell ⟨rb, 1, none⟩ (.int .i64 ((i : Int) + 1))).alloc (.cells #[.int .i64 0, .int .u64 0, .int .u64 0, .int .u64 0, .int .u64 0, .slice none 0 0, .int .i64 0, .int .i64 0] 28)).drewN m
theorem atomW_only (w : World) (rb i m : Nat) : Only rb w (atomW w rb i m) := (((Only.refl rb w).set (Or.inl rfl) _).alloc _).drewN m
theorem atomW_rd {s : ByteArray} {rb i op : Nat} {w : World} (h : RD s rb i op w) (m : Nat) : RD s rb (i + 1) op (atomW w rb i m) := Blk.drewN (Blk.alloc (RD.next h) _) m
theorem atomW_blk (w : World) (rb i m : Nat) : Blk (atomW w rb i m) w.heap.size #[.int .i64 0, .int .u64 0, .int .u64 0, .int .u64 0, .int .u64 0, .slice none 0 0, .int .i64 0, .int .i64 0] 28 := Blk.drewN (Blk.newAt (by simp [World.setCell])) m
theorem pkn {l : List UInt8} {i : Nat} (h : Rx.pk l i ≠ -1) : ∃ n : Nat, n < 256 ∧ Rx.pk l i = (n : Int) := by
  have := pkb l i
  exact ⟨(Rx.pk l i).toNat, by omega, by omega⟩
theorem atom_dot (s : ByteArray) (rb op i : Nat) (w : World) (h : AtomIn s rb op i w) (hc : Rx.pk s.data.toList i = 46) :
    Calls Tryd.prog 55 #[.pointer (some ⟨rb, 0, none⟩)] w (RetNd s rb op (.ok (.mk 1 (CSet.between 0 255) [] 0 0) (i + 1)) w) := by
  have hl : rb < w.heap.size := h.rd.lt
  have HP := hide (h.peek 0)
  have hA : RD s rb i op (w.alloc (.cells #[.int .i64 0, .int .u64 0, .int .u64 0, .int .u64 0, .int .u64 0, .slice none 0 0, .int .i64 0, .int .i64 0] 28)) := Blk.alloc h.rd _
  (have h0 : (w.alloc (.cells #[.int .i64 0, .int .u64 0, .int .u64 0, .int .u64 0, .int .u64 0, .slice none 0 0, .int .i64 0, .int .i64 0] 28)).cell? ⟨rb, 0, none⟩ = some (.string s) := hA.cell 0; have h1 : (w.alloc (.cells #[.int .i64 0, .int .u64 0, .int .u64 0, .int .u64 0, .int .u64 0, .slice none 0 0, .int .i64 0, .int .i64 0] 28)).cell? ⟨rb, 1, none⟩ = some (.int .i64 ((i : Nat) : Int)) := hA.cell 1; have h2 : (w.alloc (.cells #[.int .i64 0, .int .u64 0, .int .u64 0, .int .u64 0, .int .u64 0, .slice none 0 0, .int .i64 0, .int .i64 0] 28)).cell? ⟨rb, 2, none⟩ = some (.int .i64 ((op : Nat) : Int)) := hA.cell 2; have hf : ∀ i, (w.alloc (.cells #[.int .i64 0, .int .u64 0, .int .u64 0, .int .u64 0, .int .u64 0, .slice none 0 0, .int .i64 0, .int .i64 0] 28)).frozen? ⟨rb, i, none⟩ = false := hA.frozen)
  have HI := hid_mk h
  clear hA h
  rw [hc] at HP
  clear hc
  have hpos := HI.out.pos
  have hlen := HI.out.len
  go_enter Tryd.func55, Tryd.ntmps55
  go_wp2_with fail
  refine (unhide HP).mono ?_
  rintro x w1 ⟨rfl, m, rfl⟩
  go_wp2_with fail
  refine (of_any 0 255 (by decide) (by decide) _).mono ?_
  rintro x w3 ⟨rfl, hb3⟩
  have hb3' : Below (atomW w rb i m).heap.size (atomW w rb i m) w3 := by first | exact hb3 | (simpa [atomW] using hb3)
  have HO3 := hid_mk ((atomW_only w rb i m).call hb3')
  have HD3 := hid_mk (Blk.call (atomW_rd HI.out.rd m) hb3')
  have HB3 := hid_mk ((atomW_blk w rb i m).call hb3')
  clear hb3 hb3' h0 h1 h2 hf
  have hr3 := HB3.out
  (have r0 : w3.cell? ⟨w.heap.size, 0, none⟩ = some (.int .i64 0) := hr3.cell 0; have r1 : w3.cell? ⟨w.heap.size, 1, none⟩ = some (.int .u64 0) := hr3.cell 1; have r2 : w3.cell? ⟨w.heap.size, 2, none⟩ = some (.int .u64 0) := hr3.cell 2; have r3 : w3.cell? ⟨w.heap.size, 3, none⟩ = some (.int .u64 0) := hr3.cell 3; have r4 : w3.cell? ⟨w.heap.size, 4, none⟩ = some (.int .u64 0) := hr3.cell 4; have r5 : w3.cell? ⟨w.heap.size, 5, none⟩ = some (.slice none 0 0) := hr3.cell 5; have r6 : w3.cell? ⟨w.heap.size, 6, none⟩ = some (.int .i64 0) := hr3.cell 6; have r7 : w3.cell? ⟨w.heap.size, 7, none⟩ = some (.int .i64 0) := hr3.cell 7; have rf : ∀ i, w3.frozen? ⟨w.heap.size, i, none⟩ = false := hr3.frozen)
  have hz3 : w.heap.size < w3.heap.size := hr3.lt
  clear hr3
  go_wp2
  refine bodyPost_ret (v := .agg #[.int .i64 1, .int .u64 ((CSet.between 0 255).a.toNat : Int), .int .u64 ((CSet.between 0 255).b.toNat : Int), .int .u64 ((CSet.between 0 255).c.toNat : Int), .int .u64 ((CSet.between 0 255).d.toNat : Int), .slice none 0 0, .int .i64 0, .int .i64 0]) (by simp [results, Tryd.results55, go_sem, r0, r1, r2, r3, r4, r5, r6, r7, hz3]) rfl ?_
  exact set_final HO3.out HD3.out hl (set8_only w.heap.size w3 _ _ _ _ _ _ _ _)
theorem atom_else (s : ByteArray) (rb op i : Nat) (w : World) (h : AtomIn s rb op i w) (h1 : Rx.wrongAtom (Rx.pk s.data.toList i) = false) (h2 : ¬ Rx.pk s.data.toList i = 40) (h3 : ¬ Rx.pk s.data.toList i = 46) (h4 : ¬ Rx.pk s.data.toList i = 91) (h5 : ¬ Rx.pk s.data.toList i = 92) :
    Calls Tryd.prog 55 #[.pointer (some ⟨rb, 0, none⟩)] w (RetNd s rb op (.ok (.mk 1 (Rx.one (Rx.pk s.data.toList i)) [] 0 0) (i + 1)) w) := by
  have hl : rb < w.heap.size := h.rd.lt
  have HP := hide (h.peek 0)
  have hA : RD s rb i op (w.alloc (.cells #[.int .i64 0, .int .u64 0, .int .u64 0, .int .u64 0, .int .u64 0, .slice none 0 0, .int .i64 0, .int .i64 0] 28)) := Blk.alloc h.rd _
  (have g0 : (w.alloc (.cells #[.int .i64 0, .int .u64 0, .int .u64 0, .int .u64 0, .int .u64 0, .slice none 0 0, .int .i64 0, .int .i64 0] 28)).cell? ⟨rb, 0, none⟩ = some (.string s) := hA.cell 0; have g1 : (w.alloc (.cells #[.int .i64 0, .int .u64 0, .int .u64 0, .int .u64 0, .int .u64 0, .slice none 0 0, .int .i64 0, .int .i64 0] 28)).cell? ⟨rb, 1, none⟩ = some (.int .i64 ((i : Nat) : Int)) := hA.cell 1; have g2 : (w.alloc (.cells #[.int .i64 0, .int .u64 0, .int .u64 0, .int .u64 0, .int .u64 0, .slice none 0 0, .int .i64 0, .int .i64 0] 28)).cell? ⟨rb, 2, none⟩ = some (.int .i64 ((op : Nat) : Int)) := hA.cell 2; have gf : ∀ i, (w.alloc (.cells #[.int .i64 0, .int .u64 0, .int .u64 0, .int .u64 0, .int .u64 0, .slice none 0 0, .int .i64 0, .int .i64 0] 28)).frozen? ⟨rb, i, none⟩ = false := hA.frozen)
  have HI := hid_mk h
  clear hA h
  obtain ⟨n, hn, hpn⟩ := pkn (l := s.data.toList) (i := i) (by intro e; rw [e] at h1; simp [Rx.wrongAtom] at h1)
  rw [hpn] at h1 h2 h3 h4 h5 HP ⊢
  have hone : Rx.one (n : Int) = CSet.between n n := by simp [Rx.one]
  rw [hone]
  have e := h1
  simp [Rx.wrongAtom] at e
  have e1 : ((n : Int) == -1) = false := beq_eq_false_iff_ne.2 (by omega)
  have e2 : ((n : Int) == 41) = false := beq_eq_false_iff_ne.2 (by omega)
  have e3 : ((n : Int) == 93) = false := beq_eq_false_iff_ne.2 (by omega)
  have e4 : ((n : Int) == 123) = false := beq_eq_false_iff_ne.2 (by omega)
  have e5 : ((n : Int) == 125) = false := beq_eq_false_iff_ne.2 (by omega)
  have e6 : ((n : Int) == 124) = false := beq_eq_false_iff_ne.2 (by omega)
  have e7 : ((n : Int) == 42) = false := beq_eq_false_iff_ne.2 (by omega)
  have e8 : ((n : Int) == 43) = false := beq_eq_false_iff_ne.2 (by omega)
  have e9 : ((n : Int) == 63) = false := beq_eq_false_iff_ne.2 (by omega)
  have f1 : ((n : Int) == 40) = false := by simpa using h2
  have f2 : ((n : Int) == 46) = false := by simpa using h3
  have f3 : ((n : Int) == 91) = false := by simpa using h4
  have f4 : ((n : Int) == 92) = false := by simpa using h5
  have hw : IntKind.u8.wrap (n : Int) = (n : Int) := IntWalk.u8_in _ (by omega)
  clear hpn hone h1 h2 h3 h4 h5 e
  have hpos := HI.out.pos
  have hlen := HI.out.len
  go_enter Tryd.func55, Tryd.ntmps55
  go_wp2_with fail
  refine (unhide HP).mono ?_
  rintro x w1 ⟨rfl, m, rfl⟩
  go_wp2_with fail
  refine (of_any n n hn hn _).mono ?_
  rintro x w3 ⟨rfl, hb3⟩
  have hb3' : Below (atomW w rb i m).heap.size (atomW w rb i m) w3 := by first | exact hb3 | (simpa [atomW] using hb3)
  have HO3 := hid_mk ((atomW_only w rb i m).call hb3')
  have HD3 := hid_mk (Blk.call (atomW_rd HI.out.rd m) hb3')
  have HB3 := hid_mk ((atomW_blk w rb i m).call hb3')
  clear hb3 hb3' g0 g1 g2 gf
  have hr3 := HB3.out
  (have r0 : w3.cell? ⟨w.heap.size, 0, none⟩ = some (.int .i64 0) := hr3.cell 0; have r1 : w3.cell? ⟨w.heap.size, 1, none⟩ = some (.int .u64 0) := hr3.cell 1; have r2 : w3.cell? ⟨w.heap.size, 2, none⟩ = some (.int .u64 0) := hr3.cell 2; have r3 : w3.cell? ⟨w.heap.size, 3, none⟩ = some (.int .u64 0) := hr3.cell 3; have r4 : w3.cell? ⟨w.heap.size, 4, none⟩ = some (.int .u64 0) := hr3.cell 4; have r5 : w3.cell? ⟨w.heap.size, 5, none⟩ = some (.slice none 0 0) := hr3.cell 5; have r6 : w3.cell? ⟨w.heap.size, 6, none⟩ = some (.int .i64 0) := hr3.cell 6; have r7 : w3.cell? ⟨w.heap.size, 7, none⟩ = some (.int .i64 0) := hr3.cell 7; have rf : ∀ i, w3.frozen? ⟨w.heap.size, i, none⟩ = false := hr3.frozen)
  have hz3 : w.heap.size < w3.heap.size := hr3.lt
  clear hr3
  go_wp2
  refine bodyPost_ret (v := .agg #[.int .i64 1, .int .u64 ((CSet.between n n).a.toNat : Int), .int .u64 ((CSet.between n n).b.toNat : Int), .int .u64 ((CSet.between n n).c.toNat : Int), .int .u64 ((CSet.between n n).d.toNat : Int), .slice none 0 0, .int .i64 0, .int .i64 0]) (by simp [results, Tryd.results55, go_sem, r0, r1, r2, r3, r4, r5, r6, r7, hz3]) rfl ?_
  exact set_final HO3.out HD3.out hl (set8_only w.heap.size w3 _ _ _ _ _ _ _ _)
theorem atom_class (s : ByteArray) (rb op i : Nat) (w : World) (h : AtomIn s rb op i w) (hc : Rx.pk s.data.toList i = 91) :
    Calls Tryd.prog 55 #[.pointer (some ⟨rb, 0, none⟩)] w (RetNd s rb op (match Rx.cls s.data.toList (i + 1) with | .ok S p => .ok (.mk 1 S [] 0 0) p | .bad e p => .bad e p | .out => .out) w) := by
  have hl : rb < w.heap.size := h.rd.lt
  have HP := hide (h.peek 0)
  have hA : RD s rb i op (w.alloc (.cells #[.int .i64 0, .int .u64 0, .int .u64 0, .int .u64 0, .int .u64 0, .slice none 0 0, .int .i64 0, .int .i64 0] 28)) := Blk.alloc h.rd _
  (have h0 : (w.alloc (.cells #[.int .i64 0, .int .u64 0, .int .u64 0, .int .u64 0, .int .u64 0, .slice none 0 0, .int .i64 0, .int .i64 0] 28)).cell? ⟨rb, 0, none⟩ = some (.string s) := hA.cell 0; have h1 : (w.alloc (.cells #[.int .i64 0, .int .u64 0, .int .u64 0, .int .u64 0, .int .u64 0, .slice none 0 0, .int .i64 0, .int .i64 0] 28)).cell? ⟨rb, 1, none⟩ = some (.int .i64 ((i : Nat) : Int)) := hA.cell 1; have h2 : (w.alloc (.cells #[.int .i64 0, .int .u64 0, .int .u64 0, .int .u64 0, .int .u64 0, .slice none 0 0, .int .i64 0, .int .i64 0] 28)).cell? ⟨rb, 2, none⟩ = some (.int .i64 ((op : Nat) : Int)) := hA.cell 2; have hf : ∀ i, (w.alloc (.cells #[.int .i64 0, .int .u64 0, .int .u64 0, .int .u64 0, .int .u64 0, .slice none 0 0, .int .i64 0, .int .i64 0] 28)).frozen? ⟨rb, i, none⟩ = false := hA.frozen)
  have HI := hid_mk h
  clear hA h
  have hlt : i < s.size := by simpa using pk_in (l := s.data.toList) (i := i) (by rw [hc]; decide)
  have HCL := hide (fun m => class_any s rb (i + 1) op _ (atomW_rd HI.out.rd m) HI.out.len hlt (HI.out.tab.only (atomW_only w rb i m) HI.out.ne) HI.out.ne)
  have hfi := fine_cls s.data.toList (i + 1) (by simp; omega)
  rw [hc] at HP
  clear hc
  have hpos := HI.out.pos
  have hlen := HI.out.len
  cases hr : Rx.cls s.data.toList (i + 1) with
  | out => rw [hr] at hfi; exact hfi.elim
  | bad e q =>
    rw [hr] at HCL
    clear hr hfi
    go_enter Tryd.func55, Tryd.ntmps55
    go_wp2_with fail
    refine (unhide HP).mono ?_
    rintro x w1 ⟨rfl, m, rfl⟩
    go_wp2_with fail
    refine (unhide HCL m).mono ?_
    rintro x w3 ⟨ho3, rfl⟩
    exact ⟨rfl, RetNd.bad ((atomW_only w rb i m).step ho3)⟩
  | ok S q =>
    rw [hr] at HCL
    clear hr hfi
    go_enter Tryd.func55, Tryd.ntmps55
    go_wp2_with fail
    refine (unhide HP).mono ?_
    rintro x w1 ⟨rfl, m, rfl⟩
    go_wp2_with fail
    refine (unhide HCL m).mono ?_
    rintro x w3 ⟨ho3, rfl, hd3⟩
    have HO3 := hid_mk ((atomW_only w rb i m).step ho3)
    have HD3 := hid_mk hd3
    have HB3 := hid_mk (ho3.blk (by omega) (atomW_blk w rb i m))
    clear ho3 hd3 h0 h1 h2 hf
    have hr3 := HB3.out
    (have r0 : w3.cell? ⟨w.heap.size, 0, none⟩ = some (.int .i64 0) := hr3.cell 0; have r1 : w3.cell? ⟨w.heap.size, 1, none⟩ = some (.int .u64 0) := hr3.cell 1; have r2 : w3.cell? ⟨w.heap.size, 2, none⟩ = some (.int .u64 0) := hr3.cell 2; have r3 : w3.cell? ⟨w.heap.size, 3, none⟩ = some (.int .u64 0) := hr3.cell 3; have r4 : w3.cell? ⟨w.heap.size, 4, none⟩ = some (.int .u64 0) := hr3.cell 4; have r5 : w3.cell? ⟨w.heap.size, 5, none⟩ = some (.slice none 0 0) := hr3.cell 5; have r6 : w3.cell? ⟨w.heap.size, 6, none⟩ = some (.int .i64 0) := hr3.cell 6; have r7 : w3.cell? ⟨w.heap.size, 7, none⟩ = some (.int .i64 0) := hr3.cell 7; have rf : ∀ i, w3.frozen? ⟨w.heap.size, i, none⟩ = false := hr3.frozen)
    have hz3 : w.heap.size < w3.heap.size := hr3.lt
    clear hr3
    go_wp2
    refine bodyPost_ret (v := .agg #[.int .i64 1, .int .u64 ((S).a.toNat : Int), .int .u64 ((S).b.toNat : Int), .int .u64 ((S).c.toNat : Int), .int .u64 ((S).d.toNat : Int), .slice none 0 0, .int .i64 0, .int .i64 0]) (by simp [results, Tryd.results55, go_sem, r0, r1, r2, r3, r4, r5, r6, r7, hz3]) rfl ?_
    exact set_final HO3.out HD3.out hl (set8_only w.heap.size w3 _ _ _ _ _ _ _ _)

theorem atom_esc (s : ByteArray) (rb op i : Nat) (w : World) (h : AtomIn s rb op i w) (hc : Rx.pk s.data.toList i = 92) :
    Calls Tryd.prog 55 #[.pointer (some ⟨rb, 0, none⟩)] w (RetNd s rb op (match Rx.esc s.data.toList i with | .ok (S, _) p => .ok (.mk 1 S [] 0 0) p | .bad e p => .bad e p | .out => .out) w) := by
  have hl : rb < w.heap.size := h.rd.lt
  have HP := hide (h.peek 0)
  have hA : RD s rb i op (w.alloc (.cells #[.int .i64 0, .int .u64 0, .int .u64 0, .int .u64 0, .int .u64 0, .slice none 0 0, .int .i64 0, .int .i64 0] 28)) := Blk.alloc h.rd _
  (have h0 : (w.alloc (.cells #[.int .i64 0, .int .u64 0, .int .u64 0, .int .u64 0, .int .u64 0, .slice none 0 0, .int .i64 0, .int .i64 0] 28)).cell? ⟨rb, 0, none⟩ = some (.string s) := hA.cell 0; have h1 : (w.alloc (.cells #[.int .i64 0, .int .u64 0, .int .u64 0, .int .u64 0, .int .u64 0, .slice none 0 0, .int .i64 0, .int .i64 0] 28)).cell? ⟨rb, 1, none⟩ = some (.int .i64 ((i : Nat) : Int)) := hA.cell 1; have h2 : (w.alloc (.cells #[.int .i64 0, .int .u64 0, .int .u64 0, .int .u64 0, .int .u64 0, .slice none 0 0, .int .i64 0, .int .i64 0] 28)).cell? ⟨rb, 2, none⟩ = some (.int .i64 ((op : Nat) : Int)) := hA.cell 2; have hf : ∀ i, (w.alloc (.cells #[.int .i64 0, .int .u64 0, .int .u64 0, .int .u64 0, .int .u64 0, .slice none 0 0, .int .i64 0, .int .i64 0] 28)).frozen? ⟨rb, i, none⟩ = false := hA.frozen)
  have HI := hid_mk h
  clear hA h
  have HES := hide (fun m => escape_any s rb i op ((w.alloc (.cells #[.int .i64 0, .int .u64 0, .int .u64 0, .int .u64 0, .int .u64 0, .slice none 0 0, .int .i64 0, .int .i64 0] 28)).drewN m) (Blk.drewN (Blk.alloc HI.out.rd _) m) HI.out.len HI.out.pos)
  have hfi := fine_esc s.data.toList i
  rw [hc] at HP
  clear hc h0 h1 h2 hf
  cases hr : Rx.esc s.data.toList i with
  | out => rw [hr] at hfi; exact hfi.elim
  | bad e q =>
    rw [hr] at HES
    clear hr hfi
    go_enter Tryd.func55, Tryd.ntmps55
    go_wp2_with fail
    refine (unhide HP).mono ?_
    rintro x w1 ⟨rfl, m, rfl⟩
    go_wp2_with fail
    refine (unhide HES m).mono ?_
    rintro x w3 ⟨ho3, rfl⟩
    exact ⟨rfl, RetNd.bad ((((Only.refl rb w).alloc _).drewN m).step ho3)⟩
  | ok a q =>
    obtain ⟨S, many⟩ := a
    rw [hr] at HES
    clear hr hfi
    go_enter Tryd.func55, Tryd.ntmps55
    go_wp2_with fail
    refine (unhide HP).mono ?_
    rintro x w1 ⟨rfl, m, rfl⟩
    go_wp2_with fail
    refine (unhide HES m).mono ?_
    rintro x w3 ⟨ho3, rfl, hd3⟩
    have HO3 := hid_mk ((((Only.refl rb w).alloc (.cells #[.int .i64 0, .int .u64 0, .int .u64 0, .int .u64 0, .int .u64 0, .slice none 0 0, .int .i64 0, .int .i64 0] 28)).drewN m).step ho3)
    have HD3 := hid_mk hd3
    have hr3 := ho3.blk (by omega) (Blk.drewN (Blk.new w #[.int .i64 0, .int .u64 0, .int .u64 0, .int .u64 0, .int .u64 0, .slice none 0 0, .int .i64 0, .int .i64 0] 28) m)
    (have r0 : w3.cell? ⟨w.heap.size, 0, none⟩ = some (.int .i64 0) := hr3.cell 0; have r1 : w3.cell? ⟨w.heap.size, 1, none⟩ = some (.int .u64 0) := hr3.cell 1; have r2 : w3.cell? ⟨w.heap.size, 2, none⟩ = some (.int .u64 0) := hr3.cell 2; have r3 : w3.cell? ⟨w.heap.size, 3, none⟩ = some (.int .u64 0) := hr3.cell 3; have r4 : w3.cell? ⟨w.heap.size, 4, none⟩ = some (.int .u64 0) := hr3.cell 4; have r5 : w3.cell? ⟨w.heap.size, 5, none⟩ = some (.slice none 0 0) := hr3.cell 5; have r6 : w3.cell? ⟨w.heap.size, 6, none⟩ = some (.int .i64 0) := hr3.cell 6; have r7 : w3.cell? ⟨w.heap.size, 7, none⟩ = some (.int .i64 0) := hr3.cell 7; have rf : ∀ i, w3.frozen? ⟨w.heap.size, i, none⟩ = false := hr3.frozen)
    have hz3 : w.heap.size < w3.heap.size := hr3.lt
    clear ho3 hd3 hr3
    go_wp2
    refine bodyPost_ret (v := .agg #[.int .i64 1, .int .u64 ((S).a.toNat : Int), .int .u64 ((S).b.toNat : Int), .int .u64 ((S).c.toNat : Int), .int .u64 ((S).d.toNat : Int), .slice none 0 0, .int .i64 0, .int .i64 0]) (by simp [results, Tryd.results55, go_sem, r0, r1, r2, r3, r4, r5, r6, r7, hz3]) rfl ?_
    exact set_final HO3.out HD3.out hl ((set8_only w.heap.size w3 _ _ _ _ _ _ _ _).alloc _)
theorem PieceAt.step2 {s : ByteArray} {rb op op' q q' : Nat} {w w0 V V' : World} {n : Node} {A : Option Addr} {cap g : Nat} (h : PieceAt s rb op q w w0 V n A cap g) (ho : Only rb V V') (hd : RD s rb q' op' V') : PieceAt s rb op' q' w w0 V' n A cap g :=
  ⟨h.only.step ho, hd, ho.blk (by have := h.rb; omega) h.res, ho.blk (by have := h.rb; have := h.old; have := h.new; omega) h.box, h.sl, kids_only ho (by have := h.rb; have := h.old; omega) h.kids, h.rb, h.old, h.new⟩
/-- behind the opening bracket -/
def atomO (w : World) (rb i op m : Nat) : World := (((w.setCell ⟨rb, 2, none⟩ (.int .i64 ((op : Int) + 1))).setCell ⟨rb, 1, none⟩ (.int .i64 ((i : Int) + 1))).alloc (.cells #[.int .i64 0, .int .u64 0, .int .u64 0, .int .u64 0, .int .u64 0, .slice none 0 0, .int .i64 0, .int .i64 0] 28)).drewN m
theorem atomO_only (w : World) (rb i op m : Nat) : Only rb w (atomO w rb i op m) := ((((Only.refl rb w).set (Or.inl rfl) _).set (Or.inl rfl) _).alloc _).drewN m
theorem atomO_rd {s : ByteArray} {rb i op : Nat} {w : World} (h : RD s rb i op w) (m : Nat) : RD s rb (i + 1) (op + 1) (atomO w rb i op m) := Blk.drewN (Blk.alloc (Blk.put (Blk.put h 2 (.int .i64 ((op : Int) + 1))) 1 (.int .i64 ((i : Int) + 1))) _) m
theorem atomO_blk (w : World) (rb i op m : Nat) : Blk (atomO w rb i op m) w.heap.size #[.int .i64 0, .int .u64 0, .int .u64 0, .int .u64 0, .int .u64 0, .slice none 0 0, .int .i64 0, .int .i64 0] 28 := Blk.drewN (Blk.newAt (by simp [World.setCell])) m
theorem atomO_size (w : World) (rb i op m : Nat) : (atomO w rb i op m).heap.size = w.heap.size + 1 := by simp [atomO, World.setCell]
theorem atom_full (s : ByteArray) (rb i : Nat) (w : World) (h : AtomIn s rb 16 i w) (hc : Rx.pk s.data.toList i = 40) :
    Calls Tryd.prog 55 #[.pointer (some ⟨rb, 0, none⟩)] w (RetNd s rb 16 (.bad 3 i) w) := by
  have hl : rb < w.heap.size := h.rd.lt
  have HP := hide (h.peek 0)
  have hA : RD s rb i 16 (w.alloc (.cells #[.int .i64 0, .int .u64 0, .int .u64 0, .int .u64 0, .int .u64 0, .slice none 0 0, .int .i64 0, .int .i64 0] 28)) := Blk.alloc h.rd _
  have h0 : (w.alloc (.cells #[.int .i64 0, .int .u64 0, .int .u64 0, .int .u64 0, .int .u64 0, .slice none 0 0, .int .i64 0, .int .i64 0] 28)).cell? ⟨rb, 0, none⟩ = some (.string s) := hA.cell 0
  have h1 : (w.alloc (.cells #[.int .i64 0, .int .u64 0, .int .u64 0, .int .u64 0, .int .u64 0, .slice none 0 0, .int .i64 0, .int .i64 0] 28)).cell? ⟨rb, 1, none⟩ = some (.int .i64 ((i : Nat) : Int)) := hA.cell 1
  have h2 : (w.alloc (.cells #[.int .i64 0, .int .u64 0, .int .u64 0, .int .u64 0, .int .u64 0, .slice none 0 0, .int .i64 0, .int .i64 0] 28)).cell? ⟨rb, 2, none⟩ = some (.int .i64 16) := hA.cell 2
  have hf : ∀ i, (w.alloc (.cells #[.int .i64 0, .int .u64 0, .int .u64 0, .int .u64 0, .int .u64 0, .slice none 0 0, .int .i64 0, .int .i64 0] 28)).frozen? ⟨rb, i, none⟩ = false := hA.frozen
  have k0 : w.cell? ⟨rb, 0, none⟩ = some (.string s) := h.rd.cell 0
  have k1 : w.cell? ⟨rb, 1, none⟩ = some (.int .i64 ((i : Nat) : Int)) := h.rd.cell 1
  have k2 : w.cell? ⟨rb, 2, none⟩ = some (.int .i64 16) := h.rd.cell 2
  have kf : ∀ i, w.frozen? ⟨rb, i, none⟩ = false := h.rd.frozen
  rw [hc] at HP
  clear hA h hc
  go_enter Tryd.func55, Tryd.ntmps55
  go_wp2_with fail
  refine (unhide HP).mono ?_
  rintro x w1 ⟨rfl, m, rfl⟩
  go_wp2_with fail
  refine (fail_any _ _ _).mono ?_
  rintro x w2 ⟨rfl, rfl⟩
  exact ⟨rfl, RetNd.bad ((((Only.refl rb w).set (Or.inl rfl) _).alloc _).drewN _)⟩
def parenOf (l : List UInt8) : Res Node → Res Node
  | .ok n p => if Rx.pk l p = 41 then .ok n (p + 1) else Rx.other l p
  | .bad e p => .bad e p
  | .out => .out
theorem atom_paren (s : ByteArray) (rb op d i : Nat) (w : World) (h : AtomIn s rb op i w) (hop : op + 1 ≤ 16) (HA : AtomOk s rb (op + 1) (Rx.atom s.data.toList d)) (hc : Rx.pk s.data.toList i = 40) (R : Res Node) (hR : parenOf s.data.toList (Rx.alt s.data.toList (Rx.atom s.data.toList d) (i + 1)) = R) :
    Calls Tryd.prog 55 #[.pointer (some ⟨rb, 0, none⟩)] w (RetNd s rb op R w) := by
  have hl : rb < w.heap.size := h.rd.lt
  have HP := hide (h.peek 0)
  have hA : RD s rb i op (w.alloc (.cells #[.int .i64 0, .int .u64 0, .int .u64 0, .int .u64 0, .int .u64 0, .slice none 0 0, .int .i64 0, .int .i64 0] 28)) := Blk.alloc h.rd _
  (have h0 : (w.alloc (.cells #[.int .i64 0, .int .u64 0, .int .u64 0, .int .u64 0, .int .u64 0, .slice none 0 0, .int .i64 0, .int .i64 0] 28)).cell? ⟨rb, 0, none⟩ = some (.string s) := hA.cell 0; have h1 : (w.alloc (.cells #[.int .i64 0, .int .u64 0, .int .u64 0, .int .u64 0, .int .u64 0, .slice none 0 0, .int .i64 0, .int .i64 0] 28)).cell? ⟨rb, 1, none⟩ = some (.int .i64 ((i : Nat) : Int)) := hA.cell 1; have h2 : (w.alloc (.cells #[.int .i64 0, .int .u64 0, .int .u64 0, .int .u64 0, .int .u64 0, .slice none 0 0, .int .i64 0, .int .i64 0] 28)).cell? ⟨rb, 2, none⟩ = some (.int .i64 ((op : Nat) : Int)) := hA.cell 2; have hf : ∀ i, (w.alloc (.cells #[.int .i64 0, .int .u64 0, .int .u64 0, .int .u64 0, .int .u64 0, .slice none 0 0, .int .i64 0, .int .i64 0] 28)).frozen? ⟨rb, i, none⟩ = false := hA.frozen)
  (have k0 : w.cell? ⟨rb, 0, none⟩ = some (.string s) := h.rd.cell 0; have k1 : w.cell? ⟨rb, 1, none⟩ = some (.int .i64 ((i : Nat) : Int)) := h.rd.cell 1; have k2 : w.cell? ⟨rb, 2, none⟩ = some (.int .i64 ((op : Nat) : Int)) := h.rd.cell 2; have kf : ∀ i, w.frozen? ⟨rb, i, none⟩ = false := h.rd.frozen)
  have hlt : i < s.size := by simpa using pk_in (l := s.data.toList) (i := i) (by rw [hc]; decide)
  have HAL := hide (fun m => alt_any s rb (i + 1) (op + 1) (Rx.atom s.data.toList d) HA (fine_atom s.data.toList d) (Rx.size_atom s.data.toList d) _ (atomO_rd h.rd m) h.len hlt (h.tab.only (atomO_only w rb i op m) h.ne) h.ne)
  have hfi := fine_alt s.data.toList (Rx.atom s.data.toList d) (fine_atom s.data.toList d) (i + 1) (by simp; omega)
  have hlen := h.len
  rw [hc] at HP
  have HRR := hid_mk hR
  clear hA h hc HA hR
  cases hr : Rx.alt s.data.toList (Rx.atom s.data.toList d) (i + 1) with
  | out => rw [hr] at hfi; exact hfi.elim
  | bad e q =>
    rw [hr] at HAL HRR
    have HE : Hid (R = .bad e q) := hid_mk HRR.out.symm
    rw [HE.out]
    clear hr hfi
    go_enter Tryd.func55, Tryd.ntmps55
    go_wp2_with fail
    refine (unhide HP).mono ?_
    rintro x w1 ⟨rfl, m, rfl⟩
    go_wp2_with fail
    refine (unhide HAL m).mono ?_
    rintro x w3 ⟨ho3, rfl⟩
    exact ⟨rfl, RetNd.bad ((atomO_only w rb i op m).step ho3)⟩
  | ok n p =>
    rw [hr] at HAL hfi HRR
    have hp : p ≤ s.size := by have := hfi.2; simpa using this
    have hic : i + 1 ≤ p := hfi.1
    clear hr hfi
    go_enter Tryd.func55, Tryd.ntmps55
    go_wp2_with fail
    refine (unhide HP).mono ?_
    rintro x w1 ⟨rfl, m, rfl⟩
    go_wp2_with fail
    refine (unhide HAL m).mono ?_
    rintro x w3 ⟨ho3, hd3, A, cap, rfl, hsl, hkk⟩
    have HV : Hid (PieceAt s rb (op + 1) p w (atomO w rb i op m) (w3.alloc (.cells #[.int .i64 (n.kind), .int .u64 ((n.set).a.toNat : Int), .int .u64 ((n.set).b.toNat : Int), .int .u64 ((n.set).c.toNat : Int), .int .u64 ((n.set).d.toNat : Int), .slice (A) (n.kids.length) (cap), .int .i64 (n.min), .int .i64 (n.max)] 28)) n A cap w3.heap.size) := hid_mk
      ⟨((atomO_only w rb i op m).step ho3).alloc _, Blk.alloc hd3 _, Blk.alloc (ho3.blk (by omega) (atomO_blk w rb i op m)) _, Blk.new w3 _ _, hsl, kids_only ((Only.refl rb w3).alloc _) (by rw [atomO_size]; omega) hkk, hl, by rw [atomO_size]; omega, ho3.size⟩
    have hz3 : w.heap.size < w3.heap.size := by have := ho3.size; rw [atomO_size] at this; omega
    have hl3 : rb < w3.heap.size := by omega
    have HND := hide (fun a h => need_any s rb p (op + 1) 41 a h hlen (by omega) (by decide))
    clear ho3 hd3 hsl hkk h0 h1 h2 hf k0 k1 k2 kf
    go_wp2_with fail
    refine (unhide HND _ HV.out.rd).mono ?_
    rintro x w4 ⟨ho4, h4⟩
    by_cases hc5 : Rx.pk s.data.toList p = 41
    · rw [if_pos (show Rx.pk s.data.toList p = ((41 : Nat) : Int) from hc5)] at h4
      obtain ⟨rfl, hd4⟩ := h4
      have HE : Hid (R = .ok n (p + 1)) := hid_mk (by rw [← HRR.out]; exact if_pos hc5)
      have HV4 := hid_mk (HV.out.step2 ho4 hd4)
      (have y0 : w4.cell? ⟨w3.heap.size, 0, none⟩ = some (.int .i64 (n.kind)) := HV4.out.box.cell 0; have y1 : w4.cell? ⟨w3.heap.size, 1, none⟩ = some (.int .u64 ((n.set).a.toNat : Int)) := HV4.out.box.cell 1; have y2 : w4.cell? ⟨w3.heap.size, 2, none⟩ = some (.int .u64 ((n.set).b.toNat : Int)) := HV4.out.box.cell 2; have y3 : w4.cell? ⟨w3.heap.size, 3, none⟩ = some (.int .u64 ((n.set).c.toNat : Int)) := HV4.out.box.cell 3; have y4 : w4.cell? ⟨w3.heap.size, 4, none⟩ = some (.int .u64 ((n.set).d.toNat : Int)) := HV4.out.box.cell 4; have y5 : w4.cell? ⟨w3.heap.size, 5, none⟩ = some (.slice (A) (n.kids.length) (cap)) := HV4.out.box.cell 5; have y6 : w4.cell? ⟨w3.heap.size, 6, none⟩ = some (.int .i64 (n.min)) := HV4.out.box.cell 6; have y7 : w4.cell? ⟨w3.heap.size, 7, none⟩ = some (.int .i64 (n.max)) := HV4.out.box.cell 7; have yf : ∀ i, w4.frozen? ⟨w3.heap.size, i, none⟩ = false := HV4.out.box.frozen)
      (have r0 : w4.cell? ⟨w.heap.size, 0, none⟩ = some (.int .i64 0) := HV4.out.res.cell 0; have r1 : w4.cell? ⟨w.heap.size, 1, none⟩ = some (.int .u64 0) := HV4.out.res.cell 1; have r2 : w4.cell? ⟨w.heap.size, 2, none⟩ = some (.int .u64 0) := HV4.out.res.cell 2; have r3 : w4.cell? ⟨w.heap.size, 3, none⟩ = some (.int .u64 0) := HV4.out.res.cell 3; have r4 : w4.cell? ⟨w.heap.size, 4, none⟩ = some (.int .u64 0) := HV4.out.res.cell 4; have r5 : w4.cell? ⟨w.heap.size, 5, none⟩ = some (.slice none 0 0) := HV4.out.res.cell 5; have r6 : w4.cell? ⟨w.heap.size, 6, none⟩ = some (.int .i64 0) := HV4.out.res.cell 6; have r7 : w4.cell? ⟨w.heap.size, 7, none⟩ = some (.int .i64 0) := HV4.out.res.cell 7; have rf : ∀ i, w4.frozen? ⟨w.heap.size, i, none⟩ = false := HV4.out.res.frozen)
      (have g0 : w4.cell? ⟨rb, 0, none⟩ = some (.string s) := hd4.cell 0; have g1 : w4.cell? ⟨rb, 1, none⟩ = some (.int .i64 (((p + 1) : Nat) : Int)) := hd4.cell 1; have g2 : w4.cell? ⟨rb, 2, none⟩ = some (.int .i64 (((op + 1) : Nat) : Int)) := hd4.cell 2; have gf : ∀ i, w4.frozen? ⟨rb, i, none⟩ = false := hd4.frozen)
      have hz4 : w3.heap.size < w4.heap.size := HV4.out.box.lt
      have hz5 : w.heap.size < w4.heap.size := HV4.out.res.lt
      clear hc5 ho4 hd4 HV HND HP HAL
      go_wp2
      refine bodyPost_ret (v := .agg #[.int .i64 (n.kind), .int .u64 ((n.set).a.toNat : Int), .int .u64 ((n.set).b.toNat : Int), .int .u64 ((n.set).c.toNat : Int), .int .u64 ((n.set).d.toNat : Int), .slice (A) (n.kids.length) (cap), .int .i64 (n.min), .int .i64 (n.max)]) (by simp [results, Tryd.results55, go_sem, r0, r1, r2, r3, r4, r5, r6, r7, hz3, hz4, hz5]) rfl ?_
      rw [HE.out]
      have hd5 : RD s rb (p + 1) op (w4.setCell ⟨rb, 2, none⟩ (.int .i64 (op : Int))) := Blk.put HV4.out.rd 2 (.int .i64 (op : Int))
      exact own_final (HV4.out.step2 ((Only.refl rb w4).set (Or.inl rfl) _) hd5) (set8_only w.heap.size _ _ _ _ _ _ _ _ _)
    · rw [if_neg (show ¬ Rx.pk s.data.toList p = ((41 : Nat) : Int) from hc5)] at h4
      rw [other_eq] at h4
      obtain rfl := h4
      refine ⟨rfl, ?_⟩
      have HE : Hid (R = Rx.other s.data.toList p) := hid_mk (by rw [← HRR.out]; exact if_neg hc5)
      rw [HE.out, other_eq]
      exact RetNd.bad (HV.out.only.step ho4)
/-- every atom -/
theorem atom_any (s : ByteArray) (rb : Nat) (hs : s.size ≤ 1000) (hr : 0 ≠ rb) : ∀ (d op : Nat), op + d = 16 → AtomOk s rb op (Rx.atom s.data.toList d) := by
  intro d
  induction d with
  | zero =>
    intro op hop w i h hT hi
    obtain rfl : op = 16 := by omega
    have H : AtomIn s rb 16 i w := ⟨h, hT, hs, hi, hr⟩
    by_cases h1 : Rx.wrongAtom (Rx.pk s.data.toList i) = true
    · have e : Rx.atom s.data.toList 0 i = Rx.other s.data.toList i := by rw [Rx.atom, if_pos h1]
      rw [e]; exact atom_wrong s rb 16 i w H h1
    · by_cases h2 : Rx.pk s.data.toList i = 40
      · have e : Rx.atom s.data.toList 0 i = .bad 3 i := by rw [Rx.atom, if_neg h1, if_pos h2]
        rw [e]; exact atom_full s rb i w H h2
      · by_cases h3 : Rx.pk s.data.toList i = 46
        · have e : Rx.atom s.data.toList 0 i = .ok (.mk 1 (CSet.between 0 255) [] 0 0) (i + 1) := by rw [Rx.atom, if_neg h1, if_neg h2, if_pos h3]
          rw [e]; exact atom_dot s rb 16 i w H h3
        · by_cases h4 : Rx.pk s.data.toList i = 91
          · rw [Rx.atom, if_neg h1, if_neg h2, if_neg h3, if_pos h4]
            exact atom_class s rb 16 i w H h4
          · by_cases h5 : Rx.pk s.data.toList i = 92
            · rw [Rx.atom, if_neg h1, if_neg h2, if_neg h3, if_neg h4, if_pos h5]
              exact atom_esc s rb 16 i w H h5
            · rw [Rx.atom, if_neg h1, if_neg h2, if_neg h3, if_neg h4, if_neg h5]
              exact atom_else s rb 16 i w H (by simpa using h1) h2 h3 h4 h5
  | succ d ih =>
    intro op hop w i h hT hi
    have H : AtomIn s rb op i w := ⟨h, hT, hs, hi, hr⟩
    by_cases h1 : Rx.wrongAtom (Rx.pk s.data.toList i) = true
    · have e : Rx.atom s.data.toList (d + 1) i = Rx.other s.data.toList i := by rw [Rx.atom, if_pos h1]
      rw [e]; exact atom_wrong s rb op i w H h1
    · by_cases h2 : Rx.pk s.data.toList i = 40
      · rw [Rx.atom, if_neg h1, if_pos h2]
        refine atom_paren s rb op d i w H (by omega) (ih (op + 1) (by omega)) h2 _ ?_
        cases Rx.alt s.data.toList (Rx.atom s.data.toList d) (i + 1) <;> rfl
      · by_cases h3 : Rx.pk s.data.toList i = 46
        · have e : Rx.atom s.data.toList (d + 1) i = .ok (.mk 1 (CSet.between 0 255) [] 0 0) (i + 1) := by rw [Rx.atom, if_neg h1, if_neg h2, if_pos h3]
          rw [e]; exact atom_dot s rb op i w H h3
        · by_cases h4 : Rx.pk s.data.toList i = 91
          · rw [Rx.atom, if_neg h1, if_neg h2, if_neg h3, if_pos h4]
            exact atom_class s rb op i w H h4
          · by_cases h5 : Rx.pk s.data.toList i = 92
            · rw [Rx.atom, if_neg h1, if_neg h2, if_neg h3, if_neg h4, if_pos h5]
              exact atom_esc s rb op i w H h5
            · rw [Rx.atom, if_neg h1, if_neg h2, if_neg h3, if_neg h4, if_neg h5]
              exact atom_else s rb op i w H (by simpa using h1) h2 h3 h4 h5
end Go.Proofs.YthgcefppeaopkaaDoor
