/- Walks over the pattern reader: cats. -/
import Derived.Test.YthgcefppeaopkaaDoorReadWB
namespace Go.Proofs.YthgcefppeaopkaaDoor
open Go Go.RowKit Go.Sort
set_option maxRecDepth 100000
set_option linter.unusedSimpArgs false
set_option linter.unusedVariables false
set_option maxHeartbeats 1000000
/-- where the kids of collected nodes lie: made since w, not the row itself -/
def Off (w wr : World) (v : Value) (b : Nat) : Prop := w.heap.size < b ∧ b < wr.heap.size ∧ v.ownBlock ≠ some b
theorem Only.grownB {rb : Nat} {w w' : World} (h : Only rb w w') : w.grownBy w' (some rb) := ⟨h.os, h.tape, h.output, h.size, fun k hk hne => h.block k hk (fun e => hne (by rw [e]))⟩
theorem own_only {rb base n : Nat} {e : TypeId} {w w' : World} {v : Value} {xs : List Value} (h : w.ownsRow base e 8 v n xs) (ho : Only rb w w') (hr : rb < base) : w'.ownsRow base e 8 v n xs := by
  refine h.kept ho.grownB ?_
  rcases hv : v.ownBlock with _ | g
  · exact Or.inl rfl
  · refine Or.inr fun e => ?_
    have := (h.lt g hv).1
    injection e with e
    omega
/-- the parts collected so far -/
structure Parts (w wr : World) (v : Value) (ns : List Node) (ds : List Value) : Prop where
  nodes : NodesAt (Off w wr v) wr ns ds
  own : wr.ownsRow (w.heap.size + 1) 28 8 v ns.length ds
theorem Parts.nil (w wr : World) : Parts w wr (.slice none 0 0) [] [] := ⟨nodesAt_nil, World.ownsRow_nil _ _ _ _⟩
theorem Parts.only {rb : Nat} {w wr w' : World} {v : Value} {ns : List Node} {ds : List Value} (h : Parts w wr v ns ds) (ho : Only rb wr w') (hr : rb ≤ w.heap.size) : Parts w w' v ns ds :=
  ⟨nodesAt_keep (fun b hb => ho.block b hb.2.1 (by have := hb.1; omega)) (fun b hb => ⟨hb.1, Nat.lt_of_lt_of_le hb.2.1 ho.size, hb.2.2⟩) h.nodes, own_only h.own ho (by omega)⟩
/-- one part more, read since -/
theorem Parts.push {w wr w1 w2 : World} {v v' : Value} {ns : List Node} {ds : List Value} {n : Node} {A : Option Addr} {cap : Nat} (h : Parts w w1 v ns ds) (hlt : ∀ g, v.ownBlock = some g → g < wr.heap.size) (hw : w.heap.size < wr.heap.size) (hs : SlOk A n.kids.length cap) (hk : KidsAt (New wr w1) w1 A n.kids)
    (hsz : wr.heap.size ≤ w1.heap.size) (hg : w1.grownBy w2 v.ownBlock) (hat : v'.ownBlock = v.ownBlock ∨ v'.ownBlock = some w1.heap.size) (hown : w2.ownsRow (w.heap.size + 1) 28 8 v' (ns.length + 1) (ds ++ [.int .i64 (n.kind), .int .u64 ((n.set).a.toNat : Int), .int .u64 ((n.set).b.toNat : Int), .int .u64 ((n.set).c.toNat : Int), .int .u64 ((n.set).d.toNat : Int), .slice (A) (n.kids.length) (cap), .int .i64 (n.min), .int .i64 (n.max)])) :
    Parts w w2 v' (ns ++ [n]) (ds ++ [.int .i64 (n.kind), .int .u64 ((n.set).a.toNat : Int), .int .u64 ((n.set).b.toNat : Int), .int .u64 ((n.set).c.toNat : Int), .int .u64 ((n.set).d.toNat : Int), .slice (A) (n.kids.length) (cap), .int .i64 (n.min), .int .i64 (n.max)]) := by
  have k1 : Keeps (Off w w1 v) w1 w2 := fun b hb => hg.block b hb.2.1 (fun e => hb.2.2 e.symm)
  have k2 : Keeps (New wr w1) w1 w2 := fun b hb => hg.block b hb.2 (fun e => by have := hlt b e.symm; have := hb.1; omega)
  refine ⟨nodesAt_append (nodesAt_keep k1 (fun b hb => ?_) h.nodes) (nodesAt_one (nodeAt_of hs (kidsAt_keep k2 (fun b hb => ?_) hk))), by rw [List.length_append, List.length_singleton]; exact hown⟩
  · refine ⟨hb.1, Nat.lt_of_lt_of_le hb.2.1 hg.size, ?_⟩
    rcases hat with e | e <;> rw [e]
    · exact hb.2.2
    · intro e; injection e with e; have := hb.2.1; omega
  · refine ⟨by have := hb.1; omega, Nat.lt_of_lt_of_le hb.2 hg.size, ?_⟩
    rcases hat with e | e <;> rw [e]
    · intro e; have := hlt b e; have := hb.1; omega
    · intro e; injection e with e; have := hb.2; omega
/-- the parts as a slice that is handed on -/
theorem Parts.slice {w wr : World} {v : Value} {ns : List Node} {ds : List Value} (h : Parts w wr v ns ds) :
    ∃ (A : Option Addr) (cap : Nat), v = .slice A ns.length cap ∧ SlOk A ns.length cap ∧ KidsAt (fun b => w.heap.size < b ∧ b < wr.heap.size) wr A ns := by
  have hn : NodesAt (fun b => w.heap.size < b ∧ b < wr.heap.size) wr ns ds := nodesAt_keep (fun b hb => rfl) (fun b hb => ⟨hb.1, hb.2.1⟩) h.nodes
  rcases h.own.2 with ⟨hv, h0⟩ | ⟨g, cap, cur, hv, hbg, hgl, hnc, hcm, hcs, hct⟩
  · refine ⟨none, 0, by rw [hv, h0], ⟨by omega, fun _ => rfl⟩, fun hp => absurd hp (by omega)⟩
  · have hlt := (h.own.lt g (by rw [hv]; rfl)).2
    refine ⟨_, cap, hv, ⟨hnc, fun e => by cases e⟩, fun _ => ⟨g, 0, rfl, ⟨by omega, hlt⟩, ds, hn, fun j u hj => ?_⟩⟩
    have := h.own.cells (g := g) (by rw [hv]; rfl) j u hj
    rwa [add_off] at this
/-- at a round's head -/
def CatAt (s : ByteArray) (rb op i : Nat) (atm : Nat → Res Node) (w : World) (R : Res (List Node)) (v : Value) (wr : World) : Prop :=
  ∃ (ns : List Node) (ds : List Value) (k f : Nat), Parts w wr v ns ds ∧ RD s rb k op wr ∧ Only rb w wr ∧ TabW wr ∧ Blk wr w.heap.size #[.int .i64 0, .int .u64 0, .int .u64 0, .int .u64 0, .int .u64 0, .slice none 0 0, .int .i64 0, .int .i64 0] 28 ∧ i ≤ k ∧ k ≤ s.size ∧ s.size < k + f ∧ Node.sizes ns ≤ 2 * (k - i) ∧ R = Rx.pieces s.data.toList atm f ns k
theorem pieces_stop {l : List UInt8} {atm : Nat → Res Node} {f : Nat} {ns : List Node} {k : Nat} (h : Rx.pk l k = -1 ∨ Rx.pk l k = 124 ∨ Rx.pk l k = 41) : Rx.pieces l atm (f + 1) ns k = .ok ns k := by rw [Rx.pieces, if_pos h]
theorem pieces_bad {l : List UInt8} {atm : Nat → Res Node} {f : Nat} {ns : List Node} {k : Nat} {e : Int} {q : Nat} (h : ¬ (Rx.pk l k = -1 ∨ Rx.pk l k = 124 ∨ Rx.pk l k = 41)) (hr : Rx.piece l atm k = .bad e q) : Rx.pieces l atm (f + 1) ns k = .bad e q := by rw [Rx.pieces, if_neg h, hr]
theorem pieces_next {l : List UInt8} {atm : Nat → Res Node} {f : Nat} {ns : List Node} {k : Nat} {n : Node} {q : Nat} (h : ¬ (Rx.pk l k = -1 ∨ Rx.pk l k = 124 ∨ Rx.pk l k = 41)) (hr : Rx.piece l atm k = .ok n q) : Rx.pieces l atm (f + 1) ns k = Rx.pieces l atm f (ns ++ [n]) q := by rw [Rx.pieces, if_neg h, hr]
theorem cat_of {l : List UInt8} {atm : Nat → Res Node} {i : Nat} {R : Res (List Node)} (h : R = Rx.pieces l atm (l.length + 1) [] i) : (∀ ns p, R = .ok ns p → Rx.cat l atm i = .ok (Rx.join 2 ns) p) ∧ (∀ e p, R = .bad e p → Rx.cat l atm i = .bad e p) := by
  refine ⟨fun ns p e => ?_, fun e p e' => ?_⟩ <;> unfold Rx.cat <;> rw [← h]
  · rw [e]
  · rw [e']
/-- a tree joined of parts is handed back -/
theorem join_final {s : ByteArray} {rb op q : Nat} {w W w1 V : World} {n : Node} {A : Option Addr} {cap : Nat} (ho : Only rb w W) (hd : RD s rb q op W) (hrb : rb < w.heap.size) (hb : Below W.heap.size W w1) (hs : SlOk A n.kids.length cap)
    (hw : w.heap.size < W.heap.size) (hk : KidsAt (fun b => (w.heap.size < b ∧ b < W.heap.size) ∨ (W.heap.size ≤ b ∧ b < w1.heap.size)) w1 A n.kids) (hv : Only w.heap.size w1 V) :
    RetNd s rb op (.ok n q) w (.returned (.agg #[.int .i64 (n.kind), .int .u64 ((n.set).a.toNat : Int), .int .u64 ((n.set).b.toNat : Int), .int .u64 ((n.set).c.toNat : Int), .int .u64 ((n.set).d.toNat : Int), .slice (A) (n.kids.length) (cap), .int .i64 (n.min), .int .i64 (n.max)])) V := by
  have h1 := ho.call hb
  have hz := ho.size
  have hz1 := hb.size
  refine RetNd.ok ⟨hv.os.trans h1.os, hv.tape.trans h1.tape, hv.output.trans h1.output, Nat.le_trans h1.size hv.size, fun k hk' hne => (hv.block k (Nat.lt_of_lt_of_le hk' h1.size) (by omega)).trans (h1.block k hk' hne)⟩ (hv.blk (by omega) (Blk.call hd hb)) hs ?_
  refine kidsAt_keep (fun b hb' => hv.block b ?_ ?_) (fun b hb' => ⟨?_, Nat.lt_of_lt_of_le ?_ hv.size⟩) hk <;> rcases hb' with h2 | h2 <;> omega
theorem blk_grown {w w' : World} {g : Nat} {cs : Array Value} {t : TypeId} {row : Option Nat} (h : Blk w g cs t) (hg : w.grownBy w' row) (hne : row ≠ some g) : Blk w' g cs t := (hg.block g h.lt (fun e => hne e.symm)).trans h
theorem CatAt.mk' {s : ByteArray} {rb op i k f : Nat} {atm : Nat → Res Node} {w : World} {R : Res (List Node)} {v : Value} {wr : World} {ns : List Node} {ds : List Value} (h1 : Parts w wr v ns ds) (h2 : RD s rb k op wr) (h3 : Only rb w wr) (h4 : TabW wr) (h5 : Blk wr w.heap.size #[.int .i64 0, .int .u64 0, .int .u64 0, .int .u64 0, .int .u64 0, .slice none 0 0, .int .i64 0, .int .i64 0] 28) (h6 : i ≤ k) (h7 : k ≤ s.size) (h8 : s.size < k + f) (h9 : Node.sizes ns ≤ 2 * (k - i)) (h10 : R = Rx.pieces s.data.toList atm f ns k) : CatAt s rb op i atm w R v wr :=
  ⟨ns, ds, k, f, h1, h2, h3, h4, h5, h6, h7, h8, h9, h10⟩
theorem cat_any (s : ByteArray) (rb i op : Nat) (atm : Nat → Res Node) (HA : AtomOk s rb op atm) (hf : ∀ i, i ≤ s.data.toList.length → Fine s.data.toList i (atm i)) (hz : Rx.Lean2 s.data.toList atm) (w : World) (h : RD s rb i op w) (hs : s.size ≤ 1000) (hi : i ≤ s.size) (hT : TabW w) (hr : 0 ≠ rb) :
    Calls Tryd.prog 37 #[.pointer (some ⟨rb, 0, none⟩)] w (RetNd s rb op (Rx.cat s.data.toList atm i) w) := by
  have hl : rb < w.heap.size := h.lt
  have HPI := hide (fun k (hk : k ≤ s.size) a h hT => piece_any s rb k op atm HA hf a h hs hk hT hr)
  have HPK := hide (fun k (hk : k ≤ s.size) a h => peek_any s rb k op a h hs (by omega))
  have HSZ := hid_mk (Rx.size_piece hz hf)
  have HFI := hid_mk (fun k (hk : k ≤ s.size) => fine_piece s.data.toList atm k (hf k (by simpa using hk)))
  obtain ⟨i0, hi0, hz0, hz1, hz2⟩ := info_parts node_info
  obtain ⟨R, hR⟩ : ∃ R, R = Rx.pieces s.data.toList atm (s.data.toList.length + 1) [] i := ⟨_, rfl⟩
  have HC := hid_mk (cat_of hR)
  rw [len_data] at hR
  have HR := hid_mk hR
  have HS0 : Hid (RD s rb i op (w.alloc (.cells #[.int .i64 0, .int .u64 0, .int .u64 0, .int .u64 0, .int .u64 0, .slice none 0 0, .int .i64 0, .int .i64 0] 28)) ∧ TabW (w.alloc (.cells #[.int .i64 0, .int .u64 0, .int .u64 0, .int .u64 0, .int .u64 0, .slice none 0 0, .int .i64 0, .int .i64 0] 28))) := hid_mk ⟨Blk.alloc h _, hT.only (rb := rb) ((Only.refl rb w).alloc _) hr⟩
  have HTW := hid_mk hT
  clear h hT HA hf hz hR
  go_enter Tryd.func37, Tryd.ntmps37
  go_wp2
  go_loopw [3] (fun v wr => CatAt s rb op i atm w R v wr) (fun _ wr => s.size - posOf rb wr)
  case atStart => exact ⟨[], [], i, s.size + 1, Parts.nil _ _, HS0.out.1, (Only.refl rb w).alloc _, HS0.out.2, Blk.new w _ _, Nat.le_refl _, hi, by omega, by rw [Node.sizes_nil]; omega, HR.out⟩
  case round =>
    obtain ⟨ns, ds, k, f, hpt, hd, ho, ht, hb, hik, hk, hf, hsz, he⟩ := hrel
    have HP := hide (unhide HPK k hk wr hd)
    have HPO := hid_mk (posOf_eq hd)
    have HPT := hid_mk hpt
    have HD := hid_mk hd
    have HO := hid_mk ho
    have HT := hid_mk ht
    have HB := hid_mk hb
    have hf1 : ∃ f', f = f' + 1 := ⟨f - 1, by omega⟩
    obtain ⟨f', rfl⟩ := hf1
    have hzw : w.heap.size < wr.heap.size := hb.lt
    have hbk := pk_bd s.data.toList k
    by_cases hstop : Rx.pk s.data.toList k = -1 ∨ Rx.pk s.data.toList k = 124 ∨ Rx.pk s.data.toList k = 41
    · have HE := hid_mk (HC.out.1 _ _ (he.trans (pieces_stop hstop)))
      clear hpt hd ho ht hb he HR HS0
      have hj := HPT.out.slice
      obtain ⟨A, cap, hv, hsl, hkk⟩ := hj
      have HJ := hide (fun m => join_any 2 A cap ns (fun b => w.heap.size < b ∧ b < wr.heap.size) (wr.drewN m) (fun b hb => hb.2) hsl (kidsAt_keep (w := wr) (w' := wr.drewN m) (fun b hb => rfl) (fun b hb => hb) hkk) (by omega))
      subst hv
      have HNJ : ∃ nj, nj = Rx.join 2 ns := ⟨_, rfl⟩
      obtain ⟨nj, hnj⟩ := HNJ
      rw [← hnj] at HE HJ
      clear hnj hsl hkk
      generalize Rx.pk s.data.toList k = c at *
      have HST : (c = -1) ∨ (c = 124) ∨ (c = 41) := hstop
      clear hstop
      rcases HST with rfl | rfl | rfl
      all_goals
        go_wp2_with fail
        refine (unhide HP).mono ?_
        rintro x w2 ⟨rfl, m, rfl⟩
        go_wp2_with fail
        refine (unhide HJ m).mono ?_
        rintro x w3 ⟨A', cap', rfl, hsl', hb3, hk3⟩
        have hr3 := Blk.call (HB.out.drewN m) hb3
        (have r0 : w3.cell? ⟨w.heap.size, 0, none⟩ = some (.int .i64 0) := hr3.cell 0; have r1 : w3.cell? ⟨w.heap.size, 1, none⟩ = some (.int .u64 0) := hr3.cell 1; have r2 : w3.cell? ⟨w.heap.size, 2, none⟩ = some (.int .u64 0) := hr3.cell 2; have r3 : w3.cell? ⟨w.heap.size, 3, none⟩ = some (.int .u64 0) := hr3.cell 3; have r4 : w3.cell? ⟨w.heap.size, 4, none⟩ = some (.int .u64 0) := hr3.cell 4; have r5 : w3.cell? ⟨w.heap.size, 5, none⟩ = some (.slice none 0 0) := hr3.cell 5; have r6 : w3.cell? ⟨w.heap.size, 6, none⟩ = some (.int .i64 0) := hr3.cell 6; have r7 : w3.cell? ⟨w.heap.size, 7, none⟩ = some (.int .i64 0) := hr3.cell 7; have rf : ∀ i, w3.frozen? ⟨w.heap.size, i, none⟩ = false := hr3.frozen)
        have hz3 : w.heap.size < w3.heap.size := hr3.lt
        have HR3 := hid_mk (And.intro hsl' (And.intro hb3 hk3))
        clear hr3 hsl' hb3 hk3
        go_wp2
        refine bodyPost_ret (v := .agg #[.int .i64 (nj.kind), .int .u64 ((nj.set).a.toNat : Int), .int .u64 ((nj.set).b.toNat : Int), .int .u64 ((nj.set).c.toNat : Int), .int .u64 ((nj.set).d.toNat : Int), .slice (A') (nj.kids.length) (cap'), .int .i64 (nj.min), .int .i64 (nj.max)]) (by simp [results, Tryd.results37, go_sem, r0, r1, r2, r3, r4, r5, r6, r7, hz3]) rfl ?_
        rw [HE.out]
        exact join_final (HO.out.drewN m) (HD.out.drewN m) hl HR3.out.2.1 HR3.out.1 hzw HR3.out.2.2 (set8_only w.heap.size _ _ _ _ _ _ _ _ _)
    · have hpc := HFI.out k hk
      cases hit : Rx.piece s.data.toList atm k with
      | out => rw [hit] at hpc; exact hpc.elim
      | bad e q =>
        have HE := hid_mk (HC.out.2 _ _ (he.trans (pieces_bad hstop hit)))
        have HPX := hide (fun m => unhide HPI k hk (wr.drewN m) hd ht)
        rw [hit] at HPX
        clear hpt hd ho ht hb he HR HS0 hit hpc HC
        generalize Rx.pk s.data.toList k = c at *
        have e1 : (c == -1) = false := by simp; omega
        have e2 : (c == 124) = false := by simp; omega
        have e3 : (c == 41) = false := by simp; omega
        clear hstop
        go_wp2_with fail
        refine (unhide HP).mono ?_
        rintro x w2 ⟨rfl, m, rfl⟩
        go_wp2_with fail
        refine (unhide HPX m).mono ?_
        rintro x w3 ⟨ho3, rfl⟩
        refine ⟨rfl, ?_⟩
        rw [HE.out]
        exact RetNd.bad ((HO.out.drewN m).step ho3)
      | ok n q =>
        have HNX := hid_mk (he.trans (pieces_next hstop hit))
        have HPX := hide (fun m => unhide HPI k hk (wr.drewN m) hd ht)
        have hsp := HSZ.out k n q (by simpa using hk) hit
        rw [hit] at HPX hpc
        have hkq : k < q ∧ q ≤ s.size := by have := hpc.1; have := hpc.2; simp at *; omega
        clear hpt hd ho ht hb he HR HS0 hit hpc HC
        generalize Rx.pk s.data.toList k = c at *
        have e1 : (c == -1) = false := by simp; omega
        have e2 : (c == 124) = false := by simp; omega
        have e3 : (c == 41) = false := by simp; omega
        clear hstop
        go_wp2_with fail
        refine (unhide HP).mono ?_
        rintro x w2 ⟨rfl, m, rfl⟩
        go_wp2_with fail
        refine (unhide HPX m).mono ?_
        rintro x w3 ⟨ho3, hd3, A, cap, rfl, hsl, hkk⟩
        have hp3 := HPT.out.only ((Only.drewN (Only.refl rb wr) m).step ho3) (Nat.le_of_lt hl)
        have hlen := Node.length_le_sizes ns
        have hk8 := n.size_pos
        have hz3 : wr.heap.size ≤ w3.heap.size := ho3.size
        have hown := (hp3.only ((Only.refl rb w3).alloc (.cells #[.int .i64 (n.kind), .int .u64 ((n.set).a.toNat : Int), .int .u64 ((n.set).b.toNat : Int), .int .u64 ((n.set).c.toNat : Int), .int .u64 ((n.set).d.toNat : Int), .slice (A) (n.kids.length) (cap), .int .i64 (n.min), .int .i64 (n.max)] 28)) (Nat.le_of_lt hl)).own
        have HP3 := hid_mk hp3
        have HLT := hid_mk (fun g hg => (HPT.out.own.lt g hg).2)
        have HD3 := hid_mk hd3
        have HO3 := hid_mk (((HO.out.drewN m).step ho3).alloc (.cells #[.int .i64 (n.kind), .int .u64 ((n.set).a.toNat : Int), .int .u64 ((n.set).b.toNat : Int), .int .u64 ((n.set).c.toNat : Int), .int .u64 ((n.set).d.toNat : Int), .slice (A) (n.kids.length) (cap), .int .i64 (n.min), .int .i64 (n.max)] 28))
        have HK3 := hid_mk hkk
        have HB3 := hid_mk (ho3.blk (by omega) (HB.out.drewN m))
        have HT3 := hid_mk (HT.out.only ((Only.drewN (Only.refl rb wr) m).step ho3) hr)
        have HNB := hid_mk (World.news_of_block (Blk.new w3 #[.int .i64 (n.kind), .int .u64 ((n.set).a.toNat : Int), .int .u64 ((n.set).b.toNat : Int), .int .u64 ((n.set).c.toNat : Int), .int .u64 ((n.set).d.toNat : Int), .slice (A) (n.kids.length) (cap), .int .i64 (n.min), .int .i64 (n.max)] 28))
        clear hp3 ho3 hd3 hkk
        go_wp2_with (at_builtin; refine wpList_append_own_at _ rfl _ _ 26 rfl (w.heap.size + 1) 28 i0 _ 8 80 Tryd.underlying26 hi0 hz0 hz1 hz2 rfl (by decide) _ _ ds rfl hown ⟨w3.heap.size, 0, none⟩ 1 1 [.int .i64 (n.kind), .int .u64 ((n.set).a.toNat : Int), .int .u64 ((n.set).b.toNat : Int), .int .u64 ((n.set).c.toNat : Int), .int .u64 ((n.set).d.toNat : Int), .slice (A) (n.kids.length) (cap), .int .i64 (n.min), .int .i64 (n.max)] rfl rfl ?c1 ?c2 ?c3 ?c4 ?c5 ?_)
        case c1 => exact HNB.out
        case c2 => exact nodeAt_plain (nodeAt_of hsl HK3.out)
        case c3 => unfold maxLen; omega
        case c4 => omega
        case c5 => simp; omega
        intro v' w4 hown4 hg hnil hat
        have hrow : ∀ g, u3.ownBlock = some g → w.heap.size ≤ g := fun g hg' => by have := (HPT.out.own.lt g hg').1; omega
        have hO4 := HO3.out.grown hg hrow
        have hD4 := blk_grown (Blk.alloc HD3.out (.cells #[.int .i64 (n.kind), .int .u64 ((n.set).a.toNat : Int), .int .u64 ((n.set).b.toNat : Int), .int .u64 ((n.set).c.toNat : Int), .int .u64 ((n.set).d.toNat : Int), .slice (A) (n.kids.length) (cap), .int .i64 (n.min), .int .i64 (n.max)] 28)) hg (fun e => by have := hrow _ e; omega)
        have hB4 := blk_grown (Blk.alloc HB3.out (.cells #[.int .i64 (n.kind), .int .u64 ((n.set).a.toNat : Int), .int .u64 ((n.set).b.toNat : Int), .int .u64 ((n.set).c.toNat : Int), .int .u64 ((n.set).d.toNat : Int), .slice (A) (n.kids.length) (cap), .int .i64 (n.min), .int .i64 (n.max)] 28)) hg (fun e => by have := (HPT.out.own.lt _ e).1; omega)
        have hP4 := Parts.push (wr := wr.drewN m) (HP3.out.only ((Only.refl rb w3).alloc _) (Nat.le_of_lt hl)) HLT.out (by exact hzw) hsl (kids_only ((Only.refl rb w3).alloc _) (by exact (Nat.lt_trans hl hzw)) HK3.out) (by simp; exact Nat.le_succ_of_le hz3) hg (by simpa using hat) hown4
        have HX := hid_mk (CatAt.mk' hP4 hD4 hO4 (HTW.out.only hO4 hr) hB4 (Nat.le_trans hik (Nat.le_of_lt hkq.1)) hkq.2 (by omega) (by rw [Node.sizes_append, Node.sizes_cons, Node.sizes_nil]; omega) HNX.out)
        have HPO4 := hid_mk (posOf_eq hD4)
        clear hO4 hD4 hB4 hP4 hg hat hown4 hnil
        go_wp2
        refine ⟨HX.out, ?_⟩
        rw [HPO4.out, HPO.out]
        omega
end Go.Proofs.YthgcefppeaopkaaDoor
