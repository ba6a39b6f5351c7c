/- Walks over the pattern reader: alternatives. -/
import Derived.Test.YthgcefppeaopkaaDoorReadWC
namespace Go.Proofs.YthgcefppeaopkaaDoor
open Go Go.RowKit Go.Sort
set_option maxRecDepth 100000
set_option linter.unusedSimpArgs false
set_option linter.unusedVariables false
set_option maxHeartbeats 1000000
/-- at a round's head -/
def AltAt (s : ByteArray) (rb op i : Nat) (atm : Nat → Res Node) (w : World) (R : Res (List Node)) (v : Value) (wr : World) : Prop :=
  ∃ (ns : List Node) (ds : List Value) (k f : Nat), Parts w wr v ns ds ∧ RD s rb k op wr ∧ Only rb w wr ∧ Blk wr w.heap.size #[.int .i64 0, .int .u64 0, .int .u64 0, .int .u64 0, .int .u64 0, .slice none 0 0, .int .i64 0, .int .i64 0] 28 ∧ i ≤ k ∧ k ≤ s.size ∧ s.size < k + f ∧ Node.sizes ns ≤ 2 * (k - i) + 1 ∧ R = Rx.cats s.data.toList atm f ns k
theorem AltAt.mk' {s : ByteArray} {rb op i k f : Nat} {atm : Nat → Res Node} {w : World} {R : Res (List Node)} {v : Value} {wr : World} {ns : List Node} {ds : List Value} (h1 : Parts w wr v ns ds) (h2 : RD s rb k op wr) (h3 : Only rb w wr) (h5 : Blk wr w.heap.size #[.int .i64 0, .int .u64 0, .int .u64 0, .int .u64 0, .int .u64 0, .slice none 0 0, .int .i64 0, .int .i64 0] 28) (h6 : i ≤ k) (h7 : k ≤ s.size) (h8 : s.size < k + f) (h9 : Node.sizes ns ≤ 2 * (k - i) + 1) (h10 : R = Rx.cats s.data.toList atm f ns k) : AltAt s rb op i atm w R v wr :=
  ⟨ns, ds, k, f, h1, h2, h3, h5, h6, h7, h8, h9, h10⟩
theorem cats_stop {l : List UInt8} {atm : Nat → Res Node} {f : Nat} {ns : List Node} {k : Nat} (h : ¬ Rx.pk l k = 124) : Rx.cats l atm (f + 1) ns k = .ok ns k := by rw [Rx.cats, if_neg h]
theorem cats_bad {l : List UInt8} {atm : Nat → Res Node} {f : Nat} {ns : List Node} {k : Nat} {e : Int} {q : Nat} (h : Rx.pk l k = 124) (hr : Rx.cat l atm (k + 1) = .bad e q) : Rx.cats l atm (f + 1) ns k = .bad e q := by rw [Rx.cats, if_pos h, hr]
theorem cats_next {l : List UInt8} {atm : Nat → Res Node} {f : Nat} {ns : List Node} {k : Nat} {n : Node} {q : Nat} (h : Rx.pk l k = 124) (hr : Rx.cat l atm (k + 1) = .ok n q) : Rx.cats l atm (f + 1) ns k = Rx.cats l atm f (ns ++ [n]) q := by rw [Rx.cats, if_pos h, hr]
theorem alt_of {l : List UInt8} {atm : Nat → Res Node} {i : Nat} {n : Node} {p : Nat} {R : Res (List Node)} (hc : Rx.cat l atm i = .ok n p) (h : R = Rx.cats l atm (l.length + 1) [n] p) :
    (∀ n q, R = .ok [n] q → Rx.alt l atm i = .ok n q) ∧ (∀ ns q, ns.length ≠ 1 → R = .ok ns q → Rx.alt l atm i = .ok (Rx.join 3 ns) q) ∧ (∀ e q, R = .bad e q → Rx.alt l atm i = .bad e q) := by
  refine ⟨fun n q e => ?_, fun ns q hn e => ?_, fun e q e' => ?_⟩ <;> unfold Rx.alt <;> rw [hc] <;> dsimp only <;> rw [← h]
  · rw [e]
  · rw [e]
    split
    · rename_i e2; obtain ⟨rfl, rfl⟩ := Res.ok.inj e2; simp at hn
    · rename_i e2; obtain ⟨rfl, rfl⟩ := Res.ok.inj e2; rfl
    · rename_i e2; cases e2
    · rename_i e2; cases e2
  · rw [e']
/-- the parts at the start: one node in a new slice -/
theorem Parts.first {w w1 : World} {n : Node} {A : Option Addr} {cap : Nat} (h0 : w.heap.size < w1.heap.size) (hs : SlOk A n.kids.length cap) (hk : KidsAt (New (w.alloc (.cells #[.int .i64 0, .int .u64 0, .int .u64 0, .int .u64 0, .int .u64 0, .slice none 0 0, .int .i64 0, .int .i64 0] 28)) w1) w1 A n.kids) :
    Parts w (w1.alloc (.cells #[.int .i64 (n.kind), .int .u64 ((n.set).a.toNat : Int), .int .u64 ((n.set).b.toNat : Int), .int .u64 ((n.set).c.toNat : Int), .int .u64 ((n.set).d.toNat : Int), .slice (A) (n.kids.length) (cap), .int .i64 (n.min), .int .i64 (n.max)] 28)) (.slice (some ⟨w1.heap.size, 0, none⟩) 1 1) [n] [.int .i64 (n.kind), .int .u64 ((n.set).a.toNat : Int), .int .u64 ((n.set).b.toNat : Int), .int .u64 ((n.set).c.toNat : Int), .int .u64 ((n.set).d.toNat : Int), .slice (A) (n.kids.length) (cap), .int .i64 (n.min), .int .i64 (n.max)] := by
  have k1 : Keeps (New (w.alloc (.cells #[.int .i64 0, .int .u64 0, .int .u64 0, .int .u64 0, .int .u64 0, .slice none 0 0, .int .i64 0, .int .i64 0] 28)) w1) w1 (w1.alloc (.cells #[.int .i64 (n.kind), .int .u64 ((n.set).a.toNat : Int), .int .u64 ((n.set).b.toNat : Int), .int .u64 ((n.set).c.toNat : Int), .int .u64 ((n.set).d.toNat : Int), .slice (A) (n.kids.length) (cap), .int .i64 (n.min), .int .i64 (n.max)] 28)) := fun b hb => ((Below.refl w1.heap.size w1).alloc (Nat.le_refl _) _).block b hb.2
  refine ⟨nodesAt_one (nodeAt_of hs (kidsAt_keep k1 (fun b hb => ?_) hk)), World.ownsRow_lit w1 #[.int .i64 (n.kind), .int .u64 ((n.set).a.toNat : Int), .int .u64 ((n.set).b.toNat : Int), .int .u64 ((n.set).c.toNat : Int), .int .u64 ((n.set).d.toNat : Int), .slice (A) (n.kids.length) (cap), .int .i64 (n.min), .int .i64 (n.max)] 1 (by omega) (by unfold maxLen; omega) rfl⟩
  have h1 := hb.1
  have h2 := hb.2
  simp at h1
  refine ⟨by omega, by simp; omega, fun e => ?_⟩
  injection e with e
  dsimp only at e
  omega
theorem one_final {s : ByteArray} {rb op q : Nat} {w W V : World} {n : Node} {A : Option Addr} {cap : Nat} (ho : Only rb w W) (hd : RD s rb q op W) (hrb : rb < w.heap.size) (hs : SlOk A n.kids.length cap)
    (hk : KidsAt (fun b => w.heap.size < b ∧ b < W.heap.size) W A n.kids) (hv : Only w.heap.size W V) :
    RetNd s rb op (.ok n q) w (.returned (.agg #[.int .i64 (n.kind), .int .u64 ((n.set).a.toNat : Int), .int .u64 ((n.set).b.toNat : Int), .int .u64 ((n.set).c.toNat : Int), .int .u64 ((n.set).d.toNat : Int), .slice (A) (n.kids.length) (cap), .int .i64 (n.min), .int .i64 (n.max)])) V := by
  refine RetNd.ok ⟨hv.os.trans ho.os, hv.tape.trans ho.tape, hv.output.trans ho.output, Nat.le_trans ho.size hv.size, fun k hk' hne => (hv.block k (Nat.lt_of_lt_of_le hk' ho.size) (by omega)).trans (ho.block k hk' hne)⟩ (hv.blk (by omega) hd) hs ?_
  exact kidsAt_keep (fun b hb' => hv.block b hb'.2 (by have := hb'.1; omega)) (fun b hb' => ⟨Nat.le_of_lt hb'.1, Nat.lt_of_lt_of_le hb'.2 hv.size⟩) hk
theorem alt_any (s : ByteArray) (rb i op : Nat) (atm : Nat → Res Node) (HA : AtomOk s rb op atm) (hf : ∀ i, i ≤ s.data.toList.length → Fine s.data.toList i (atm i)) (hz : Rx.Lean2 s.data.toList atm) (w : World) (h : RD s rb i op w) (hs : s.size ≤ 1000) (hi : i ≤ s.size) (hT : TabW w) (hr : 0 ≠ rb) :
    Calls Tryd.prog 27 #[.pointer (some ⟨rb, 0, none⟩)] w (RetNd s rb op (Rx.alt s.data.toList atm i) w) := by
  have hl : rb < w.heap.size := h.lt
  have HCT := hide (fun k (hk : k ≤ s.size) a h hT => cat_any s rb k op atm HA hf hz a h hs hk hT hr)
  have HPK := hide (fun k (hk : k ≤ s.size) a h => peek_any s rb k op a h hs (by omega))
  have HSZ := hid_mk (fun k n q (hk : k ≤ s.data.toList.length) e => Rx.size_cat (n := n) (p := q) hz hf hk e)
  have HFI := hid_mk (fun k (hk : k ≤ s.size) => fine_cat s.data.toList atm hf k (by simpa using hk))
  obtain ⟨i0, hi0, hz0, hz1, hz2⟩ := info_parts node_info
  have HCC := unhide HCT i hi (w.alloc (.cells #[.int .i64 0, .int .u64 0, .int .u64 0, .int .u64 0, .int .u64 0, .slice none 0 0, .int .i64 0, .int .i64 0] 28)) (Blk.alloc h _) (hT.only (rb := rb) ((Only.refl rb w).alloc _) hr)
  have HTW := hid_mk hT
  have hfc := HFI.out i hi
  clear h hT HA hf hz
  cases hit0 : Rx.cat s.data.toList atm i with
  | out => rw [hit0] at hfc; exact hfc.elim
  | bad e q =>
    have HE : Hid (Rx.alt s.data.toList atm i = .bad e q) := hid_mk (by unfold Rx.alt; rw [hit0])
    rw [hit0] at HCC
    have HC1 := hide HCC
    rw [HE.out]
    clear hit0 hfc HCC HE
    go_enter Tryd.func27, Tryd.ntmps27
    go_wp2_with fail
    refine (unhide HC1).mono ?_
    rintro x w1 ⟨ho, rfl⟩
    exact ⟨rfl, RetNd.bad (((Only.refl rb w).alloc _).step ho)⟩
  | ok n0 p0 =>
    obtain ⟨R, hR⟩ : ∃ R, R = Rx.cats s.data.toList atm (s.data.toList.length + 1) [n0] p0 := ⟨_, rfl⟩
    have HC := hid_mk (alt_of hit0 hR)
    have hs0 := HSZ.out i n0 p0 (by simpa using hi) hit0
    rw [hit0] at HCC hfc
    have hp0 : i ≤ p0 ∧ p0 ≤ s.size := by have := hfc.1; have := hfc.2; simp at *; omega
    rw [len_data] at hR
    have HR := hid_mk hR
    have HC1 := hide HCC
    clear hit0 hfc HCC hR
    go_enter Tryd.func27, Tryd.ntmps27
    go_wp2_with fail
    refine (unhide HC1).mono ?_
    rintro x w1 ⟨ho1, hd1, A1, cap1, rfl, hsl1, hk1⟩
    have hzw1 : w.heap.size < w1.heap.size := by have := ho1.size; simp at this; omega
    have HX0 : Hid (AltAt s rb op i atm w R (.slice (some ⟨w1.heap.size, 0, none⟩) 1 1) (w1.alloc (.cells #[.int .i64 (n0.kind), .int .u64 ((n0.set).a.toNat : Int), .int .u64 ((n0.set).b.toNat : Int), .int .u64 ((n0.set).c.toNat : Int), .int .u64 ((n0.set).d.toNat : Int), .slice (A1) (n0.kids.length) (cap1), .int .i64 (n0.min), .int .i64 (n0.max)] 28))) :=
      hid_mk (AltAt.mk' (Parts.first hzw1 hsl1 hk1) (Blk.alloc hd1 _) ((((Only.refl rb w).alloc _).step ho1).alloc _) (Blk.alloc (ho1.blk (by omega) (Blk.new w _ _)) _) hp0.1 hp0.2 (by omega) (by rw [Node.sizes_cons, Node.sizes_nil]; omega) HR.out)
    clear ho1 hd1 hk1 hsl1 HR
    go_wp2
    go_loopw [3] (fun v wr => AltAt s rb op i atm w R v wr) (fun _ wr => s.size - posOf rb wr)
    case atStart => exact HX0.out
    case round =>
      clear HX0 hzw1
      obtain ⟨ns, ds, k, f, hpt, hd, ho, hb, hik, hk, hf, hsz, he⟩ := hrel
      have HP := hide (unhide HPK k hk wr hd)
      have HPO := hid_mk (posOf_eq hd)
      have HPT := hid_mk hpt
      have HD := hid_mk hd
      have HO := hid_mk ho
      have HB := hid_mk hb
      have hf1 : ∃ f', f = f' + 1 := ⟨f - 1, by omega⟩
      obtain ⟨f', rfl⟩ := hf1
      have hzw : w.heap.size < wr.heap.size := hb.lt
      have hlw : rb < wr.heap.size := hd.lt
      have hbk := pk_bd s.data.toList k
      by_cases hbar : Rx.pk s.data.toList k = 124
      · have hlt : k < s.size := by simpa using pk_in (l := s.data.toList) (i := k) (by rw [hbar]; decide)
        have hpc := HFI.out (k + 1) hlt
        have hdn : ∀ m, RD s rb (k + 1) op ((wr.setCell ⟨rb, 1, none⟩ (.int .i64 ((k : Int) + 1))).drewN m) := fun m => hd.nextD m
        have hon : ∀ m, Only rb wr ((wr.setCell ⟨rb, 1, none⟩ (.int .i64 ((k : Int) + 1))).drewN m) := fun m => nextD_only rb k wr m
        have HPX := hide (fun m => unhide HCT (k + 1) hlt _ (hdn m) (HTW.out.only (ho.step (hon m)) hr))
        have HON := hid_mk hon
        (have g0 : wr.cell? ⟨rb, 0, none⟩ = some (.string s) := hd.cell 0; have g1 : wr.cell? ⟨rb, 1, none⟩ = some (.int .i64 ((k : Nat) : Int)) := hd.cell 1; have g2 : wr.cell? ⟨rb, 2, none⟩ = some (.int .i64 ((op : Nat) : Int)) := hd.cell 2; have gf : ∀ i, wr.frozen? ⟨rb, i, none⟩ = false := hd.frozen)
        clear hdn hon
        cases hit : Rx.cat s.data.toList atm (k + 1) with
        | out => rw [hit] at hpc; exact hpc.elim
        | bad e q =>
          have HE := hid_mk (HC.out.2.2 _ _ (he.trans (cats_bad hbar hit)))
          rw [hit] at HPX
          rw [hbar] at HP
          clear hpt hd ho hb he hit hpc HC hbar hbk
          go_wp2_with fail
          refine (unhide HP).mono ?_
          rintro x w2 ⟨rfl, m, rfl⟩
          go_wp2_with fail
          refine (unhide HPX m).mono ?_
          rintro x w3 ⟨ho3, rfl⟩
          refine ⟨rfl, ?_⟩
          rw [HE.out]
          exact RetNd.bad ((HO.out.step (HON.out m)).step ho3)
        | ok n q =>
          have HNX := hid_mk (he.trans (cats_next hbar hit))
          have hsp := HSZ.out (k + 1) n q (by simp; omega) hit
          rw [hit] at HPX hpc
          rw [hbar] at HP
          have hkq : k + 1 ≤ q ∧ q ≤ s.size := by have := hpc.1; have := hpc.2; simp at *; omega
          clear hpt hd ho hb he hit hpc HC hbar hbk
          go_wp2_with fail
          refine (unhide HP).mono ?_
          rintro x w2 ⟨rfl, m, rfl⟩
          go_wp2_with fail
          refine (unhide HPX m).mono ?_
          rintro x w3 ⟨ho3, hd3, A, cap, rfl, hsl, hkk⟩
          have hstep := (HON.out m).step ho3
          have hp3 := HPT.out.only hstep (Nat.le_of_lt hl)
          have hlen := Node.length_le_sizes ns
          have hk8 := n.size_pos
          have hz3 : wr.heap.size ≤ w3.heap.size := hstep.size
          have hown := (hp3.only ((Only.refl rb w3).alloc (.cells #[.int .i64 (n.kind), .int .u64 ((n.set).a.toNat : Int), .int .u64 ((n.set).b.toNat : Int), .int .u64 ((n.set).c.toNat : Int), .int .u64 ((n.set).d.toNat : Int), .slice (A) (n.kids.length) (cap), .int .i64 (n.min), .int .i64 (n.max)] 28)) (Nat.le_of_lt hl)).own
          have HP3 := hid_mk hp3
          have HLT := hid_mk (fun g hg => (HPT.out.own.lt g hg).2)
          have HD3 := hid_mk hd3
          have HO3 := hid_mk ((HO.out.step hstep).alloc (.cells #[.int .i64 (n.kind), .int .u64 ((n.set).a.toNat : Int), .int .u64 ((n.set).b.toNat : Int), .int .u64 ((n.set).c.toNat : Int), .int .u64 ((n.set).d.toNat : Int), .slice (A) (n.kids.length) (cap), .int .i64 (n.min), .int .i64 (n.max)] 28))
          have HK3 := hid_mk (kids_more (w1 := wr) (by simp [World.setCell]) hkk)
          have HB3 := hid_mk (hstep.blk (by omega) HB.out)
          have HNB := hid_mk (World.news_of_block (Blk.new w3 #[.int .i64 (n.kind), .int .u64 ((n.set).a.toNat : Int), .int .u64 ((n.set).b.toNat : Int), .int .u64 ((n.set).c.toNat : Int), .int .u64 ((n.set).d.toNat : Int), .slice (A) (n.kids.length) (cap), .int .i64 (n.min), .int .i64 (n.max)] 28))
          clear hp3 ho3 hd3 hkk hstep
          go_wp2_with (at_builtin; refine wpList_append_own_at _ rfl _ _ 26 rfl (w.heap.size + 1) 28 i0 _ 8 80 Tryd.underlying26 hi0 hz0 hz1 hz2 rfl (by decide) _ _ ds rfl hown ⟨w3.heap.size, 0, none⟩ 1 1 [.int .i64 (n.kind), .int .u64 ((n.set).a.toNat : Int), .int .u64 ((n.set).b.toNat : Int), .int .u64 ((n.set).c.toNat : Int), .int .u64 ((n.set).d.toNat : Int), .slice (A) (n.kids.length) (cap), .int .i64 (n.min), .int .i64 (n.max)] rfl rfl ?c1 ?c2 ?c3 ?c4 ?c5 ?_)
          case c1 => exact HNB.out
          case c2 => exact nodeAt_plain (nodeAt_of hsl HK3.out)
          case c3 => unfold maxLen; omega
          case c4 => omega
          case c5 => simp; omega
          intro v' w4 hown4 hg hnil hat
          have hrow : ∀ g, u3.ownBlock = some g → w.heap.size ≤ g := fun g hg' => by have := (HPT.out.own.lt g hg').1; omega
          have hO4 := HO3.out.grown hg hrow
          have hD4 := blk_grown (Blk.alloc HD3.out (.cells #[.int .i64 (n.kind), .int .u64 ((n.set).a.toNat : Int), .int .u64 ((n.set).b.toNat : Int), .int .u64 ((n.set).c.toNat : Int), .int .u64 ((n.set).d.toNat : Int), .slice (A) (n.kids.length) (cap), .int .i64 (n.min), .int .i64 (n.max)] 28)) hg (fun e => by have := hrow _ e; omega)
          have hB4 := blk_grown (Blk.alloc HB3.out (.cells #[.int .i64 (n.kind), .int .u64 ((n.set).a.toNat : Int), .int .u64 ((n.set).b.toNat : Int), .int .u64 ((n.set).c.toNat : Int), .int .u64 ((n.set).d.toNat : Int), .slice (A) (n.kids.length) (cap), .int .i64 (n.min), .int .i64 (n.max)] 28)) hg (fun e => by have := (HPT.out.own.lt _ e).1; omega)
          have hP4 := Parts.push (wr := wr) (HP3.out.only ((Only.refl rb w3).alloc _) (Nat.le_of_lt hl)) HLT.out hzw hsl (kids_only ((Only.refl rb w3).alloc _) hlw HK3.out) (by simp; exact Nat.le_succ_of_le hz3) hg (by simpa using hat) hown4
          have HX := hid_mk (AltAt.mk' hP4 hD4 hO4 hB4 (by omega : i ≤ q) hkq.2 (by omega) (by rw [Node.sizes_append, Node.sizes_cons, Node.sizes_nil]; omega) HNX.out)
          have HPO4 := hid_mk (posOf_eq hD4)
          clear hO4 hD4 hB4 hP4 hg hat hown4 hnil
          go_wp2
          refine ⟨HX.out, ?_⟩
          rw [HPO4.out, HPO.out]
          omega
      · have HE := hid_mk (he.trans (cats_stop hbar))
        clear hpt hd ho hb he
        have hj := HPT.out.slice
        obtain ⟨A, cap, hv, hsl, hkk⟩ := hj
        have hbar2 : (Rx.pk s.data.toList k == 124) = false := by simpa using hbar
        clear hbar
        generalize Rx.pk s.data.toList k = c at *
        by_cases h1 : ns.length = 1
        · obtain ⟨nj, rfl⟩ : ∃ nj, ns = [nj] := by
            match ns, h1 with
            | [a], _ => exact ⟨a, rfl⟩
          have HF := hid_mk (HC.out.1 _ _ HE.out)
          obtain ⟨b, o, A', cap', rfl, hgb, hsl', hkj, hc⟩ := kidsAt_at hkk (i := 0) (by simp)
          simp only [List.getElem_cons_zero, Nat.zero_mul, Nat.add_zero] at hsl' hkj hc
          subst hv
          (have z0 : wr.cell? ⟨b, o, none⟩ = some (.int .i64 (nj.kind)) := hc 0 _ rfl; have z1 : wr.cell? ⟨b, o + 1, none⟩ = some (.int .u64 ((nj.set).a.toNat : Int)) := hc 1 _ rfl; have z2 : wr.cell? ⟨b, o + 2, none⟩ = some (.int .u64 ((nj.set).b.toNat : Int)) := hc 2 _ rfl; have z3 : wr.cell? ⟨b, o + 3, none⟩ = some (.int .u64 ((nj.set).c.toNat : Int)) := hc 3 _ rfl; have z4 : wr.cell? ⟨b, o + 4, none⟩ = some (.int .u64 ((nj.set).d.toNat : Int)) := hc 4 _ rfl; have z5 : wr.cell? ⟨b, o + 5, none⟩ = some (.slice (A') (nj.kids.length) (cap')) := hc 5 _ rfl; have z6 : wr.cell? ⟨b, o + 6, none⟩ = some (.int .i64 (nj.min)) := hc 6 _ rfl; have z7 : wr.cell? ⟨b, o + 7, none⟩ = some (.int .i64 (nj.max)) := hc 7 _ rfl)
          (have r0 : wr.cell? ⟨w.heap.size, 0, none⟩ = some (.int .i64 0) := HB.out.cell 0; have r1 : wr.cell? ⟨w.heap.size, 1, none⟩ = some (.int .u64 0) := HB.out.cell 1; have r2 : wr.cell? ⟨w.heap.size, 2, none⟩ = some (.int .u64 0) := HB.out.cell 2; have r3 : wr.cell? ⟨w.heap.size, 3, none⟩ = some (.int .u64 0) := HB.out.cell 3; have r4 : wr.cell? ⟨w.heap.size, 4, none⟩ = some (.int .u64 0) := HB.out.cell 4; have r5 : wr.cell? ⟨w.heap.size, 5, none⟩ = some (.slice none 0 0) := HB.out.cell 5; have r6 : wr.cell? ⟨w.heap.size, 6, none⟩ = some (.int .i64 0) := HB.out.cell 6; have r7 : wr.cell? ⟨w.heap.size, 7, none⟩ = some (.int .i64 0) := HB.out.cell 7; have rf : ∀ i, wr.frozen? ⟨w.heap.size, i, none⟩ = false := HB.out.frozen)
          have HKJ := hid_mk hkj
          clear hkj hc hkk hsl h1 HE HC hgb
          go_wp2_with fail
          refine (unhide HP).mono ?_
          rintro x w2 ⟨rfl, m, rfl⟩
          go_wp2
          refine bodyPost_ret (v := .agg #[.int .i64 (nj.kind), .int .u64 ((nj.set).a.toNat : Int), .int .u64 ((nj.set).b.toNat : Int), .int .u64 ((nj.set).c.toNat : Int), .int .u64 ((nj.set).d.toNat : Int), .slice (A') (nj.kids.length) (cap'), .int .i64 (nj.min), .int .i64 (nj.max)]) (by simp [results, Tryd.results27, go_sem, r0, r1, r2, r3, r4, r5, r6, r7, hzw]) rfl ?_
          rw [HF.out]
          exact one_final HO.out HD.out hl hsl' HKJ.out ((set8_only w.heap.size wr _ _ _ _ _ _ _ _).drewN m)
        · have HF := hid_mk (HC.out.2.1 _ _ h1 HE.out)
          have HJ := hide (fun m => join_any 3 A cap ns (fun b => w.heap.size < b ∧ b < wr.heap.size) (wr.drewN m) (fun b hb => hb.2) hsl (kidsAt_keep (w := wr) (w' := wr.drewN m) (fun b hb => rfl) (fun b hb => hb) hkk) (by omega))
          subst hv
          have hl1 : (ns.length == 1) = false := by simpa using h1
          have hl2 : ((ns.length : Int) == 1) = false := by simp; omega
          have HNJ : ∃ nj, nj = Rx.join 3 ns := ⟨_, rfl⟩
          obtain ⟨nj, hnj⟩ := HNJ
          rw [← hnj] at HF HJ
          clear hnj hsl hkk HE HC h1
          go_wp2_with fail
          refine (unhide HP).mono ?_
          rintro x w2 ⟨rfl, m, rfl⟩
          go_wp2_with fail
          refine (unhide HJ m).mono ?_
          rintro x w3 ⟨A', cap', rfl, hsl', hb3, hk3⟩
          have hr3 := Blk.call (HB.out.drewN m) hb3
          (have r0 : w3.cell? ⟨w.heap.size, 0, none⟩ = some (.int .i64 0) := hr3.cell 0; have r1 : w3.cell? ⟨w.heap.size, 1, none⟩ = some (.int .u64 0) := hr3.cell 1; have r2 : w3.cell? ⟨w.heap.size, 2, none⟩ = some (.int .u64 0) := hr3.cell 2; have r3 : w3.cell? ⟨w.heap.size, 3, none⟩ = some (.int .u64 0) := hr3.cell 3; have r4 : w3.cell? ⟨w.heap.size, 4, none⟩ = some (.int .u64 0) := hr3.cell 4; have r5 : w3.cell? ⟨w.heap.size, 5, none⟩ = some (.slice none 0 0) := hr3.cell 5; have r6 : w3.cell? ⟨w.heap.size, 6, none⟩ = some (.int .i64 0) := hr3.cell 6; have r7 : w3.cell? ⟨w.heap.size, 7, none⟩ = some (.int .i64 0) := hr3.cell 7; have rf : ∀ i, w3.frozen? ⟨w.heap.size, i, none⟩ = false := hr3.frozen)
          have hz3 : w.heap.size < w3.heap.size := hr3.lt
          have HR3 := hid_mk (And.intro hsl' (And.intro hb3 hk3))
          clear hr3 hsl' hb3 hk3
          go_wp2
          refine bodyPost_ret (v := .agg #[.int .i64 (nj.kind), .int .u64 ((nj.set).a.toNat : Int), .int .u64 ((nj.set).b.toNat : Int), .int .u64 ((nj.set).c.toNat : Int), .int .u64 ((nj.set).d.toNat : Int), .slice (A') (nj.kids.length) (cap'), .int .i64 (nj.min), .int .i64 (nj.max)]) (by simp [results, Tryd.results27, go_sem, r0, r1, r2, r3, r4, r5, r6, r7, hz3]) rfl ?_
          rw [HF.out]
          exact join_final (HO.out.drewN m) (HD.out.drewN m) hl HR3.out.2.1 HR3.out.1 hzw HR3.out.2.2 (set8_only w.heap.size _ _ _ _ _ _ _ _ _)
end Go.Proofs.YthgcefppeaopkaaDoor
