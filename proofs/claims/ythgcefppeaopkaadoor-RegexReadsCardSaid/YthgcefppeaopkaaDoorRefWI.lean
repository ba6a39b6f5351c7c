/- Walks over the reference's pattern reader: alternatives, with bars. -/
import Derived.Test.YthgcefppeaopkaaDoorRefWF
import Derived.Test.YthgcefppeaopkaaDoorLead
namespace Go.Proofs.YthgcefppeaopkaaDoor
open Go Go.RowKit Go.Sort
set_option maxRecDepth 100000
set_option linter.unusedSimpArgs false
set_option linter.unusedVariables false
set_option maxHeartbeats 1000000
theorem ralt_bar (s : ByteArray) (op : Int) (atm : Nat → Res Node) (HA : RCatOk s op atm) (hf : ∀ i, i ≤ s.data.toList.length → Fine s.data.toList i (atm i)) (hz : Rx.Lean2 s.data.toList atm) (i : Nat) (w : World) (hs : s.size ≤ 1000) (hi : i ≤ s.size) (n0 : Node) (p0 : Nat) (hit0 : Rx.cat s.data.toList atm i = .ok n0 p0) (hip : i ≤ p0) (hp0 : p0 ≤ s.size) (hb0 : Rx.pk s.data.toList p0 = 124) :
    Calls Tryd.prog 29 #[.string s, .int .i64 i, .int .i64 op] w (RetPN (Rx.alt s.data.toList atm i) w) := by
  obtain ⟨i0, hi0, hz0, hz1, hz2⟩ := info_parts node_info
  obtain ⟨R, hR⟩ : ∃ R, R = Rx.cats s.data.toList atm (s.data.toList.length + 1) [n0] p0 := ⟨_, rfl⟩
  have HC := hid_mk (alt_of hit0 hR)
  have HSZ := hid_mk (fun k n q (hk : k ≤ s.data.toList.length) e => Rx.size_cat (n := n) (p := q) hz hf hk e)
  have HFI := hid_mk (fun k (hk : k ≤ s.size) => fine_cat s.data.toList atm hf k (by simpa using hk))
  have hs0 := HSZ.out i n0 p0 (by simpa using hi) hit0
  have HX := hide (HA i hi)
  have HCT := hide HA
  have HIS0 := hide (fun w => ris_any s p0 124 w hs (by omega) (by decide))
  have HISK := hide (fun k (hk : k ≤ s.size) w => ris_any s k 124 w hs (by omega) (by decide))
  rw [decide_eq_true (show Rx.pk s.data.toList p0 = ((124 : Nat) : Int) from hb0)] at HIS0
  rw [hit0] at HX
  rw [len_data] at hR
  have HR := hid_mk hR
  have HB0 := hid_mk hb0
  clear HA hf hz hit0 hR hb0
  go_enter Tryd.func29, Tryd.ntmps29
  go_wp2_with fail
  refine (unhide HX _).mono ?_
  rintro x w1 ⟨hb1, A1, cap1, rfl, hsl1, hk1⟩
  have hbx := res_box (T := #[.int .i64 (n0.kind), .int .u64 ((n0.set).a.toNat : Int), .int .u64 ((n0.set).b.toNat : Int), .int .u64 ((n0.set).c.toNat : Int), .int .u64 ((n0.set).d.toNat : Int), .slice (A1) (n0.kids.length) (cap1), .int .i64 (n0.min), .int .i64 (n0.max), .int .u64 0, .int .u64 0, .int .u64 0, .int .u64 0, .bool false, .int .i64 ((p0 : Nat)), .int .i64 0, .int .i64 0]) (t := 56) hb1
  have HX0 : Hid (RAltAt s i w1.heap.size atm w R (.slice (some ⟨(w1.alloc (.cells #[.int .i64 (n0.kind), .int .u64 ((n0.set).a.toNat : Int), .int .u64 ((n0.set).b.toNat : Int), .int .u64 ((n0.set).c.toNat : Int), .int .u64 ((n0.set).d.toNat : Int), .slice (A1) (n0.kids.length) (cap1), .int .i64 (n0.min), .int .i64 (n0.max), .int .u64 0, .int .u64 0, .int .u64 0, .int .u64 0, .bool false, .int .i64 ((p0 : Nat)), .int .i64 0, .int .i64 0] 56)).heap.size, 0, none⟩) 1 1) ((w1.alloc (.cells #[.int .i64 (n0.kind), .int .u64 ((n0.set).a.toNat : Int), .int .u64 ((n0.set).b.toNat : Int), .int .u64 ((n0.set).c.toNat : Int), .int .u64 ((n0.set).d.toNat : Int), .slice (A1) (n0.kids.length) (cap1), .int .i64 (n0.min), .int .i64 (n0.max), .int .u64 0, .int .u64 0, .int .u64 0, .int .u64 0, .bool false, .int .i64 ((p0 : Nat)), .int .i64 0, .int .i64 0] 56)).alloc (.cells #[.int .i64 (n0.kind), .int .u64 ((n0.set).a.toNat : Int), .int .u64 ((n0.set).b.toNat : Int), .int .u64 ((n0.set).c.toNat : Int), .int .u64 ((n0.set).d.toNat : Int), .slice (A1) (n0.kids.length) (cap1), .int .i64 (n0.min), .int .i64 (n0.max)] 28))) :=
    hid_mk (RAltAt.mk' (PartsX.first hbx.2.2 hsl1 hk1) (hbx.1.2.alloc hbx.1.2.size _) (hbx.1.1.alloc _) (hbx.2.1.alloc _) rfl rfl hip hp0 (by omega) (by rw [Node.sizes_cons, Node.sizes_nil]; omega) HR.out (by simp) (Or.inl HB0.out))
  have hzg : w.heap.size < w1.heap.size := hbx.2.2
  clear hb1 hbx hsl1 hk1
  go_wp2_with fail
  refine (unhide HIS0 _).mono ?_
  rintro x w2 ⟨rfl, rfl⟩
  go_wp2
  go_loopw [8] (fun v wr => RAltAt s i w1.heap.size atm w R v wr) (fun _ wr => s.size - posP w1.heap.size wr)
  case atStart =>
    have h0 := HX0.out
    simp only [World.size_alloc] at h0 ⊢
    exact h0
  case round =>
    clear HX0 HIS0 HX HR HB0
    generalize w1.heap.size = g at *
    obtain ⟨ns, ds, k, f, cs, hpt, hbw, hres, hbox, hcs, hc13, hik, hk, hf, hsz, he, hbar⟩ := hrel
    have HPT := hid_mk hpt
    have HBW := hid_mk hbw
    have HRS := hid_mk hres
    have HBX := hid_mk hbox
    have HPO := hid_mk (posP_eq hbox hc13)
    have c13 : wr.cell? ⟨g, 13, none⟩ = some (.int .i64 (k : Nat)) := (hbox.cell 13).trans hc13
    have hzw : w.heap.size < wr.heap.size := hres.lt
    have hzr : g < wr.heap.size := hbox.lt
    have hf1 : ∃ f', f = f' + 1 := ⟨f - 1, by omega⟩
    obtain ⟨f', rfl⟩ := hf1
    have HP := hide (unhide HISK k hk wr)
    have HCS := hid_mk hcs
    have HC13 := hid_mk hc13
    clear hcs hc13
    by_cases hk124 : Rx.pk s.data.toList k = 124
    · rw [decide_eq_true (show Rx.pk s.data.toList k = ((124 : Nat) : Int) from hk124)] at HP
      have hns1 := hbar.1
      have hlt : k < s.size := by simpa using pk_in (l := s.data.toList) (i := k) (by rw [hk124]; decide)
      have hpc := HFI.out (k + 1) hlt
      have HPX := hide (unhide HCT (k + 1) hlt wr)
      clear hbar hpt hbw hres hbox
      cases hit : Rx.cat s.data.toList atm (k + 1) with
      | out => rw [hit] at hpc; exact hpc.elim
      | bad e q =>
        have HE := hid_mk (HC.out.2.2 _ _ (he.trans (cats_bad hk124 hit)))
        rw [hit] at HPX
        clear he hit hpc HC hk124
        go_wp2_with fail
        refine (unhide HP).mono ?_
        rintro x w2 ⟨rfl, rfl⟩
        go_wp2_with fail
        refine (unhide HPX).mono ?_
        rintro x w3 ⟨hb3, hne, a, rfl⟩
        have hne2 : (e != 0) = true := by simpa using hne
        have hbox3 := HBX.out.call hb3
        have hbox4 : Blk (w3.setRow g #[.int .i64 0, .int .u64 0, .int .u64 0, .int .u64 0, .int .u64 0, .slice none 0 0, .int .i64 0, .int .i64 0, .int .u64 0, .int .u64 0, .int .u64 0, .int .u64 0, .bool false, .int .i64 (a), .int .i64 (e), .int .i64 ((q : Nat))]) g #[.int .i64 0, .int .u64 0, .int .u64 0, .int .u64 0, .int .u64 0, .slice none 0 0, .int .i64 0, .int .i64 0, .int .u64 0, .int .u64 0, .int .u64 0, .int .u64 0, .bool false, .int .i64 (a), .int .i64 (e), .int .i64 ((q : Nat))] 56 := hbox3.row
        have hr4 : Blk (w3.setRow g #[.int .i64 0, .int .u64 0, .int .u64 0, .int .u64 0, .int .u64 0, .slice none 0 0, .int .i64 0, .int .i64 0, .int .u64 0, .int .u64 0, .int .u64 0, .int .u64 0, .bool false, .int .i64 (a), .int .i64 (e), .int .i64 ((q : Nat))]) w.heap.size #[.int .i64 0, .int .u64 0, .int .u64 0, .int .u64 0, .int .u64 0, .slice none 0 0, .int .i64 0, .int .i64 0, .int .u64 0, .int .u64 0, .int .u64 0, .int .u64 0, .bool false, .int .i64 (0), .int .i64 (0), .int .i64 (0)] 56 ∧ Below w.heap.size w (w3.setRow g #[.int .i64 0, .int .u64 0, .int .u64 0, .int .u64 0, .int .u64 0, .slice none 0 0, .int .i64 0, .int .i64 0, .int .u64 0, .int .u64 0, .int .u64 0, .int .u64 0, .bool false, .int .i64 (a), .int .i64 (e), .int .i64 ((q : Nat))]) := ⟨(HRS.out.call hb3).rowFar (by omega) _, below_row (HBW.out.trans (hb3.mono (Nat.le_of_lt hzw))) (by omega) _⟩
        have c14 : (w3.setRow g #[.int .i64 0, .int .u64 0, .int .u64 0, .int .u64 0, .int .u64 0, .slice none 0 0, .int .i64 0, .int .i64 0, .int .u64 0, .int .u64 0, .int .u64 0, .int .u64 0, .bool false, .int .i64 (a), .int .i64 (e), .int .i64 ((q : Nat))]).cell? ⟨g, 14, none⟩ = some (.int .i64 e) := hbox4.cell 14
        have hcs3 : cs.size = 16 := HCS.out
        clear hb3
        go_wp2_with (first | (refine store_row 56 rfl _ _ rfl g _ cs 56 hbox3 rfl rfl (by kernel_rfl) hcs3 rfl ?_) | (refine load_row 56 rfl _ rfl g _ 56 hbox4 rfl _ Tryd.underlying56 rfl (by kernel_rfl) ?_) | (refine store_row 56 rfl _ _ rfl w.heap.size _ _ 56 hr4.1 rfl rfl (by kernel_rfl) rfl rfl ?_))
        refine ret_row rfl w.heap.size _ _ hr4.1.row rfl _ Tryd.underlying56 rfl ?_ rfl ?_
        · kernel_rfl
        · exact ⟨below_row hr4.2 (Nat.le_refl _) _, by rw [HE.out]; exact ⟨hne, a, rfl⟩⟩
      | ok n q =>
        have HNX := hid_mk (he.trans (cats_next hk124 hit))
        have hsp := HSZ.out (k + 1) n q (by simp; omega) hit
        rw [hit] at HPX hpc
        have hkq : k < q ∧ q ≤ s.size := by have := hpc.1; have := hpc.2; simp at *; omega
        clear he hit hpc HC hk124
        go_wp2_with fail
        refine (unhide HP).mono ?_
        rintro x w2 ⟨rfl, rfl⟩
        go_wp2_with fail
        refine (unhide HPX).mono ?_
        rintro x w3 ⟨hb3, A, cap, rfl, hsl, hkk⟩
        have hz3 : wr.heap.size ≤ w3.heap.size := hb3.size
        have hbox3 := HBX.out.call hb3
        have hbox4 : Blk (w3.setRow g #[.int .i64 (n.kind), .int .u64 ((n.set).a.toNat : Int), .int .u64 ((n.set).b.toNat : Int), .int .u64 ((n.set).c.toNat : Int), .int .u64 ((n.set).d.toNat : Int), .slice (A) (n.kids.length) (cap), .int .i64 (n.min), .int .i64 (n.max), .int .u64 0, .int .u64 0, .int .u64 0, .int .u64 0, .bool false, .int .i64 ((q : Nat)), .int .i64 0, .int .i64 0]) g #[.int .i64 (n.kind), .int .u64 ((n.set).a.toNat : Int), .int .u64 ((n.set).b.toNat : Int), .int .u64 ((n.set).c.toNat : Int), .int .u64 ((n.set).d.toNat : Int), .slice (A) (n.kids.length) (cap), .int .i64 (n.min), .int .i64 (n.max), .int .u64 0, .int .u64 0, .int .u64 0, .int .u64 0, .bool false, .int .i64 ((q : Nat)), .int .i64 0, .int .i64 0] 56 := hbox3.row
        obtain ⟨V, hV⟩ : ∃ V, V = (w3.setRow g #[.int .i64 (n.kind), .int .u64 ((n.set).a.toNat : Int), .int .u64 ((n.set).b.toNat : Int), .int .u64 ((n.set).c.toNat : Int), .int .u64 ((n.set).d.toNat : Int), .slice (A) (n.kids.length) (cap), .int .i64 (n.min), .int .i64 (n.max), .int .u64 0, .int .u64 0, .int .u64 0, .int .u64 0, .bool false, .int .i64 ((q : Nat)), .int .i64 0, .int .i64 0]).alloc (.cells #[.int .i64 (n.kind), .int .u64 ((n.set).a.toNat : Int), .int .u64 ((n.set).b.toNat : Int), .int .u64 ((n.set).c.toNat : Int), .int .u64 ((n.set).d.toNat : Int), .slice (A) (n.kids.length) (cap), .int .i64 (n.min), .int .i64 (n.max)] 28) := ⟨_, rfl⟩
        have hO3 : Only g w3 V := by rw [hV]; exact (only_row g w3 _).alloc _
        have hVz : V.heap.size = w3.heap.size + 1 := by rw [hV, World.size_alloc, setRow_size]
        have hboxV : Blk V g #[.int .i64 (n.kind), .int .u64 ((n.set).a.toNat : Int), .int .u64 ((n.set).b.toNat : Int), .int .u64 ((n.set).c.toNat : Int), .int .u64 ((n.set).d.toNat : Int), .slice (A) (n.kids.length) (cap), .int .i64 (n.min), .int .i64 (n.max), .int .u64 0, .int .u64 0, .int .u64 0, .int .u64 0, .bool false, .int .i64 ((q : Nat)), .int .i64 0, .int .i64 0] 56 := by rw [hV]; exact Blk.alloc hbox4 _
        have hnb : Blk V w3.heap.size #[.int .i64 (n.kind), .int .u64 ((n.set).a.toNat : Int), .int .u64 ((n.set).b.toNat : Int), .int .u64 ((n.set).c.toNat : Int), .int .u64 ((n.set).d.toNat : Int), .slice (A) (n.kids.length) (cap), .int .i64 (n.min), .int .i64 (n.max)] 28 := by rw [hV]; exact Blk.newAt (by rw [setRow_size])
        have hrv : Blk V w.heap.size #[.int .i64 0, .int .u64 0, .int .u64 0, .int .u64 0, .int .u64 0, .slice none 0 0, .int .i64 0, .int .i64 0, .int .u64 0, .int .u64 0, .int .u64 0, .int .u64 0, .bool false, .int .i64 (0), .int .i64 (0), .int .i64 (0)] 56 := hO3.blk (by omega) (HRS.out.call hb3)
        have hbv : Below w.heap.size w V := (HBW.out.trans (hb3.mono (Nat.le_of_lt hzw))).trans (hO3.below (by omega) (by omega))
        have hpv : PartsX g w V u8 ns ds := (HPT.out.only (Below.onlyAny g hb3)).only hO3
        have hkv : KidsAt (New wr V) V A n.kids := kidsAt_keep (fun b hb => hO3.block b hb.2 (by have := hb.1; omega)) (fun b hb => ⟨hb.1, Nat.lt_of_lt_of_le hb.2 hO3.size⟩) hkk
        have hlen := Node.length_le_sizes ns
        have hk8 := n.size_pos
        have hown := hpv.own
        have HPV := hid_mk hpv
        have HLT := hid_mk (fun b hb => (HPT.out.own.lt b hb).2)
        have HLB := hid_mk (fun b hb => (HPT.out.own.lt b hb).1)
        have HKV := hid_mk hkv
        have HBV := hid_mk hbv
        have HBX2 := hid_mk hboxV
        have HRV := hid_mk hrv
        have HNB := hid_mk (World.news_of_block hnb)
        have HVE := hid_mk hV
        have hcs3 : cs.size = 16 := HCS.out
        (have z0 : (w3.setRow g #[.int .i64 (n.kind), .int .u64 ((n.set).a.toNat : Int), .int .u64 ((n.set).b.toNat : Int), .int .u64 ((n.set).c.toNat : Int), .int .u64 ((n.set).d.toNat : Int), .slice (A) (n.kids.length) (cap), .int .i64 (n.min), .int .i64 (n.max), .int .u64 0, .int .u64 0, .int .u64 0, .int .u64 0, .bool false, .int .i64 ((q : Nat)), .int .i64 0, .int .i64 0]).cell? ⟨g, 0, none⟩ = some (.int .i64 (n.kind)) := hbox4.cell 0; have z1 : (w3.setRow g #[.int .i64 (n.kind), .int .u64 ((n.set).a.toNat : Int), .int .u64 ((n.set).b.toNat : Int), .int .u64 ((n.set).c.toNat : Int), .int .u64 ((n.set).d.toNat : Int), .slice (A) (n.kids.length) (cap), .int .i64 (n.min), .int .i64 (n.max), .int .u64 0, .int .u64 0, .int .u64 0, .int .u64 0, .bool false, .int .i64 ((q : Nat)), .int .i64 0, .int .i64 0]).cell? ⟨g, 1, none⟩ = some (.int .u64 ((n.set).a.toNat : Int)) := hbox4.cell 1; have z2 : (w3.setRow g #[.int .i64 (n.kind), .int .u64 ((n.set).a.toNat : Int), .int .u64 ((n.set).b.toNat : Int), .int .u64 ((n.set).c.toNat : Int), .int .u64 ((n.set).d.toNat : Int), .slice (A) (n.kids.length) (cap), .int .i64 (n.min), .int .i64 (n.max), .int .u64 0, .int .u64 0, .int .u64 0, .int .u64 0, .bool false, .int .i64 ((q : Nat)), .int .i64 0, .int .i64 0]).cell? ⟨g, 2, none⟩ = some (.int .u64 ((n.set).b.toNat : Int)) := hbox4.cell 2; have z3 : (w3.setRow g #[.int .i64 (n.kind), .int .u64 ((n.set).a.toNat : Int), .int .u64 ((n.set).b.toNat : Int), .int .u64 ((n.set).c.toNat : Int), .int .u64 ((n.set).d.toNat : Int), .slice (A) (n.kids.length) (cap), .int .i64 (n.min), .int .i64 (n.max), .int .u64 0, .int .u64 0, .int .u64 0, .int .u64 0, .bool false, .int .i64 ((q : Nat)), .int .i64 0, .int .i64 0]).cell? ⟨g, 3, none⟩ = some (.int .u64 ((n.set).c.toNat : Int)) := hbox4.cell 3; have z4 : (w3.setRow g #[.int .i64 (n.kind), .int .u64 ((n.set).a.toNat : Int), .int .u64 ((n.set).b.toNat : Int), .int .u64 ((n.set).c.toNat : Int), .int .u64 ((n.set).d.toNat : Int), .slice (A) (n.kids.length) (cap), .int .i64 (n.min), .int .i64 (n.max), .int .u64 0, .int .u64 0, .int .u64 0, .int .u64 0, .bool false, .int .i64 ((q : Nat)), .int .i64 0, .int .i64 0]).cell? ⟨g, 4, none⟩ = some (.int .u64 ((n.set).d.toNat : Int)) := hbox4.cell 4; have z5 : (w3.setRow g #[.int .i64 (n.kind), .int .u64 ((n.set).a.toNat : Int), .int .u64 ((n.set).b.toNat : Int), .int .u64 ((n.set).c.toNat : Int), .int .u64 ((n.set).d.toNat : Int), .slice (A) (n.kids.length) (cap), .int .i64 (n.min), .int .i64 (n.max), .int .u64 0, .int .u64 0, .int .u64 0, .int .u64 0, .bool false, .int .i64 ((q : Nat)), .int .i64 0, .int .i64 0]).cell? ⟨g, 5, none⟩ = some (.slice (A) (n.kids.length) (cap)) := hbox4.cell 5; have z6 : (w3.setRow g #[.int .i64 (n.kind), .int .u64 ((n.set).a.toNat : Int), .int .u64 ((n.set).b.toNat : Int), .int .u64 ((n.set).c.toNat : Int), .int .u64 ((n.set).d.toNat : Int), .slice (A) (n.kids.length) (cap), .int .i64 (n.min), .int .i64 (n.max), .int .u64 0, .int .u64 0, .int .u64 0, .int .u64 0, .bool false, .int .i64 ((q : Nat)), .int .i64 0, .int .i64 0]).cell? ⟨g, 6, none⟩ = some (.int .i64 (n.min)) := hbox4.cell 6; have z7 : (w3.setRow g #[.int .i64 (n.kind), .int .u64 ((n.set).a.toNat : Int), .int .u64 ((n.set).b.toNat : Int), .int .u64 ((n.set).c.toNat : Int), .int .u64 ((n.set).d.toNat : Int), .slice (A) (n.kids.length) (cap), .int .i64 (n.min), .int .i64 (n.max), .int .u64 0, .int .u64 0, .int .u64 0, .int .u64 0, .bool false, .int .i64 ((q : Nat)), .int .i64 0, .int .i64 0]).cell? ⟨g, 7, none⟩ = some (.int .i64 (n.max)) := hbox4.cell 7; have z8 : (w3.setRow g #[.int .i64 (n.kind), .int .u64 ((n.set).a.toNat : Int), .int .u64 ((n.set).b.toNat : Int), .int .u64 ((n.set).c.toNat : Int), .int .u64 ((n.set).d.toNat : Int), .slice (A) (n.kids.length) (cap), .int .i64 (n.min), .int .i64 (n.max), .int .u64 0, .int .u64 0, .int .u64 0, .int .u64 0, .bool false, .int .i64 ((q : Nat)), .int .i64 0, .int .i64 0]).cell? ⟨g, 8, none⟩ = some (.int .u64 0) := hbox4.cell 8; have z9 : (w3.setRow g #[.int .i64 (n.kind), .int .u64 ((n.set).a.toNat : Int), .int .u64 ((n.set).b.toNat : Int), .int .u64 ((n.set).c.toNat : Int), .int .u64 ((n.set).d.toNat : Int), .slice (A) (n.kids.length) (cap), .int .i64 (n.min), .int .i64 (n.max), .int .u64 0, .int .u64 0, .int .u64 0, .int .u64 0, .bool false, .int .i64 ((q : Nat)), .int .i64 0, .int .i64 0]).cell? ⟨g, 9, none⟩ = some (.int .u64 0) := hbox4.cell 9; have z10 : (w3.setRow g #[.int .i64 (n.kind), .int .u64 ((n.set).a.toNat : Int), .int .u64 ((n.set).b.toNat : Int), .int .u64 ((n.set).c.toNat : Int), .int .u64 ((n.set).d.toNat : Int), .slice (A) (n.kids.length) (cap), .int .i64 (n.min), .int .i64 (n.max), .int .u64 0, .int .u64 0, .int .u64 0, .int .u64 0, .bool false, .int .i64 ((q : Nat)), .int .i64 0, .int .i64 0]).cell? ⟨g, 10, none⟩ = some (.int .u64 0) := hbox4.cell 10; have z11 : (w3.setRow g #[.int .i64 (n.kind), .int .u64 ((n.set).a.toNat : Int), .int .u64 ((n.set).b.toNat : Int), .int .u64 ((n.set).c.toNat : Int), .int .u64 ((n.set).d.toNat : Int), .slice (A) (n.kids.length) (cap), .int .i64 (n.min), .int .i64 (n.max), .int .u64 0, .int .u64 0, .int .u64 0, .int .u64 0, .bool false, .int .i64 ((q : Nat)), .int .i64 0, .int .i64 0]).cell? ⟨g, 11, none⟩ = some (.int .u64 0) := hbox4.cell 11; have z12 : (w3.setRow g #[.int .i64 (n.kind), .int .u64 ((n.set).a.toNat : Int), .int .u64 ((n.set).b.toNat : Int), .int .u64 ((n.set).c.toNat : Int), .int .u64 ((n.set).d.toNat : Int), .slice (A) (n.kids.length) (cap), .int .i64 (n.min), .int .i64 (n.max), .int .u64 0, .int .u64 0, .int .u64 0, .int .u64 0, .bool false, .int .i64 ((q : Nat)), .int .i64 0, .int .i64 0]).cell? ⟨g, 12, none⟩ = some (.bool false) := hbox4.cell 12; have z13 : (w3.setRow g #[.int .i64 (n.kind), .int .u64 ((n.set).a.toNat : Int), .int .u64 ((n.set).b.toNat : Int), .int .u64 ((n.set).c.toNat : Int), .int .u64 ((n.set).d.toNat : Int), .slice (A) (n.kids.length) (cap), .int .i64 (n.min), .int .i64 (n.max), .int .u64 0, .int .u64 0, .int .u64 0, .int .u64 0, .bool false, .int .i64 ((q : Nat)), .int .i64 0, .int .i64 0]).cell? ⟨g, 13, none⟩ = some (.int .i64 ((q : Nat))) := hbox4.cell 13; have z14 : (w3.setRow g #[.int .i64 (n.kind), .int .u64 ((n.set).a.toNat : Int), .int .u64 ((n.set).b.toNat : Int), .int .u64 ((n.set).c.toNat : Int), .int .u64 ((n.set).d.toNat : Int), .slice (A) (n.kids.length) (cap), .int .i64 (n.min), .int .i64 (n.max), .int .u64 0, .int .u64 0, .int .u64 0, .int .u64 0, .bool false, .int .i64 ((q : Nat)), .int .i64 0, .int .i64 0]).cell? ⟨g, 14, none⟩ = some (.int .i64 0) := hbox4.cell 14; have z15 : (w3.setRow g #[.int .i64 (n.kind), .int .u64 ((n.set).a.toNat : Int), .int .u64 ((n.set).b.toNat : Int), .int .u64 ((n.set).c.toNat : Int), .int .u64 ((n.set).d.toNat : Int), .slice (A) (n.kids.length) (cap), .int .i64 (n.min), .int .i64 (n.max), .int .u64 0, .int .u64 0, .int .u64 0, .int .u64 0, .bool false, .int .i64 ((q : Nat)), .int .i64 0, .int .i64 0]).cell? ⟨g, 15, none⟩ = some (.int .i64 0) := hbox4.cell 15; have zf : ∀ i, (w3.setRow g #[.int .i64 (n.kind), .int .u64 ((n.set).a.toNat : Int), .int .u64 ((n.set).b.toNat : Int), .int .u64 ((n.set).c.toNat : Int), .int .u64 ((n.set).d.toNat : Int), .slice (A) (n.kids.length) (cap), .int .i64 (n.min), .int .i64 (n.max), .int .u64 0, .int .u64 0, .int .u64 0, .int .u64 0, .bool false, .int .i64 ((q : Nat)), .int .i64 0, .int .i64 0]).frozen? ⟨g, i, none⟩ = false := hbox4.frozen)
        clear hpv hb3 hkk hO3 hbox4 hboxV hnb hrv hbv hkv hV
        go_wp2_with (first | (refine store_row 56 rfl _ _ rfl g _ cs 56 hbox3 rfl rfl (by kernel_rfl) hcs3 rfl ?_) | (at_builtin; rw [← HVE.out]; refine wpList_append_own_at _ rfl _ _ 26 rfl (g + 1) 28 i0 _ 8 80 Tryd.underlying26 hi0 hz0 hz1 hz2 rfl (by decide) _ _ ds rfl hown ⟨w3.heap.size, 0, none⟩ 1 1 [.int .i64 (n.kind), .int .u64 ((n.set).a.toNat : Int), .int .u64 ((n.set).b.toNat : Int), .int .u64 ((n.set).c.toNat : Int), .int .u64 ((n.set).d.toNat : Int), .slice (A) (n.kids.length) (cap), .int .i64 (n.min), .int .i64 (n.max)] rfl rfl ?c1 ?c2 ?c3 ?c4 ?c5 ?_))
        case c1 => exact HNB.out
        case c2 => exact nodeAt_plain (nodeAt_of hsl HKV.out)
        case c3 => unfold maxLen; omega
        case c4 => omega
        case c5 => omega
        intro v' w4 hown4 hg hnil hat
        have hB4 : Below w.heap.size w w4 := HBV.out.grown hg (by omega) (fun b hb => by have := HLB.out b hb; omega)
        have hR4 := blk_grown HRV.out hg (fun e => by have := HLB.out _ e; omega)
        have hX4 := blk_grown HBX2.out hg (fun e => by have := HLB.out _ e; omega)
        have hP4 := PartsX.push (wr := wr) HPV.out HLT.out hzr hsl HKV.out (by omega) hg (by rw [hVz]; exact hat) hown4
        have HX : Hid (RAltAt s i g atm w R v' w4) := hid_mk (RAltAt.mk' (f := f') hP4 hB4 hR4 hX4 rfl rfl (by omega) hkq.2 (by omega) (by rw [Node.sizes_append, Node.sizes_cons, Node.sizes_nil]; omega) HNX.out (by simp) (Or.inr (by rw [List.length_append, List.length_singleton]; omega)))
        have HPO4 := hid_mk (posP_eq (k := q) hX4 rfl)
        clear hB4 hR4 hP4 hg hat hown4 hnil hX4
        go_wp2
        go_roundw
        case rel => exact HX.out
        case measure => rw [HPO4.out, HPO.out]; omega
    · rw [decide_eq_false (show ¬ Rx.pk s.data.toList k = ((124 : Nat) : Int) from hk124)] at HP
      have hns2 : 2 ≤ ns.length := hbar.2.resolve_left hk124
      have HE := hid_mk (HC.out.2.1 ns k (by omega) (he.trans (cats_stop hk124)))
      obtain ⟨A, cap, hv, hsl, hkk⟩ := HPT.out.slice
      have HJ := hide (rjoin_any 3 A cap ns (fun b => w.heap.size < b ∧ b < wr.heap.size) wr.drew (fun b hb => hb.2) hsl (kidsAt_keep (w := wr) (w' := wr.drew) (fun b hb => rfl) (fun b h => h) hkk) (by omega))
      subst hv
      obtain ⟨nj, hnj⟩ : ∃ nj, nj = Rx.join 3 ns := ⟨_, rfl⟩
      rw [← hnj] at HE HJ
      clear hnj hsl hkk he hbar hpt hbw hres hbox HC hk124
      go_wp2_with fail
      refine (unhide HP).mono ?_
      rintro x w2 ⟨rfl, rfl⟩
      go_wp2_with fail
      have q13 : ∀ p : InB (fun x => Blk x g cs 56), p.w.cell? ⟨g, 13, none⟩ = some (.int .i64 (k : Nat)) := fun p => (p.ok.cell 13).trans HC13.out
      (refine region_lead (S := Meets (fun x => Blk x g cs 56)) 1 4 [0, 2, 3] _ [_, _, _] (by kernel_rfl) (by kernel_rfl) rfl rfl (fun d v c a w h => by cases d <;> exact h) (meets_mk ?_) ?_)
      · exact HBX.out
      ((repeat (refine wpReads_step (fun K hK => ?_); go_simp; (first | (refine hK _ ?_; clear hK K) | (apply Exists.intro; refine ⟨fun _ => rfl, hK _ ?_⟩; clear hK K)))); refine wpReads_nil ?_; intro J hJ; go_simp)
      refine (unhide HJ).mono ?_
      rintro x w3 ⟨A', cap', rfl, hsl', hb3, hk3⟩
      have hr3 : Blk w3 w.heap.size #[.int .i64 0, .int .u64 0, .int .u64 0, .int .u64 0, .int .u64 0, .slice none 0 0, .int .i64 0, .int .i64 0, .int .u64 0, .int .u64 0, .int .u64 0, .int .u64 0, .bool false, .int .i64 (0), .int .i64 (0), .int .i64 (0)] 56 ∧ Below w.heap.size w w3 := ⟨(show Blk wr.drew _ _ _ from HRS.out).call hb3, (show Below w.heap.size w wr.drew from (Below.drew HBW.out)).trans (hb3.mono (Nat.le_of_lt hzw))⟩
      have hb4 : Blk w3 g cs 56 := (show Blk wr.drew _ _ _ from HBX.out).call hb3
      refine hJ _ _ (meets_mk hb4) ?_
      clear hJ
      have HK3 := hid_mk (fun ds => rjoin_final (wr := wr) (q := k) hr3.2 hzw hb3.size hsl' hk3 ds)
      clear hb3 hsl' hk3 hb4 q13
      go_wp2_with (refine store_row 56 rfl _ _ rfl w.heap.size _ _ 56 hr3.1 rfl rfl (by kernel_rfl) rfl rfl ?_)
      refine ret_row rfl w.heap.size _ _ hr3.1.row rfl _ Tryd.underlying56 rfl ?_ rfl ?_
      · kernel_rfl
      · rw [HE.out]; exact HK3.out _
theorem amongA (n : Nat) (hn : n < 256) : amongB (ByteArray.mk #[41, 93, 123, 125, 124, 42, 43, 63]).data.toList n = Rx.wrongAtom (n : Int) := by
  show amongB [41, 93, 123, 125, 124, 42, 43, 63] n = _
  unfold amongB Rx.wrongAtom
  rw [Bool.eq_iff_iff]
  simp
  omega
theorem other_bad (l : List UInt8) (i : Nat) : ∃ e q, (Rx.other l i : Res Node) = .bad e q ∧ e ≠ 0 := by
  unfold Rx.other
  split
  · exact ⟨1, _, rfl, by decide⟩
  · exact ⟨2, _, rfl, by decide⟩
theorem ratom_end (s : ByteArray) (op : Int) (i : Nat) (w : World) (hs : s.size ≤ 1000) (hi : i ≤ s.size) (h : s.size ≤ i) :
    Calls Tryd.prog 58 #[.string s, .int .i64 i, .int .i64 op] w (RetPN (Rx.other s.data.toList i) w) := by
  obtain ⟨e, q, he, hne⟩ := other_bad s.data.toList i
  have HB := hide (fun w => rother_q s i w hs (by omega) e q he)
  rw [he]
  clear he
  have hd : decide ((s.size : Int) ≤ (i : Int)) = true := by simp; omega
  go_enter Tryd.func58, Tryd.ntmps58
  go_wp2_with fail
  refine (unhide HB _).mono ?_
  rintro x w1 ⟨rfl, hb1⟩
  have hr := res_after hb1
  (go_wp2_with (refine store_row 56 rfl _ _ rfl w.heap.size _ _ 56 hr.1 rfl rfl (by kernel_rfl) rfl rfl ?_); refine ret_row rfl w.heap.size _ _ hr.1.row rfl _ Tryd.underlying56 rfl ?_ rfl ?_; (kernel_rfl); (exact ⟨below_row hr.2 (Nat.le_refl _) _, ⟨hne, 0, rfl⟩⟩))
theorem ratom_wrong (s : ByteArray) (op : Int) (i : Nat) (w : World) (hs : s.size ≤ 1000) (hi : i ≤ s.size) (h : i < s.size) (hw : Rx.wrongAtom (Rx.pk s.data.toList i) = true) :
    Calls Tryd.prog 58 #[.string s, .int .i64 i, .int .i64 op] w (RetPN (Rx.other s.data.toList i) w) := by
  have hx0 : ∃ x, s[i]'h = x := ⟨_, rfl⟩
  obtain ⟨x, hx0⟩ := hx0
  have hp : Rx.pk s.data.toList i = (x.toNat : Int) := by rw [pk_lt h, hx0]
  have hxl := x.toNat_lt
  have HAM := hide (fun w => ramong_any x.toNat ⟨#[41, 93, 123, 125, 124, 42, 43, 63]⟩ w hxl (by decide))
  rw [amongA _ hxl] at HAM
  obtain ⟨e, q, he, hne⟩ := other_bad s.data.toList i
  have HB := hide (fun w => rother_q s i w hs (by omega) e q he)
  rw [he]
  rw [hp] at hw
  rw [hw] at HAM
  clear he hw hp
  go_enter Tryd.func58, Tryd.ntmps58
  go_wp2_with fail
  refine (unhide HAM _).mono ?_
  rintro e w0 ⟨rfl, rfl⟩
  go_wp2_with fail
  refine (unhide HB _).mono ?_
  rintro x w1 ⟨rfl, hb1⟩
  have hr := res_after hb1
  (go_wp2_with (refine store_row 56 rfl _ _ rfl w.heap.size _ _ 56 hr.1 rfl rfl (by kernel_rfl) rfl rfl ?_); refine ret_row rfl w.heap.size _ _ hr.1.row rfl _ Tryd.underlying56 rfl ?_ rfl ?_; (kernel_rfl); (exact ⟨below_row hr.2 (Nat.le_refl _) _, ⟨hne, 0, rfl⟩⟩))
theorem ratom_full (s : ByteArray) (op : Int) (i : Nat) (w : World) (hs : s.size ≤ 1000) (hi : i ≤ s.size) (hop : op = 16) (hc : Rx.pk s.data.toList i = 40) :
    Calls Tryd.prog 58 #[.string s, .int .i64 i, .int .i64 op] w (RetPN (.bad 3 i) w) := by
  have h : i < s.size := by simpa using pk_in (l := s.data.toList) (i := i) (by rw [hc]; decide)
  have hx0 : ∃ x, s[i]'h = x := ⟨_, rfl⟩
  obtain ⟨x, hx0⟩ := hx0
  have hp : Rx.pk s.data.toList i = (x.toNat : Int) := by rw [pk_lt h, hx0]
  have hxl := x.toNat_lt
  have HAM := hide (fun w => ramong_any x.toNat ⟨#[41, 93, 123, 125, 124, 42, 43, 63]⟩ w hxl (by decide))
  rw [amongA _ hxl] at HAM
  have hxn : x.toNat = 40 := by rw [hp] at hc; omega
  have hwr : Rx.wrongAtom (x.toNat : Int) = false := by rw [hxn]; rfl
  rw [hwr] at HAM
  have f40 : ((x.toNat : Int) == 40) = true := by rw [hxn]; rfl
  clear hwr hxn hc hp
  subst hop
  go_enter Tryd.func58, Tryd.ntmps58
  go_wp2_with fail
  refine (unhide HAM _).mono ?_
  rintro e w0 ⟨rfl, rfl⟩
  go_wp2_with fail
  refine (rbad_any 3 i _).mono ?_
  rintro x w1 ⟨rfl, hb1⟩
  have hr := res_after hb1
  (go_wp2_with (refine store_row 56 rfl _ _ rfl w.heap.size _ _ 56 hr.1 rfl rfl (by kernel_rfl) rfl rfl ?_); refine ret_row rfl w.heap.size _ _ hr.1.row rfl _ Tryd.underlying56 rfl ?_ rfl ?_; (kernel_rfl); (exact ⟨below_row hr.2 (Nat.le_refl _) _, ⟨by decide, 0, rfl⟩⟩))
theorem ratom_dot (s : ByteArray) (op : Int) (i : Nat) (w : World) (hs : s.size ≤ 1000) (hi : i ≤ s.size) (hc : Rx.pk s.data.toList i = 46) :
    Calls Tryd.prog 58 #[.string s, .int .i64 i, .int .i64 op] w (RetPN (.ok (.mk 1 (CSet.between 0 255) [] 0 0) (i + 1)) w) := by
  have h : i < s.size := by simpa using pk_in (l := s.data.toList) (i := i) (by rw [hc]; decide)
  have hx0 : ∃ x, s[i]'h = x := ⟨_, rfl⟩
  obtain ⟨x, hx0⟩ := hx0
  have hp : Rx.pk s.data.toList i = (x.toNat : Int) := by rw [pk_lt h, hx0]
  have hxl := x.toNat_lt
  have HAM := hide (fun w => ramong_any x.toNat ⟨#[41, 93, 123, 125, 124, 42, 43, 63]⟩ w hxl (by decide))
  rw [amongA _ hxl] at HAM
  have hxn : x.toNat = 46 := by rw [hp] at hc; omega
  have hwr : Rx.wrongAtom (x.toNat : Int) = false := by rw [hxn]; rfl
  rw [hwr] at HAM
  have f40 : ((x.toNat : Int) == 40) = false := by rw [hxn]; rfl
  have f46 : ((x.toNat : Int) == 46) = true := by rw [hxn]; rfl
  clear hwr hxn hc hp
  go_enter Tryd.func58, Tryd.ntmps58
  go_wp2_with fail
  refine (unhide HAM _).mono ?_
  rintro e w0 ⟨rfl, rfl⟩
  go_wp2_with fail
  refine (rbetween_any 0 255 (by decide) (by decide) _).mono ?_
  rintro x w1 ⟨rfl, hb1⟩
  have hr := res_after hb1
  go_wp2_with (refine store_row 56 rfl _ _ rfl w.heap.size _ _ 56 hr.1 rfl rfl (by kernel_rfl) rfl rfl ?_)
  refine ret_row rfl w.heap.size _ _ hr.1.row rfl _ Tryd.underlying56 rfl ?_ rfl ?_
  · kernel_rfl
  · exact retPN_set (S := CSet.between 0 255) (below_row hr.2 (Nat.le_refl _) _)
theorem ratom_class (s : ByteArray) (op : Int) (i : Nat) (w : World) (hs : s.size ≤ 1000) (hi : i ≤ s.size) (hc : Rx.pk s.data.toList i = 91) :
    Calls Tryd.prog 58 #[.string s, .int .i64 i, .int .i64 op] w (RetPN (nodeOf (Rx.cls s.data.toList (i + 1))) w) := by
  have h : i < s.size := by simpa using pk_in (l := s.data.toList) (i := i) (by rw [hc]; decide)
  have hx0 : ∃ x, s[i]'h = x := ⟨_, rfl⟩
  obtain ⟨x, hx0⟩ := hx0
  have hp : Rx.pk s.data.toList i = (x.toNat : Int) := by rw [pk_lt h, hx0]
  have hxl := x.toNat_lt
  have HAM := hide (fun w => ramong_any x.toNat ⟨#[41, 93, 123, 125, 124, 42, 43, 63]⟩ w hxl (by decide))
  rw [amongA _ hxl] at HAM
  have hxn : x.toNat = 91 := by rw [hp] at hc; omega
  have hwr : Rx.wrongAtom (x.toNat : Int) = false := by rw [hxn]; rfl
  rw [hwr] at HAM
  have f40 : ((x.toNat : Int) == 40) = false := by rw [hxn]; rfl
  have f46 : ((x.toNat : Int) == 46) = false := by rw [hxn]; rfl
  have f91 : ((x.toNat : Int) == 91) = true := by rw [hxn]; rfl
  clear hwr hxn hc hp
  have HCL := hide (fun w => rclass_any s (i + 1) w hs (by omega))
  have hfi := fine_cls s.data.toList (i + 1) (by simp; omega)
  cases hr : Rx.cls s.data.toList (i + 1) with
  | out => rw [hr] at hfi; exact hfi.elim
  | bad e q =>
    rw [hr] at HCL
    clear hr hfi
    go_enter Tryd.func58, Tryd.ntmps58
    go_wp2_with fail
    refine (unhide HAM _).mono ?_
    rintro e w0 ⟨rfl, rfl⟩
    go_wp2_with fail
    refine (unhide HCL _).mono ?_
    rintro x w1 ⟨hb1, hne, a, rfl⟩
    have hr := res_after hb1
    (go_wp2_with (refine store_row 56 rfl _ _ rfl w.heap.size _ _ 56 hr.1 rfl rfl (by kernel_rfl) rfl rfl ?_); refine ret_row rfl w.heap.size _ _ hr.1.row rfl _ Tryd.underlying56 rfl ?_ rfl ?_; (kernel_rfl); (exact ⟨below_row hr.2 (Nat.le_refl _) _, ⟨hne, a, rfl⟩⟩))
  | ok S q =>
    rw [hr] at HCL
    clear hr hfi
    go_enter Tryd.func58, Tryd.ntmps58
    go_wp2_with fail
    refine (unhide HAM _).mono ?_
    rintro e w0 ⟨rfl, rfl⟩
    go_wp2_with fail
    refine (unhide HCL _).mono ?_
    rintro x w1 ⟨hb1, A, cap, rfl, hsl, hk⟩
    have hr := res_after hb1
    (go_wp2_with (refine store_row 56 rfl _ _ rfl w.heap.size _ _ 56 hr.1 rfl rfl (by kernel_rfl) rfl rfl ?_); refine ret_row rfl w.heap.size _ _ hr.1.row rfl _ Tryd.underlying56 rfl ?_ rfl ?_; (kernel_rfl); (exact ⟨below_row hr.2 (Nat.le_refl _) _, ⟨A, cap, rfl, hsl, fun h => absurd h (by simp [Node.kids])⟩⟩))
theorem ratom_esc (s : ByteArray) (op : Int) (i : Nat) (w : World) (hs : s.size ≤ 1000) (hi : i ≤ s.size) (hc : Rx.pk s.data.toList i = 92) :
    Calls Tryd.prog 58 #[.string s, .int .i64 i, .int .i64 op] w (RetPN (match Rx.esc s.data.toList i with | .ok (S, _) p => .ok (.mk 1 S [] 0 0) p | .bad e p => .bad e p | .out => .out) w) := by
  have h : i < s.size := by simpa using pk_in (l := s.data.toList) (i := i) (by rw [hc]; decide)
  have hx0 : ∃ x, s[i]'h = x := ⟨_, rfl⟩
  obtain ⟨x, hx0⟩ := hx0
  have hp : Rx.pk s.data.toList i = (x.toNat : Int) := by rw [pk_lt h, hx0]
  have hxl := x.toNat_lt
  have HAM := hide (fun w => ramong_any x.toNat ⟨#[41, 93, 123, 125, 124, 42, 43, 63]⟩ w hxl (by decide))
  rw [amongA _ hxl] at HAM
  have hxn : x.toNat = 92 := by rw [hp] at hc; omega
  have hwr : Rx.wrongAtom (x.toNat : Int) = false := by rw [hxn]; rfl
  rw [hwr] at HAM
  have f40 : ((x.toNat : Int) == 40) = false := by rw [hxn]; rfl
  have f46 : ((x.toNat : Int) == 46) = false := by rw [hxn]; rfl
  have f91 : ((x.toNat : Int) == 91) = false := by rw [hxn]; rfl
  have f92 : ((x.toNat : Int) == 92) = true := by rw [hxn]; rfl
  clear hwr hxn hc hp
  have HES := hide (fun w => resc_any s i w hs (by omega))
  have hfi := fine_esc s.data.toList i
  cases hr : Rx.esc s.data.toList i with
  | out => rw [hr] at hfi; exact hfi.elim
  | bad e q =>
    rw [hr] at HES
    clear hr hfi
    go_enter Tryd.func58, Tryd.ntmps58
    go_wp2_with fail
    refine (unhide HAM _).mono ?_
    rintro e w0 ⟨rfl, rfl⟩
    go_wp2_with fail
    refine (unhide HES _).mono ?_
    rintro x w1 ⟨hb1, hne, rfl⟩
    have hbx := res_box (T := #[.int .i64 0, .int .u64 0, .int .u64 0, .int .u64 0, .int .u64 0, .slice none 0 0, .int .i64 0, .int .i64 0, .int .u64 0, .int .u64 0, .int .u64 0, .int .u64 0, .bool false, .int .i64 (0), .int .i64 (e), .int .i64 ((q : Nat))]) (t := 56) hb1
    have hne2 : (e != 0) = true := by simpa using hne
    clear hb1
    (go_wp2_with (first | (refine load_row 56 rfl _ rfl (w1.heap.size) _ 56 hbx.2.1 rfl _ Tryd.underlying56 rfl (by kernel_rfl) ?_) | (refine store_row 56 rfl _ _ rfl w.heap.size _ _ 56 hbx.1.1 rfl rfl (by kernel_rfl) rfl rfl ?_)); refine ret_row rfl w.heap.size _ _ hbx.1.1.row rfl _ Tryd.underlying56 rfl ?_ rfl ?_; (kernel_rfl); (exact ⟨below_row hbx.1.2 (Nat.le_refl _) _, ⟨hne, 0, rfl⟩⟩))
  | ok a q =>
    obtain ⟨S, many⟩ := a
    rw [hr] at HES
    clear hr hfi
    go_enter Tryd.func58, Tryd.ntmps58
    go_wp2_with fail
    refine (unhide HAM _).mono ?_
    rintro e w0 ⟨rfl, rfl⟩
    go_wp2_with fail
    refine (unhide HES _).mono ?_
    rintro x w1 ⟨hb1, rfl⟩
    have hbx := res_box (T := #[.int .i64 0, .int .u64 0, .int .u64 0, .int .u64 0, .int .u64 0, .slice none 0 0, .int .i64 0, .int .i64 0, .int .u64 ((S).a.toNat : Int), .int .u64 ((S).b.toNat : Int), .int .u64 ((S).c.toNat : Int), .int .u64 ((S).d.toNat : Int), .bool (many), .int .i64 ((q : Nat)), .int .i64 0, .int .i64 0]) (t := 56) hb1
    have hr := hbx.1
    clear hb1
    go_wp2_with (refine store_row 56 rfl _ _ rfl w.heap.size _ _ 56 hr.1 rfl rfl (by kernel_rfl) rfl rfl ?_)
    refine ret_row rfl w.heap.size _ _ hr.1.row rfl _ Tryd.underlying56 rfl ?_ rfl ?_
    · kernel_rfl
    · exact retPN_set (S := S) (below_row hr.2 (Nat.le_refl _) _)
theorem ratom_else (s : ByteArray) (op : Int) (i : Nat) (w : World) (hs : s.size ≤ 1000) (hi : i ≤ s.size) (h : i < s.size) (h1 : Rx.wrongAtom (Rx.pk s.data.toList i) = false) (h2 : ¬ Rx.pk s.data.toList i = 40) (h3 : ¬ Rx.pk s.data.toList i = 46) (h4 : ¬ Rx.pk s.data.toList i = 91) (h5 : ¬ Rx.pk s.data.toList i = 92) :
    Calls Tryd.prog 58 #[.string s, .int .i64 i, .int .i64 op] w (RetPN (.ok (.mk 1 (Rx.one (Rx.pk s.data.toList i)) [] 0 0) (i + 1)) w) := by
  have hx0 : ∃ x, s[i]'h = x := ⟨_, rfl⟩
  obtain ⟨x, hx0⟩ := hx0
  have hp : Rx.pk s.data.toList i = (x.toNat : Int) := by rw [pk_lt h, hx0]
  have hxl := x.toNat_lt
  have HAM := hide (fun w => ramong_any x.toNat ⟨#[41, 93, 123, 125, 124, 42, 43, 63]⟩ w hxl (by decide))
  rw [amongA _ hxl] at HAM
  rw [hp] at h1 h2 h3 h4 h5 ⊢
  have hone : Rx.one (x.toNat : Int) = CSet.between x.toNat x.toNat := by simp [Rx.one]
  rw [hone]
  rw [h1] at HAM
  have f1 : ((x.toNat : Int) == 40) = false := by simpa using h2
  have f2 : ((x.toNat : Int) == 46) = false := by simpa using h3
  have f3 : ((x.toNat : Int) == 91) = false := by simpa using h4
  have f4 : ((x.toNat : Int) == 92) = false := by simpa using h5
  have hT := hide (fun w => rbetween_any x.toNat x.toNat hxl hxl w)
  have hii : (i : Int) < (s.size : Int) := by omega
  have hwx : IntKind.i64.wrap (x.toNat : Int) = (x.toNat : Int) := IntWalk.i64_in _ (by omega)
  have hwi : IntKind.i64.wrap ((i : Int) + 1) = (i : Int) + 1 := IntWalk.i64_in _ (by omega)
  clear h1 h2 h3 h4 h5 hp hone
  go_enter Tryd.func58, Tryd.ntmps58
  go_wp2_with fail
  refine (unhide HAM _).mono ?_
  rintro e w0 ⟨rfl, rfl⟩
  have hA0 := Blk.new w #[.int .i64 0, .int .u64 0, .int .u64 0, .int .u64 0, .int .u64 0, .slice none 0 0, .int .i64 0, .int .i64 0, .int .u64 0, .int .u64 0, .int .u64 0, .int .u64 0, .bool false, .int .i64 (0), .int .i64 (0), .int .i64 (0)] 56
  have hB0 : Below w.heap.size w (w.alloc (.cells #[.int .i64 0, .int .u64 0, .int .u64 0, .int .u64 0, .int .u64 0, .slice none 0 0, .int .i64 0, .int .i64 0, .int .u64 0, .int .u64 0, .int .u64 0, .int .u64 0, .bool false, .int .i64 (0), .int .i64 (0), .int .i64 (0)] 56)) := (Below.refl _ _).alloc (Nat.le_refl _) _
  go_wp2_with fail
  generalize w.alloc (.cells #[.int .i64 0, .int .u64 0, .int .u64 0, .int .u64 0, .int .u64 0, .slice none 0 0, .int .i64 0, .int .i64 0, .int .u64 0, .int .u64 0, .int .u64 0, .int .u64 0, .bool false, .int .i64 (0), .int .i64 (0), .int .i64 (0)] 56) = W at *
  have HQ := hide (fun d os => retG_q (unhide hT (grow (redrawn W d) os)))
  clear hT
  (refine region_below_tail 13 (by kernel_rfl) (by kernel_rfl) ?_; simp only [List.take_succ_cons, List.take_zero, List.drop_succ_cons, List.drop_zero]; (repeat (quiet_step ( ((go_at_call 66; with_reducible exact unhide HQ _ _))))); refine wpQuiet_nil ?_; intro _ hw'; obtain ⟨⟨nq, osq⟩, hw''⟩ := hw'; subst hw'')
  have hbq := below_regrown W nq osq
  have hr := And.intro (hA0.call hbq) (hB0.trans (hbq.mono hB0.size))
  clear hA0 hB0 hbq
  generalize grow (redrawn W nq) osq = V at *
  go_wp2_with (refine store_row 56 rfl _ _ rfl w.heap.size _ _ 56 hr.1 rfl rfl (by kernel_rfl) rfl rfl ?_)
  refine ret_row rfl w.heap.size _ _ hr.1.row rfl _ Tryd.underlying56 rfl ?_ rfl ?_
  · kernel_rfl
  · exact retPN_set (S := CSet.between x.toNat x.toNat) (below_row hr.2 (Nat.le_refl _) _)
end Go.Proofs.YthgcefppeaopkaaDoor
