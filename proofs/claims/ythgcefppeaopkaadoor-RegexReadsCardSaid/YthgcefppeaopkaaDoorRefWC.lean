/- Walks over the reference's pattern reader: pieces. -/
import Derived.Test.YthgcefppeaopkaaDoorRefWB
namespace Go.Proofs.YthgcefppeaopkaaDoor
open Go Go.RowKit Go.Sort
set_option maxRecDepth 100000
set_option linter.unusedSimpArgs false
set_option linter.unusedVariables false
set_option maxHeartbeats 1000000
/-- what a walk knows of the reference's atoms -/
def RAtomOk (s : ByteArray) (op : Int) (atm : Nat → Res Node) : Prop := ∀ (w : World) (i : Nat), i ≤ s.size → Calls Tryd.prog 58 #[.string s, .int .i64 i, .int .i64 op] w (RetPN (atm i) w)
/-- a box for the struct behind a call, and the result's place before it -/
def zpW (w : World) : World := w.alloc (.cells #[.int .i64 0, .int .u64 0, .int .u64 0, .int .u64 0, .int .u64 0, .slice none 0 0, .int .i64 0, .int .i64 0, .int .u64 0, .int .u64 0, .int .u64 0, .int .u64 0, .bool false, .int .i64 (0), .int .i64 (0), .int .i64 (0)] 56)
theorem rpiece_bad (s : ByteArray) (op : Int) (atm : Nat → Res Node) (HA : RAtomOk s op atm) (i : Nat) (w : World) (hs : s.size ≤ 1000) (hi : i ≤ s.size) (e : Int) (q : Nat) (hit : atm i = .bad e q) :
    Calls Tryd.prog 52 #[.string s, .int .i64 i, .int .i64 op] w (RetPN (Rx.piece s.data.toList atm i) w) := by
  have HE : Hid (Rx.piece s.data.toList atm i = .bad e q) := hid_mk (by unfold Rx.piece; rw [hit])
  have HX := hide (fun w => HA w i hi)
  rw [hit] at HX
  rw [HE.out]
  clear HA hit HE
  go_enter Tryd.func52, Tryd.ntmps52
  go_wp2_with fail
  refine (unhide HX _).mono ?_
  rintro x w1 ⟨hb1, hne, a, rfl⟩
  have hbx := res_box (T := #[.int .i64 0, .int .u64 0, .int .u64 0, .int .u64 0, .int .u64 0, .slice none 0 0, .int .i64 0, .int .i64 0, .int .u64 0, .int .u64 0, .int .u64 0, .int .u64 0, .bool false, .int .i64 (a), .int .i64 (e), .int .i64 ((q : Nat))]) (t := 56) hb1
  have hne2 : (e != 0) = true := by simpa using hne
  clear hb1
  (go_wp2_with (first | (refine load_row 56 rfl _ rfl (w1.heap.size) _ 56 hbx.2.1 rfl _ Tryd.underlying56 rfl (by kernel_rfl) ?_) | (refine store_row 56 rfl _ _ rfl w.heap.size _ _ 56 hbx.1.1 rfl rfl (by kernel_rfl) rfl rfl ?_)); refine ret_row rfl w.heap.size _ _ hbx.1.1.row rfl _ Tryd.underlying56 rfl ?_ rfl ?_; (kernel_rfl); (exact ⟨below_row hbx.1.2 (Nat.le_refl _) _, ⟨hne, a, rfl⟩⟩))
theorem rp_rep {G : Nat → Prop} {w V V2 : World} {n : Node} {lo hi : Int} {q : Nat} {x : Ending} (hres : Blk V w.heap.size #[.int .i64 0, .int .u64 0, .int .u64 0, .int .u64 0, .int .u64 0, .slice none 0 0, .int .i64 0, .int .i64 0, .int .u64 0, .int .u64 0, .int .u64 0, .int .u64 0, .bool false, .int .i64 (0), .int .i64 (0), .int .i64 (0)] 56) (hb0 : Below w.heap.size w V) (hG : ∀ b, G b → w.heap.size < b ∧ b < V.heap.size) (hr : RetRep G n lo hi (q : Nat) V x V2) :
    ∃ g2, x = .returned (.agg #[.int .i64 (4), .int .u64 ((CSet.empty).a.toNat : Int), .int .u64 ((CSet.empty).b.toNat : Int), .int .u64 ((CSet.empty).c.toNat : Int), .int .u64 ((CSet.empty).d.toNat : Int), .slice (some ⟨g2, 0, none⟩) (1) (1), .int .i64 (lo), .int .i64 (hi), .int .u64 0, .int .u64 0, .int .u64 0, .int .u64 0, .bool false, .int .i64 ((q : Nat)), .int .i64 0, .int .i64 0]) ∧ Blk V2 w.heap.size #[.int .i64 0, .int .u64 0, .int .u64 0, .int .u64 0, .int .u64 0, .slice none 0 0, .int .i64 0, .int .i64 0, .int .u64 0, .int .u64 0, .int .u64 0, .int .u64 0, .bool false, .int .i64 (0), .int .i64 (0), .int .i64 (0)] 56 ∧ (∀ ds, RetPN (.ok (Rx.rep n lo hi) q) w x (V2.setRow w.heap.size ds)) := by
  obtain ⟨hb, g2, rfl, hk⟩ := hr
  have hw := hb0.size
  have hz := hb.size
  have hn := hres.lt
  refine ⟨g2, rfl, hres.call hb, fun ds => ⟨below_row (hb0.trans (hb.mono hw)) (Nat.le_refl _) ds, some ⟨g2, 0, none⟩, 1, rfl, ⟨Nat.le_refl _, fun h => by cases h⟩, ?_⟩⟩
  refine kidsAt_keep (w := V2) (fun b hb' => setRow_other V2 _ ds (by rcases hb' with h1 | h1; have := hG b h1; omega; omega)) (fun b hb' => ?_) hk
  unfold New
  rw [setRow_size]
  rcases hb' with h1 | h1
  · have := hG b h1; exact ⟨by omega, by omega⟩
  · exact ⟨by omega, h1.2⟩
theorem rpiece_42 (s : ByteArray) (op : Int) (atm : Nat → Res Node) (HA : RAtomOk s op atm) (i : Nat) (w : World) (hs : s.size ≤ 1000) (hi : i ≤ s.size) (n : Node) (p : Nat) (hit : atm i = .ok n p) (hc : Rx.pk s.data.toList p = 42) :
    Calls Tryd.prog 52 #[.string s, .int .i64 i, .int .i64 op] w (RetPN (.ok (Rx.rep n (0) (-1)) (p + 1)) w) := by
  have HX := hide (fun w => HA w i hi)
  rw [hit] at HX
  have hlt : p < s.size := by simpa using pk_in (l := s.data.toList) (i := p) (by rw [hc]; decide)
  have hy0 : ∃ y, s[p]'hlt = y := ⟨_, rfl⟩
  obtain ⟨y, hy0⟩ := hy0
  have hyn : y.toNat = 42 := by rw [pk_lt hlt, hy0] at hc; omega
  have f42 : ((y.toNat : Int) == 42) = true := by rw [hyn]; rfl
  have f43 : ((y.toNat : Int) == 43) = false := by rw [hyn]; rfl
  have f63 : ((y.toNat : Int) == 63) = false := by rw [hyn]; rfl
  clear HA hit hc hyn
  go_enter Tryd.func52, Tryd.ntmps52
  go_wp2_with fail
  refine (unhide HX _).mono ?_
  rintro x w1 ⟨hb1, A, cap, rfl, hsl, hk⟩
  have hbx := res_box (T := #[.int .i64 (n.kind), .int .u64 ((n.set).a.toNat : Int), .int .u64 ((n.set).b.toNat : Int), .int .u64 ((n.set).c.toNat : Int), .int .u64 ((n.set).d.toNat : Int), .slice (A) (n.kids.length) (cap), .int .i64 (n.min), .int .i64 (n.max), .int .u64 0, .int .u64 0, .int .u64 0, .int .u64 0, .bool false, .int .i64 ((p : Nat)), .int .i64 0, .int .i64 0]) (t := 56) hb1
  have hk1 := kidsAt_keep (G' := New (zpW w) w1) (below_keeps ((Below.refl w1.heap.size w1).alloc (Nat.le_refl _) (.cells #[.int .i64 (n.kind), .int .u64 ((n.set).a.toNat : Int), .int .u64 ((n.set).b.toNat : Int), .int .u64 ((n.set).c.toNat : Int), .int .u64 ((n.set).d.toNat : Int), .slice (A) (n.kids.length) (cap), .int .i64 (n.min), .int .i64 (n.max), .int .u64 0, .int .u64 0, .int .u64 0, .int .u64 0, .bool false, .int .i64 ((p : Nat)), .int .i64 0, .int .i64 0] 56)) (fun b hb => hb.2)) (fun b h => h) hk
  have HK := hid_mk hk1
  clear hb1 hk hk1
  go_wp2_with fail
  refine (rrep_any n A cap (0) (-1) ((p + 1 : Nat) : Int) (New (zpW w) w1) _ (fun b hb => by have := hb.2; simp; omega) hsl HK.out).mono ?_
  rintro x w3 hrep
  obtain ⟨g2, rfl, hres, hfin⟩ := rp_rep hbx.1.1 hbx.1.2 (fun b hb => ⟨by have := hb.1; simp [zpW] at this; omega, by have := hb.2; simp; omega⟩) hrep
  have HF := hid_mk hfin
  clear hfin hrep
  go_wp2_with (refine store_row 56 rfl _ _ rfl w.heap.size _ _ 56 hres rfl rfl (by kernel_rfl) rfl rfl ?_)
  refine ret_row rfl w.heap.size _ _ hres.row rfl _ Tryd.underlying56 rfl ?_ rfl ?_
  · kernel_rfl
  · exact HF.out _
theorem rpiece_43 (s : ByteArray) (op : Int) (atm : Nat → Res Node) (HA : RAtomOk s op atm) (i : Nat) (w : World) (hs : s.size ≤ 1000) (hi : i ≤ s.size) (n : Node) (p : Nat) (hit : atm i = .ok n p) (hc : Rx.pk s.data.toList p = 43) :
    Calls Tryd.prog 52 #[.string s, .int .i64 i, .int .i64 op] w (RetPN (.ok (Rx.rep n (1) (-1)) (p + 1)) w) := by
  have HX := hide (fun w => HA w i hi)
  rw [hit] at HX
  have hlt : p < s.size := by simpa using pk_in (l := s.data.toList) (i := p) (by rw [hc]; decide)
  have hy0 : ∃ y, s[p]'hlt = y := ⟨_, rfl⟩
  obtain ⟨y, hy0⟩ := hy0
  have hyn : y.toNat = 43 := by rw [pk_lt hlt, hy0] at hc; omega
  have f42 : ((y.toNat : Int) == 42) = false := by rw [hyn]; rfl
  have f43 : ((y.toNat : Int) == 43) = true := by rw [hyn]; rfl
  have f63 : ((y.toNat : Int) == 63) = false := by rw [hyn]; rfl
  clear HA hit hc hyn
  go_enter Tryd.func52, Tryd.ntmps52
  go_wp2_with fail
  refine (unhide HX _).mono ?_
  rintro x w1 ⟨hb1, A, cap, rfl, hsl, hk⟩
  have hbx := res_box (T := #[.int .i64 (n.kind), .int .u64 ((n.set).a.toNat : Int), .int .u64 ((n.set).b.toNat : Int), .int .u64 ((n.set).c.toNat : Int), .int .u64 ((n.set).d.toNat : Int), .slice (A) (n.kids.length) (cap), .int .i64 (n.min), .int .i64 (n.max), .int .u64 0, .int .u64 0, .int .u64 0, .int .u64 0, .bool false, .int .i64 ((p : Nat)), .int .i64 0, .int .i64 0]) (t := 56) hb1
  have hk1 := kidsAt_keep (G' := New (zpW w) w1) (below_keeps ((Below.refl w1.heap.size w1).alloc (Nat.le_refl _) (.cells #[.int .i64 (n.kind), .int .u64 ((n.set).a.toNat : Int), .int .u64 ((n.set).b.toNat : Int), .int .u64 ((n.set).c.toNat : Int), .int .u64 ((n.set).d.toNat : Int), .slice (A) (n.kids.length) (cap), .int .i64 (n.min), .int .i64 (n.max), .int .u64 0, .int .u64 0, .int .u64 0, .int .u64 0, .bool false, .int .i64 ((p : Nat)), .int .i64 0, .int .i64 0] 56)) (fun b hb => hb.2)) (fun b h => h) hk
  have HK := hid_mk hk1
  clear hb1 hk hk1
  go_wp2_with fail
  refine (rrep_any n A cap (1) (-1) ((p + 1 : Nat) : Int) (New (zpW w) w1) _ (fun b hb => by have := hb.2; simp; omega) hsl HK.out).mono ?_
  rintro x w3 hrep
  obtain ⟨g2, rfl, hres, hfin⟩ := rp_rep hbx.1.1 hbx.1.2 (fun b hb => ⟨by have := hb.1; simp [zpW] at this; omega, by have := hb.2; simp; omega⟩) hrep
  have HF := hid_mk hfin
  clear hfin hrep
  go_wp2_with (refine store_row 56 rfl _ _ rfl w.heap.size _ _ 56 hres rfl rfl (by kernel_rfl) rfl rfl ?_)
  refine ret_row rfl w.heap.size _ _ hres.row rfl _ Tryd.underlying56 rfl ?_ rfl ?_
  · kernel_rfl
  · exact HF.out _
theorem rpiece_63 (s : ByteArray) (op : Int) (atm : Nat → Res Node) (HA : RAtomOk s op atm) (i : Nat) (w : World) (hs : s.size ≤ 1000) (hi : i ≤ s.size) (n : Node) (p : Nat) (hit : atm i = .ok n p) (hc : Rx.pk s.data.toList p = 63) :
    Calls Tryd.prog 52 #[.string s, .int .i64 i, .int .i64 op] w (RetPN (.ok (Rx.rep n (0) (1)) (p + 1)) w) := by
  have HX := hide (fun w => HA w i hi)
  rw [hit] at HX
  have hlt : p < s.size := by simpa using pk_in (l := s.data.toList) (i := p) (by rw [hc]; decide)
  have hy0 : ∃ y, s[p]'hlt = y := ⟨_, rfl⟩
  obtain ⟨y, hy0⟩ := hy0
  have hyn : y.toNat = 63 := by rw [pk_lt hlt, hy0] at hc; omega
  have f42 : ((y.toNat : Int) == 42) = false := by rw [hyn]; rfl
  have f43 : ((y.toNat : Int) == 43) = false := by rw [hyn]; rfl
  have f63 : ((y.toNat : Int) == 63) = true := by rw [hyn]; rfl
  clear HA hit hc hyn
  go_enter Tryd.func52, Tryd.ntmps52
  go_wp2_with fail
  refine (unhide HX _).mono ?_
  rintro x w1 ⟨hb1, A, cap, rfl, hsl, hk⟩
  have hbx := res_box (T := #[.int .i64 (n.kind), .int .u64 ((n.set).a.toNat : Int), .int .u64 ((n.set).b.toNat : Int), .int .u64 ((n.set).c.toNat : Int), .int .u64 ((n.set).d.toNat : Int), .slice (A) (n.kids.length) (cap), .int .i64 (n.min), .int .i64 (n.max), .int .u64 0, .int .u64 0, .int .u64 0, .int .u64 0, .bool false, .int .i64 ((p : Nat)), .int .i64 0, .int .i64 0]) (t := 56) hb1
  have hk1 := kidsAt_keep (G' := New (zpW w) w1) (below_keeps ((Below.refl w1.heap.size w1).alloc (Nat.le_refl _) (.cells #[.int .i64 (n.kind), .int .u64 ((n.set).a.toNat : Int), .int .u64 ((n.set).b.toNat : Int), .int .u64 ((n.set).c.toNat : Int), .int .u64 ((n.set).d.toNat : Int), .slice (A) (n.kids.length) (cap), .int .i64 (n.min), .int .i64 (n.max), .int .u64 0, .int .u64 0, .int .u64 0, .int .u64 0, .bool false, .int .i64 ((p : Nat)), .int .i64 0, .int .i64 0] 56)) (fun b hb => hb.2)) (fun b h => h) hk
  have HK := hid_mk hk1
  clear hb1 hk hk1
  go_wp2_with fail
  refine (rrep_any n A cap (0) (1) ((p + 1 : Nat) : Int) (New (zpW w) w1) _ (fun b hb => by have := hb.2; simp; omega) hsl HK.out).mono ?_
  rintro x w3 hrep
  obtain ⟨g2, rfl, hres, hfin⟩ := rp_rep hbx.1.1 hbx.1.2 (fun b hb => ⟨by have := hb.1; simp [zpW] at this; omega, by have := hb.2; simp; omega⟩) hrep
  have HF := hid_mk hfin
  clear hfin hrep
  go_wp2_with (refine store_row 56 rfl _ _ rfl w.heap.size _ _ 56 hres rfl rfl (by kernel_rfl) rfl rfl ?_)
  refine ret_row rfl w.heap.size _ _ hres.row rfl _ Tryd.underlying56 rfl ?_ rfl ?_
  · kernel_rfl
  · exact HF.out _
end Go.Proofs.YthgcefppeaopkaaDoor
