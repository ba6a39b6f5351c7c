/- Walks over the reference's pattern reader: pieces, the other ways. -/
import Derived.Test.YthgcefppeaopkaaDoorRefWC
namespace Go.Proofs.YthgcefppeaopkaaDoor
open Go Go.RowKit Go.Sort
set_option maxRecDepth 100000
set_option linter.unusedSimpArgs false
set_option linter.unusedVariables false
set_option maxHeartbeats 1000000
theorem retPN_keep {n : Node} {p : Nat} {A : Option Addr} {cap : Nat} {w w0 w1 V : World} (h : Below w.heap.size w V) (hs : SlOk A n.kids.length cap) (hk : KidsAt (New w0 w1) w1 A n.kids) (h0 : w.heap.size ≤ w0.heap.size) (hkeep : ∀ b, w0.heap.size ≤ b → b < w1.heap.size → V.heap[b]? = w1.heap[b]?) (hz : w1.heap.size ≤ V.heap.size) :
    RetPN (.ok n p) w (.returned (.agg #[.int .i64 (n.kind), .int .u64 ((n.set).a.toNat : Int), .int .u64 ((n.set).b.toNat : Int), .int .u64 ((n.set).c.toNat : Int), .int .u64 ((n.set).d.toNat : Int), .slice (A) (n.kids.length) (cap), .int .i64 (n.min), .int .i64 (n.max), .int .u64 0, .int .u64 0, .int .u64 0, .int .u64 0, .bool false, .int .i64 ((p : Nat)), .int .i64 0, .int .i64 0])) V :=
  ⟨h, A, cap, rfl, hs, kidsAt_keep (fun b hb => hkeep b hb.1 hb.2) (fun b hb => ⟨Nat.le_trans h0 hb.1, Nat.lt_of_lt_of_le hb.2 hz⟩) hk⟩
theorem kids_box {w w1 : World} {A : Option Addr} {ns : List Node} {T : Array Value} {tt : TypeId} (hw : w.heap.size < w1.heap.size) (hk : KidsAt (New (zpW w) w1) w1 A ns) (ds : Array Value) :
    KidsAt (New w ((w1.alloc (.cells T tt)).setRow w.heap.size ds)) ((w1.alloc (.cells T tt)).setRow w.heap.size ds) A ns := by
  have h0 : (zpW w).heap.size = w.heap.size + 1 := by simp [zpW]
  refine kidsAt_keep (fun b hb => ?_) (fun b hb => ?_) hk
  · have h1 := hb.1
    rw [h0] at h1
    rw [setRow_other _ _ _ (by omega)]
    exact ((Below.refl w1.heap.size w1).alloc (Nat.le_refl _) _).block b hb.2
  · have h1 := hb.1
    rw [h0] at h1
    refine ⟨by omega, ?_⟩
    rw [setRow_size]
    have := hb.2
    simp
    omega
theorem rpiece_end (s : ByteArray) (op : Int) (atm : Nat → Res Node) (HA : RAtomOk s op atm) (i : Nat) (w : World) (hs : s.size ≤ 1000) (hi : i ≤ s.size) (n : Node) (p : Nat) (hit : atm i = .ok n p) (hp : s.size ≤ p) (hp2 : p ≤ 1500) :
    Calls Tryd.prog 52 #[.string s, .int .i64 i, .int .i64 op] w (RetPN (.ok n p) w) := by
  have HX := hide (fun w => HA w i hi)
  rw [hit] at HX
  have hd : decide ((s.size : Int) ≤ (p : Int)) = true := by simp; omega
  clear HA hit
  go_enter Tryd.func52, Tryd.ntmps52
  go_wp2_with fail
  refine (unhide HX _).mono ?_
  rintro x w1 ⟨hb1, A, cap, rfl, hsl, hk⟩
  have hbx := res_box (T := #[.int .i64 (n.kind), .int .u64 ((n.set).a.toNat : Int), .int .u64 ((n.set).b.toNat : Int), .int .u64 ((n.set).c.toNat : Int), .int .u64 ((n.set).d.toNat : Int), .slice (A) (n.kids.length) (cap), .int .i64 (n.min), .int .i64 (n.max), .int .u64 0, .int .u64 0, .int .u64 0, .int .u64 0, .bool false, .int .i64 ((p : Nat)), .int .i64 0, .int .i64 0]) (t := 56) hb1
  have HK := hid_mk (fun ds => kids_box (T := #[.int .i64 (n.kind), .int .u64 ((n.set).a.toNat : Int), .int .u64 ((n.set).b.toNat : Int), .int .u64 ((n.set).c.toNat : Int), .int .u64 ((n.set).d.toNat : Int), .slice (A) (n.kids.length) (cap), .int .i64 (n.min), .int .i64 (n.max), .int .u64 0, .int .u64 0, .int .u64 0, .int .u64 0, .bool false, .int .i64 ((p : Nat)), .int .i64 0, .int .i64 0]) (tt := 56) hbx.2.2 hk ds)
  clear hb1 hk
  (go_wp2_with (first | (refine load_row 56 rfl _ rfl (w1.heap.size) _ 56 hbx.2.1 rfl _ Tryd.underlying56 rfl (by kernel_rfl) ?_) | (refine store_row 56 rfl _ _ rfl w.heap.size _ _ 56 hbx.1.1 rfl rfl (by kernel_rfl) rfl rfl ?_)); refine ret_row rfl w.heap.size _ _ hbx.1.1.row rfl _ Tryd.underlying56 rfl ?_ rfl ?_; (kernel_rfl); (exact ⟨below_row hbx.1.2 (Nat.le_refl _) _, ⟨A, cap, rfl, hsl, HK.out _⟩⟩))
theorem rpiece_def (s : ByteArray) (op : Int) (atm : Nat → Res Node) (HA : RAtomOk s op atm) (i : Nat) (w : World) (hs : s.size ≤ 1000) (hi : i ≤ s.size) (n : Node) (p : Nat) (hit : atm i = .ok n p) (hlt : p < s.size) (h1 : ¬ Rx.pk s.data.toList p = 42) (h2 : ¬ Rx.pk s.data.toList p = 43) (h3 : ¬ Rx.pk s.data.toList p = 63) (h4 : ¬ Rx.pk s.data.toList p = 123) :
    Calls Tryd.prog 52 #[.string s, .int .i64 i, .int .i64 op] w (RetPN (.ok n p) w) := by
  have HX := hide (fun w => HA w i hi)
  rw [hit] at HX
  have hy0 : ∃ y, s[p]'hlt = y := ⟨_, rfl⟩
  obtain ⟨y, hy0⟩ := hy0
  rw [pk_lt hlt, hy0] at h1 h2 h3 h4
  have f1 : ((y.toNat : Int) == 42) = false := by simpa using h1
  have f2 : ((y.toNat : Int) == 43) = false := by simpa using h2
  have f3 : ((y.toNat : Int) == 63) = false := by simpa using h3
  have f4 : ((y.toNat : Int) == 123) = false := by simpa using h4
  clear HA hit h1 h2 h3 h4
  go_enter Tryd.func52, Tryd.ntmps52
  go_wp2_with fail
  refine (unhide HX _).mono ?_
  rintro x w1 ⟨hb1, A, cap, rfl, hsl, hk⟩
  have hbx := res_box (T := #[.int .i64 (n.kind), .int .u64 ((n.set).a.toNat : Int), .int .u64 ((n.set).b.toNat : Int), .int .u64 ((n.set).c.toNat : Int), .int .u64 ((n.set).d.toNat : Int), .slice (A) (n.kids.length) (cap), .int .i64 (n.min), .int .i64 (n.max), .int .u64 0, .int .u64 0, .int .u64 0, .int .u64 0, .bool false, .int .i64 ((p : Nat)), .int .i64 0, .int .i64 0]) (t := 56) hb1
  have HK := hid_mk (fun ds => kids_box (T := #[.int .i64 (n.kind), .int .u64 ((n.set).a.toNat : Int), .int .u64 ((n.set).b.toNat : Int), .int .u64 ((n.set).c.toNat : Int), .int .u64 ((n.set).d.toNat : Int), .slice (A) (n.kids.length) (cap), .int .i64 (n.min), .int .i64 (n.max), .int .u64 0, .int .u64 0, .int .u64 0, .int .u64 0, .bool false, .int .i64 ((p : Nat)), .int .i64 0, .int .i64 0]) (tt := 56) hbx.2.2 hk ds)
  clear hb1 hk
  (go_wp2_with (first | (refine load_row 56 rfl _ rfl (w1.heap.size) _ 56 hbx.2.1 rfl _ Tryd.underlying56 rfl (by kernel_rfl) ?_) | (refine store_row 56 rfl _ _ rfl w.heap.size _ _ 56 hbx.1.1 rfl rfl (by kernel_rfl) rfl rfl ?_)); refine ret_row rfl w.heap.size _ _ hbx.1.1.row rfl _ Tryd.underlying56 rfl ?_ rfl ?_; (kernel_rfl); (exact ⟨below_row hbx.1.2 (Nat.le_refl _) _, ⟨A, cap, rfl, hsl, HK.out _⟩⟩))
theorem rpiece_123 (s : ByteArray) (op : Int) (atm : Nat → Res Node) (HA : RAtomOk s op atm) (i : Nat) (w : World) (hs : s.size ≤ 1000) (hi : i ≤ s.size) (n : Node) (p : Nat) (hit : atm i = .ok n p) (hc : Rx.pk s.data.toList p = 123) (R : Res Node) (hR : brcOf s.data.toList n (Rx.brc s.data.toList (p + 1)) = R) (hne : R ≠ .out) :
    Calls Tryd.prog 52 #[.string s, .int .i64 i, .int .i64 op] w (RetPN R w) := by
  have HX := hide (fun w => HA w i hi)
  rw [hit] at HX
  have hlt : p < s.size := by simpa using pk_in (l := s.data.toList) (i := p) (by rw [hc]; decide)
  have HBR := hide (fun A cap G V hG hsl hk => rbraces_any s n A cap p G V hG hsl hk hs hlt)
  rw [hR] at HBR
  have hy0 : ∃ y, s[p]'hlt = y := ⟨_, rfl⟩
  obtain ⟨y, hy0⟩ := hy0
  have hyn : y.toNat = 123 := by rw [pk_lt hlt, hy0] at hc; omega
  have f1 : ((y.toNat : Int) == 42) = false := by rw [hyn]; rfl
  have f2 : ((y.toNat : Int) == 43) = false := by rw [hyn]; rfl
  have f3 : ((y.toNat : Int) == 63) = false := by rw [hyn]; rfl
  have f4 : ((y.toNat : Int) == 123) = true := by rw [hyn]; rfl
  clear HA hit hc hyn hR
  go_enter Tryd.func52, Tryd.ntmps52
  go_wp2_with fail
  refine (unhide HX _).mono ?_
  rintro x w1 ⟨hb1, A, cap, rfl, hsl, hk⟩
  have hbx := res_box (T := #[.int .i64 (n.kind), .int .u64 ((n.set).a.toNat : Int), .int .u64 ((n.set).b.toNat : Int), .int .u64 ((n.set).c.toNat : Int), .int .u64 ((n.set).d.toNat : Int), .slice (A) (n.kids.length) (cap), .int .i64 (n.min), .int .i64 (n.max), .int .u64 0, .int .u64 0, .int .u64 0, .int .u64 0, .bool false, .int .i64 ((p : Nat)), .int .i64 0, .int .i64 0]) (t := 56) hb1
  have hk1 := kidsAt_keep (G' := New (zpW w) w1) (below_keeps ((Below.refl w1.heap.size w1).alloc (Nat.le_refl _) (.cells #[.int .i64 (n.kind), .int .u64 ((n.set).a.toNat : Int), .int .u64 ((n.set).b.toNat : Int), .int .u64 ((n.set).c.toNat : Int), .int .u64 ((n.set).d.toNat : Int), .slice (A) (n.kids.length) (cap), .int .i64 (n.min), .int .i64 (n.max), .int .u64 0, .int .u64 0, .int .u64 0, .int .u64 0, .bool false, .int .i64 ((p : Nat)), .int .i64 0, .int .i64 0] 56)) (fun b hb => hb.2)) (fun b h => h) hk
  have HK := hid_mk hk1
  clear hb1 hk hk1
  go_wp2_with fail
  refine (unhide HBR A cap (New (zpW w) w1) _ (fun b hb => by have := hb.2; simp; omega) hsl HK.out).mono ?_
  rintro x w3 ⟨hb3, hpost⟩
  have hr3 := And.intro (hbx.1.1.call hb3) (hbx.1.2.trans (hb3.mono hbx.1.2.size))
  cases R with
  | out => exact absurd rfl hne
  | bad e q =>
    obtain ⟨he, at_, rfl⟩ := hpost
    clear hb3
    (go_wp2_with (refine store_row 56 rfl _ _ rfl w.heap.size _ _ 56 hr3.1 rfl rfl (by kernel_rfl) rfl rfl ?_); refine ret_row rfl w.heap.size _ _ hr3.1.row rfl _ Tryd.underlying56 rfl ?_ rfl ?_; (kernel_rfl); (exact ⟨below_row hr3.2 (Nat.le_refl _) _, ⟨he, at_, rfl⟩⟩))
  | ok m q =>
    obtain ⟨A2, cap2, rfl, hsl2, hk2⟩ := hpost
    have hK2 : Hid (∀ ds, KidsAt (New w (w3.setRow w.heap.size ds)) (w3.setRow w.heap.size ds) A2 m.kids) := hid_mk (fun ds => by
      have hz := hb3.size
      have hw := hbx.2.2
      simp at hz
      refine kidsAt_keep (w := w3) (fun b hb => setRow_other w3 _ ds ?_) (fun b hb => ?_) hk2
      · rcases hb with h1 | h1
        · have := h1.1; simp [zpW] at this; omega
        · have := h1.1; simp at this; omega
      · unfold New
        rw [setRow_size]
        rcases hb with h1 | h1
        · have h2 := h1.1; have h3 := h1.2; simp [zpW] at h2; exact ⟨by omega, by omega⟩
        · have h2 := h1.1; simp at h2; exact ⟨by omega, h1.2⟩)
    clear hb3 hk2
    (go_wp2_with (refine store_row 56 rfl _ _ rfl w.heap.size _ _ 56 hr3.1 rfl rfl (by kernel_rfl) rfl rfl ?_); refine ret_row rfl w.heap.size _ _ hr3.1.row rfl _ Tryd.underlying56 rfl ?_ rfl ?_; (kernel_rfl); (exact ⟨below_row hr3.2 (Nat.le_refl _) _, ⟨A2, cap2, rfl, hsl2, hK2.out _⟩⟩))
end Go.Proofs.YthgcefppeaopkaaDoor
