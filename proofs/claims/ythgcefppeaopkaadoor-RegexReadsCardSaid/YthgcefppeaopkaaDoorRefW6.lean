/- Walks over the reference's pattern reader: classes. -/
import Derived.Test.YthgcefppeaopkaaDoorRefW5
namespace Go.Proofs.YthgcefppeaopkaaDoor
open Go Go.RowKit Go.Sort
set_option maxRecDepth 100000
set_option linter.unusedSimpArgs false
set_option linter.unusedVariables false
set_option maxHeartbeats 1000000
/-- the reference hands back a tree, or a fault -/
def RetPN (r : Res Node) (w : World) (x : Ending) (w' : World) : Prop := Below w.heap.size w w' ∧ match r with
  | .ok n p => ∃ (A : Option Addr) (cap : Nat), x = .returned (.agg #[.int .i64 (n.kind), .int .u64 ((n.set).a.toNat : Int), .int .u64 ((n.set).b.toNat : Int), .int .u64 ((n.set).c.toNat : Int), .int .u64 ((n.set).d.toNat : Int), .slice (A) (n.kids.length) (cap), .int .i64 (n.min), .int .i64 (n.max), .int .u64 0, .int .u64 0, .int .u64 0, .int .u64 0, .bool false, .int .i64 ((p : Nat)), .int .i64 0, .int .i64 0]) ∧ SlOk A n.kids.length cap ∧ KidsAt (New w w') w' A n.kids
  | .bad e p => e ≠ 0 ∧ ∃ at_ : Int, x = .returned (.agg #[.int .i64 0, .int .u64 0, .int .u64 0, .int .u64 0, .int .u64 0, .slice none 0 0, .int .i64 0, .int .i64 0, .int .u64 0, .int .u64 0, .int .u64 0, .int .u64 0, .bool false, .int .i64 (at_), .int .i64 (e), .int .i64 ((p : Nat))])
  | .out => True
theorem retPN_set {S : CSet} {p : Nat} {w w' : World} (h : Below w.heap.size w w') : RetPN (.ok (.mk 1 S [] 0 0) p) w (.returned (.agg #[.int .i64 1, .int .u64 ((S).a.toNat : Int), .int .u64 ((S).b.toNat : Int), .int .u64 ((S).c.toNat : Int), .int .u64 ((S).d.toNat : Int), .slice none 0 0, .int .i64 0, .int .i64 0, .int .u64 0, .int .u64 0, .int .u64 0, .int .u64 0, .bool false, .int .i64 (p : Nat), .int .i64 0, .int .i64 0])) w' :=
  ⟨h, none, 0, rfl, SlOk.none_, fun h => absurd h (by simp [Node.kids])⟩
def nodeOf : Res CSet → Res Node
  | .ok S p => .ok (.mk 1 S [] 0 0) p
  | .bad e p => .bad e p
  | .out => .out
/-- at a round's head: the set so far lies in block g, the last item's in block h -/
def RClsAt (s : ByteArray) (g h : Nat) (w : World) (R : Res CSet) (v : Value) (wr : World) : Prop :=
  ∃ (S : CSet) (k f : Nat) (cs : Array Value), v = .int .i64 (k : Nat) ∧ cs.size = 16 ∧ Blk wr g #[.int .u64 ((S).a.toNat : Int), .int .u64 ((S).b.toNat : Int), .int .u64 ((S).c.toNat : Int), .int .u64 ((S).d.toNat : Int)] 25 ∧ Blk wr h cs 56 ∧ Blk wr w.heap.size #[.int .i64 0, .int .u64 0, .int .u64 0, .int .u64 0, .int .u64 0, .slice none 0 0, .int .i64 0, .int .i64 0, .int .u64 0, .int .u64 0, .int .u64 0, .int .u64 0, .bool false, .int .i64 (0), .int .i64 (0), .int .i64 (0)] 56 ∧ Below w.heap.size w wr ∧ k ≤ s.size ∧ s.size < k + f ∧ R = itemsOf s.data.toList k false S f
theorem rcls_start {l : List UInt8} {i : Nat} {nt : Bool} (h : decide (Rx.pk l i = 94) = nt) {T : CSet} {q : Nat} (hr : Rx.item l (if nt = true then i + 1 else i) = .ok T q) : Rx.cls l i = clsOf nt (itemsOf l q false T l.length) := by
  rw [cls_eq l i nt h, itemsOf_next (by simp) hr, CSet.empty_or]
theorem rcls_bad {l : List UInt8} {i : Nat} {nt : Bool} (h : decide (Rx.pk l i = 94) = nt) {e : Int} {q : Nat} (hr : Rx.item l (if nt = true then i + 1 else i) = .bad e q) : Rx.cls l i = .bad e q := by
  rw [cls_eq l i nt h, itemsOf_bad (by simp) hr]
  rfl
theorem rcls_done {p : Nat} {S : CSet} {nt : Bool} {R RR : Res CSet} (h : RR = clsOf nt R) (hR : R = .ok S p) : RR = .ok (if nt = true then S.not else S) (p + 1) := by rw [h, hR]; rfl
theorem rcls_fail {p : Nat} {e : Int} {nt : Bool} {R RR : Res CSet} (h : RR = clsOf nt R) (hR : R = .bad e p) : RR = .bad e p := by rw [h, hR]; rfl
theorem rclass_bad_true (s : ByteArray) (i : Nat) (w : World) (hs : s.size ≤ 1000) (hi : i ≤ 1300) (hnt : decide (Rx.pk s.data.toList i = 94) = true) (e : Int) (q : Nat) (hr : Rx.item s.data.toList (i + 1) = .bad e q) :
    Calls Tryd.prog 67 #[.string s, .int .i64 i] w (RetPN (nodeOf (Rx.cls s.data.toList i)) w) := by
  have HC := hid_mk (rcls_bad hnt hr)
  have HI := hide (fun w => ritem_any s (i + 1) w hs (by omega))
  have HIS := hide (fun w => ris_any s i 94 w hs (by omega) (by decide))
  have hn2 : decide (Rx.pk s.data.toList i = ((94 : Nat) : Int)) = true := hnt
  rw [hn2] at HIS
  rw [hr] at HI
  rw [HC.out]
  clear HC hn2 hnt hr
  go_enter Tryd.func67, Tryd.ntmps67
  go_wp2_with fail
  refine (unhide HIS _).mono ?_
  rintro x w1 ⟨rfl, rfl⟩
  go_wp2_with fail
  refine (unhide HI _).mono ?_
  rintro x w1 ⟨hb1, hne, rfl⟩
  have hbx := res_box (T := #[.int .i64 0, .int .u64 0, .int .u64 0, .int .u64 0, .int .u64 0, .slice none 0 0, .int .i64 0, .int .i64 0, .int .u64 0, .int .u64 0, .int .u64 0, .int .u64 0, .bool false, .int .i64 (0), .int .i64 (e), .int .i64 ((q : Nat))]) (t := 56) hb1
  have hne2 : (e != 0) = true := by simpa using hne
  clear hb1
  (go_wp2_with (first | (refine load_row 56 rfl _ rfl (w1.heap.size) _ 56 hbx.2.1 rfl _ Tryd.underlying56 rfl (by kernel_rfl) ?_) | (refine store_row 56 rfl _ _ rfl w.heap.size _ _ 56 hbx.1.1 rfl rfl (by kernel_rfl) rfl rfl ?_)); refine ret_row rfl w.heap.size _ _ hbx.1.1.row rfl _ Tryd.underlying56 rfl ?_ rfl ?_; (kernel_rfl); (exact ⟨below_row hbx.1.2 (Nat.le_refl _) _, ⟨hne, 0, rfl⟩⟩))
theorem rclass_ok_true (s : ByteArray) (i : Nat) (w : World) (hs : s.size ≤ 1000) (hi : i ≤ 1300) (hnt : decide (Rx.pk s.data.toList i = 94) = true) (T : CSet) (q : Nat) (hr : Rx.item s.data.toList (i + 1) = .ok T q) :
    Calls Tryd.prog 67 #[.string s, .int .i64 i] w (RetPN (nodeOf (Rx.cls s.data.toList i)) w) := by
  have HC0 := rcls_start hnt hr
  rw [len_data] at HC0
  obtain ⟨R, hR⟩ : ∃ R, R = itemsOf s.data.toList q false T s.size := ⟨_, rfl⟩
  rw [← hR] at HC0
  have hq := fine_item s.data.toList (i + 1)
  rw [hr] at hq
  have hq2 : i + 1 < q ∧ q ≤ s.size := by have := hq.1; have := hq.2; simp at *; omega
  obtain ⟨RR, hRR⟩ : ∃ RR, RR = Rx.cls s.data.toList i := ⟨_, rfl⟩
  rw [← hRR] at HC0 ⊢
  have HC := hid_mk HC0
  have HRI := hid_mk hR
  have HI := hide (fun w => ritem_any s (i + 1) w hs (by omega))
  have HIK := hide (fun k (hk : k ≤ s.size) w => ritem_any s k w hs (by omega))
  have HISK := hide (fun k (hk : k ≤ s.size) w => ris_any s k 93 w hs (by omega) (by decide))
  have HIS := hide (fun w => ris_any s i 94 w hs (by omega) (by decide))
  have hn2 : decide (Rx.pk s.data.toList i = ((94 : Nat) : Int)) = true := hnt
  rw [hn2] at HIS
  rw [hr] at HI
  clear HC0 hn2 hnt hr hR hRR hq
  go_enter Tryd.func67, Tryd.ntmps67
  go_wp2_with fail
  refine (unhide HIS _).mono ?_
  rintro x w1 ⟨rfl, rfl⟩
  go_wp2_with fail
  refine (unhide HI _).mono ?_
  rintro x w1 ⟨hb1, many, rfl⟩
  have hbx := res_box (T := #[.int .i64 0, .int .u64 0, .int .u64 0, .int .u64 0, .int .u64 0, .slice none 0 0, .int .i64 0, .int .i64 0, .int .u64 ((T).a.toNat : Int), .int .u64 ((T).b.toNat : Int), .int .u64 ((T).c.toNat : Int), .int .u64 ((T).d.toNat : Int), .bool (many), .int .i64 ((q : Nat)), .int .i64 0, .int .i64 0]) (t := 56) hb1
  clear hb1
  have HX0 : Hid (RClsAt s (w1.heap.size + 1) w1.heap.size w R (.int .i64 (q : Nat)) ((w1.alloc (.cells #[.int .i64 0, .int .u64 0, .int .u64 0, .int .u64 0, .int .u64 0, .slice none 0 0, .int .i64 0, .int .i64 0, .int .u64 ((T).a.toNat : Int), .int .u64 ((T).b.toNat : Int), .int .u64 ((T).c.toNat : Int), .int .u64 ((T).d.toNat : Int), .bool (many), .int .i64 ((q : Nat)), .int .i64 0, .int .i64 0] 56)).alloc (.cells #[.int .u64 ((T).a.toNat : Int), .int .u64 ((T).b.toNat : Int), .int .u64 ((T).c.toNat : Int), .int .u64 ((T).d.toNat : Int)] 25))) := hid_mk
    ⟨T, q, s.size, _, rfl, rfl, Blk.newAt (by simp), hbx.2.1.alloc _, hbx.1.1.alloc _, hbx.1.2.alloc (by have := hbx.1.2.size; simp at *; omega) _, hq2.2, by omega, HRI.out⟩
  have hzw : w.heap.size < w1.heap.size := hbx.2.2
  clear hbx
  go_wp2
  go_loopw [1] (fun v wr => RClsAt s (w1.heap.size + 1) w1.heap.size w R v wr) (fun v _ => s.size - (intOf v).toNat)
  case atStart => exact HX0.out
  case round =>
    clear HX0 HRI HI HIS
    obtain ⟨S, k, f, cs, rfl, hcs, hS, hbox, hres, hbw, hk, hf, he⟩ := hrel
    have hlg : w1.heap.size + 1 < wr.heap.size := hS.lt
    have HPB := hid_mk hbox
    have HSB := hid_mk hS
    have HRB := hid_mk hres
    have HBW := hid_mk hbw
    have HE0 := hid_mk he
    have HP := hide (unhide HISK k hk wr)
    clear hS hbox hres hbw he
    by_cases h93 : Rx.pk s.data.toList k = 93
    · have HE := hid_mk (rcls_done HC.out (HE0.out.trans (itemsOf_stop h93)))
      rw [decide_eq_true (show Rx.pk s.data.toList k = ((93 : Nat) : Int) from h93)] at HP
      clear h93 HE0
      go_wp2_with fail
      refine (unhide HP).mono ?_
      rintro x w2 ⟨rfl, rfl⟩
      have hb9 := HBW.out
      have hS2 := HSB.out
      go_wp2_with (refine load_row 25 rfl _ rfl (w1.heap.size + 1) _ 25 hS2 rfl _ Tryd.underlying25 rfl (by kernel_rfl) ?_)
      refine (rnot_any S _).mono ?_
      rintro x w3 ⟨rfl, hb3⟩
      have hS3 := hS2.call hb3
      have hS4 : Blk (w3.setRow (w1.heap.size + 1) #[.int .u64 ((S.not).a.toNat : Int), .int .u64 ((S.not).b.toNat : Int), .int .u64 ((S.not).c.toNat : Int), .int .u64 ((S.not).d.toNat : Int)]) (w1.heap.size + 1) #[.int .u64 ((S.not).a.toNat : Int), .int .u64 ((S.not).b.toNat : Int), .int .u64 ((S.not).c.toNat : Int), .int .u64 ((S.not).d.toNat : Int)] 25 := hS3.row
      have hr4 : Blk (w3.setRow (w1.heap.size + 1) #[.int .u64 ((S.not).a.toNat : Int), .int .u64 ((S.not).b.toNat : Int), .int .u64 ((S.not).c.toNat : Int), .int .u64 ((S.not).d.toNat : Int)]) w.heap.size #[.int .i64 0, .int .u64 0, .int .u64 0, .int .u64 0, .int .u64 0, .slice none 0 0, .int .i64 0, .int .i64 0, .int .u64 0, .int .u64 0, .int .u64 0, .int .u64 0, .bool false, .int .i64 (0), .int .i64 (0), .int .i64 (0)] 56 ∧ Below w.heap.size w (w3.setRow (w1.heap.size + 1) #[.int .u64 ((S.not).a.toNat : Int), .int .u64 ((S.not).b.toNat : Int), .int .u64 ((S.not).c.toNat : Int), .int .u64 ((S.not).d.toNat : Int)]) := ⟨(HRB.out.call hb3).rowFar (by omega) _, below_row (hb9.trans (hb3.mono hb9.size)) (by omega) _⟩
      clear hb3 hb9 hS2
      go_wp2_with (first | (refine store_row 25 rfl _ _ rfl (w1.heap.size + 1) _ _ 25 hS3 rfl rfl (by kernel_rfl) rfl rfl ?_) | (refine load_row 25 rfl _ rfl (w1.heap.size + 1) _ 25 hS4 rfl _ Tryd.underlying25 rfl (by kernel_rfl) ?_) | (refine store_row 56 rfl _ _ rfl w.heap.size _ _ 56 hr4.1 rfl rfl (by kernel_rfl) rfl rfl ?_))
      refine ret_row rfl w.heap.size _ _ hr4.1.row rfl _ Tryd.underlying56 rfl ?_ rfl ?_
      · kernel_rfl
      · rw [HE.out]
        exact retPN_set (S := S.not) (below_row hr4.2 (Nat.le_refl _) _)
    · have hf1 : ∃ f', f = f' + 1 := ⟨f - 1, by omega⟩
      obtain ⟨f', rfl⟩ := hf1
      have hfi := fine_item s.data.toList k
      have HIT := hide (unhide HIK k hk wr)
      rw [decide_eq_false (show ¬ Rx.pk s.data.toList k = ((93 : Nat) : Int) from h93)] at HP
      cases hit : Rx.item s.data.toList k with
      | out => rw [hit] at hfi; exact hfi.elim
      | bad e p =>
        have HE := hid_mk (rcls_fail HC.out (HE0.out.trans (itemsOf_bad (fun h => h93 h.2) hit)))
        rw [hit] at HIT
        clear hit hfi h93 HE0
        go_wp2_with fail
        refine (unhide HP).mono ?_
        rintro x w2 ⟨rfl, rfl⟩
        go_wp2_with fail
        refine (unhide HIT).mono ?_
        rintro x w3 ⟨hb3, hne, rfl⟩
        have hne2 : (e != 0) = true := by simpa using hne
        have hbox3 := HPB.out.call hb3
        have hbox4 : Blk (w3.setRow w1.heap.size #[.int .i64 0, .int .u64 0, .int .u64 0, .int .u64 0, .int .u64 0, .slice none 0 0, .int .i64 0, .int .i64 0, .int .u64 0, .int .u64 0, .int .u64 0, .int .u64 0, .bool false, .int .i64 (0), .int .i64 (e), .int .i64 ((p : Nat))]) w1.heap.size #[.int .i64 0, .int .u64 0, .int .u64 0, .int .u64 0, .int .u64 0, .slice none 0 0, .int .i64 0, .int .i64 0, .int .u64 0, .int .u64 0, .int .u64 0, .int .u64 0, .bool false, .int .i64 (0), .int .i64 (e), .int .i64 ((p : Nat))] 56 := hbox3.row
        have hr4 : Blk (w3.setRow w1.heap.size #[.int .i64 0, .int .u64 0, .int .u64 0, .int .u64 0, .int .u64 0, .slice none 0 0, .int .i64 0, .int .i64 0, .int .u64 0, .int .u64 0, .int .u64 0, .int .u64 0, .bool false, .int .i64 (0), .int .i64 (e), .int .i64 ((p : Nat))]) w.heap.size #[.int .i64 0, .int .u64 0, .int .u64 0, .int .u64 0, .int .u64 0, .slice none 0 0, .int .i64 0, .int .i64 0, .int .u64 0, .int .u64 0, .int .u64 0, .int .u64 0, .bool false, .int .i64 (0), .int .i64 (0), .int .i64 (0)] 56 ∧ Below w.heap.size w (w3.setRow w1.heap.size #[.int .i64 0, .int .u64 0, .int .u64 0, .int .u64 0, .int .u64 0, .slice none 0 0, .int .i64 0, .int .i64 0, .int .u64 0, .int .u64 0, .int .u64 0, .int .u64 0, .bool false, .int .i64 (0), .int .i64 (e), .int .i64 ((p : Nat))]) := ⟨(HRB.out.call hb3).rowFar (by omega) _, below_row (HBW.out.trans (hb3.mono HBW.out.size)) (by omega) _⟩
        have c14 : (w3.setRow w1.heap.size #[.int .i64 0, .int .u64 0, .int .u64 0, .int .u64 0, .int .u64 0, .slice none 0 0, .int .i64 0, .int .i64 0, .int .u64 0, .int .u64 0, .int .u64 0, .int .u64 0, .bool false, .int .i64 (0), .int .i64 (e), .int .i64 ((p : Nat))]).cell? ⟨w1.heap.size, 14, none⟩ = some (.int .i64 e) := hbox4.cell 14
        have hcs3 : cs.size = 16 := hcs
        clear hb3
        go_wp2_with (first | (refine store_row 56 rfl _ _ rfl w1.heap.size _ cs 56 hbox3 rfl rfl (by kernel_rfl) hcs3 rfl ?_) | (refine load_row 56 rfl _ rfl w1.heap.size _ 56 hbox4 rfl _ Tryd.underlying56 rfl (by kernel_rfl) ?_) | (refine store_row 56 rfl _ _ rfl w.heap.size _ _ 56 hr4.1 rfl rfl (by kernel_rfl) rfl rfl ?_))
        refine ret_row rfl w.heap.size _ _ hr4.1.row rfl _ Tryd.underlying56 rfl ?_ rfl ?_
        · kernel_rfl
        · exact ⟨below_row hr4.2 (Nat.le_refl _) _, by rw [HE.out]; exact ⟨hne, 0, rfl⟩⟩
      | ok T2 p =>
        have HX := hid_mk (HE0.out.trans (itemsOf_next (fun h => h93 h.2) hit))
        rw [hit] at HIT hfi
        have hkp : k < p ∧ p ≤ s.size := by have := hfi.1; have := hfi.2; simp at *; omega
        clear hit hfi h93 HE0
        go_wp2_with fail
        refine (unhide HP).mono ?_
        rintro x w2 ⟨rfl, rfl⟩
        go_wp2_with fail
        refine (unhide HIT).mono ?_
        rintro x w3 ⟨hb3, many2, rfl⟩
        have hbox3 := HPB.out.call hb3
        have hbox4 : Blk (w3.setRow w1.heap.size #[.int .i64 0, .int .u64 0, .int .u64 0, .int .u64 0, .int .u64 0, .slice none 0 0, .int .i64 0, .int .i64 0, .int .u64 ((T2).a.toNat : Int), .int .u64 ((T2).b.toNat : Int), .int .u64 ((T2).c.toNat : Int), .int .u64 ((T2).d.toNat : Int), .bool (many2), .int .i64 ((p : Nat)), .int .i64 0, .int .i64 0]) w1.heap.size #[.int .i64 0, .int .u64 0, .int .u64 0, .int .u64 0, .int .u64 0, .slice none 0 0, .int .i64 0, .int .i64 0, .int .u64 ((T2).a.toNat : Int), .int .u64 ((T2).b.toNat : Int), .int .u64 ((T2).c.toNat : Int), .int .u64 ((T2).d.toNat : Int), .bool (many2), .int .i64 ((p : Nat)), .int .i64 0, .int .i64 0] 56 := hbox3.row
        have hS4 := (HSB.out.call hb3).rowFar (g' := w1.heap.size) (by omega) #[.int .i64 0, .int .u64 0, .int .u64 0, .int .u64 0, .int .u64 0, .slice none 0 0, .int .i64 0, .int .i64 0, .int .u64 ((T2).a.toNat : Int), .int .u64 ((T2).b.toNat : Int), .int .u64 ((T2).c.toNat : Int), .int .u64 ((T2).d.toNat : Int), .bool (many2), .int .i64 ((p : Nat)), .int .i64 0, .int .i64 0]
        have hr4 : Blk (w3.setRow w1.heap.size #[.int .i64 0, .int .u64 0, .int .u64 0, .int .u64 0, .int .u64 0, .slice none 0 0, .int .i64 0, .int .i64 0, .int .u64 ((T2).a.toNat : Int), .int .u64 ((T2).b.toNat : Int), .int .u64 ((T2).c.toNat : Int), .int .u64 ((T2).d.toNat : Int), .bool (many2), .int .i64 ((p : Nat)), .int .i64 0, .int .i64 0]) w.heap.size #[.int .i64 0, .int .u64 0, .int .u64 0, .int .u64 0, .int .u64 0, .slice none 0 0, .int .i64 0, .int .i64 0, .int .u64 0, .int .u64 0, .int .u64 0, .int .u64 0, .bool false, .int .i64 (0), .int .i64 (0), .int .i64 (0)] 56 ∧ Below w.heap.size w (w3.setRow w1.heap.size #[.int .i64 0, .int .u64 0, .int .u64 0, .int .u64 0, .int .u64 0, .slice none 0 0, .int .i64 0, .int .i64 0, .int .u64 ((T2).a.toNat : Int), .int .u64 ((T2).b.toNat : Int), .int .u64 ((T2).c.toNat : Int), .int .u64 ((T2).d.toNat : Int), .bool (many2), .int .i64 ((p : Nat)), .int .i64 0, .int .i64 0]) := ⟨(HRB.out.call hb3).rowFar (by omega) _, below_row (HBW.out.trans (hb3.mono HBW.out.size)) (by omega) _⟩
        have c14 : (w3.setRow w1.heap.size #[.int .i64 0, .int .u64 0, .int .u64 0, .int .u64 0, .int .u64 0, .slice none 0 0, .int .i64 0, .int .i64 0, .int .u64 ((T2).a.toNat : Int), .int .u64 ((T2).b.toNat : Int), .int .u64 ((T2).c.toNat : Int), .int .u64 ((T2).d.toNat : Int), .bool (many2), .int .i64 ((p : Nat)), .int .i64 0, .int .i64 0]).cell? ⟨w1.heap.size, 14, none⟩ = some (.int .i64 0) := hbox4.cell 14
        (have c0 : (w3.setRow w1.heap.size #[.int .i64 0, .int .u64 0, .int .u64 0, .int .u64 0, .int .u64 0, .slice none 0 0, .int .i64 0, .int .i64 0, .int .u64 ((T2).a.toNat : Int), .int .u64 ((T2).b.toNat : Int), .int .u64 ((T2).c.toNat : Int), .int .u64 ((T2).d.toNat : Int), .bool (many2), .int .i64 ((p : Nat)), .int .i64 0, .int .i64 0]).cell? ⟨w1.heap.size, 8, none⟩ = some (.int .u64 ((T2).a.toNat : Int)) := hbox4.cell 8; have c1 : (w3.setRow w1.heap.size #[.int .i64 0, .int .u64 0, .int .u64 0, .int .u64 0, .int .u64 0, .slice none 0 0, .int .i64 0, .int .i64 0, .int .u64 ((T2).a.toNat : Int), .int .u64 ((T2).b.toNat : Int), .int .u64 ((T2).c.toNat : Int), .int .u64 ((T2).d.toNat : Int), .bool (many2), .int .i64 ((p : Nat)), .int .i64 0, .int .i64 0]).cell? ⟨w1.heap.size, 9, none⟩ = some (.int .u64 ((T2).b.toNat : Int)) := hbox4.cell 9; have c2 : (w3.setRow w1.heap.size #[.int .i64 0, .int .u64 0, .int .u64 0, .int .u64 0, .int .u64 0, .slice none 0 0, .int .i64 0, .int .i64 0, .int .u64 ((T2).a.toNat : Int), .int .u64 ((T2).b.toNat : Int), .int .u64 ((T2).c.toNat : Int), .int .u64 ((T2).d.toNat : Int), .bool (many2), .int .i64 ((p : Nat)), .int .i64 0, .int .i64 0]).cell? ⟨w1.heap.size, 10, none⟩ = some (.int .u64 ((T2).c.toNat : Int)) := hbox4.cell 10; have c3 : (w3.setRow w1.heap.size #[.int .i64 0, .int .u64 0, .int .u64 0, .int .u64 0, .int .u64 0, .slice none 0 0, .int .i64 0, .int .i64 0, .int .u64 ((T2).a.toNat : Int), .int .u64 ((T2).b.toNat : Int), .int .u64 ((T2).c.toNat : Int), .int .u64 ((T2).d.toNat : Int), .bool (many2), .int .i64 ((p : Nat)), .int .i64 0, .int .i64 0]).cell? ⟨w1.heap.size, 11, none⟩ = some (.int .u64 ((T2).d.toNat : Int)) := hbox4.cell 11)
        have hcs3 : cs.size = 16 := hcs
        clear hb3
        go_wp2_with (first | (refine store_row 56 rfl _ _ rfl w1.heap.size _ cs 56 hbox3 rfl rfl (by kernel_rfl) hcs3 rfl ?_) | (refine load_row 25 rfl _ rfl (w1.heap.size + 1) _ 25 hS4 rfl _ Tryd.underlying25 rfl (by kernel_rfl) ?_))
        refine (ror_any S T2 _).mono ?_
        rintro x w5 ⟨rfl, hb5⟩
        have hS5 := hS4.call hb5
        have hbox5 := (hbox4.call hb5).rowFar (g' := w1.heap.size + 1) (by omega) #[.int .u64 ((S.or T2).a.toNat : Int), .int .u64 ((S.or T2).b.toNat : Int), .int .u64 ((S.or T2).c.toNat : Int), .int .u64 ((S.or T2).d.toNat : Int)]
        have hr5 := (hr4.1.call hb5).rowFar (g' := w1.heap.size + 1) (by omega) #[.int .u64 ((S.or T2).a.toNat : Int), .int .u64 ((S.or T2).b.toNat : Int), .int .u64 ((S.or T2).c.toNat : Int), .int .u64 ((S.or T2).d.toNat : Int)]
        have hw5 := below_row (hr4.2.trans (hb5.mono hr4.2.size)) (g := w1.heap.size + 1) (by omega) #[.int .u64 ((S.or T2).a.toNat : Int), .int .u64 ((S.or T2).b.toNat : Int), .int .u64 ((S.or T2).c.toNat : Int), .int .u64 ((S.or T2).d.toNat : Int)]
        have c13 : (w5.setRow (w1.heap.size + 1) #[.int .u64 ((S.or T2).a.toNat : Int), .int .u64 ((S.or T2).b.toNat : Int), .int .u64 ((S.or T2).c.toNat : Int), .int .u64 ((S.or T2).d.toNat : Int)]).cell? ⟨w1.heap.size, 13, none⟩ = some (.int .i64 (p : Nat)) := hbox5.cell 13
        have HR5 := hid_mk (And.intro hbox5 (And.intro hr5 hw5))
        clear hb5 hr5 hw5 hbox5 c0 c1 c2 c3 c14 hbox4 hbox3 hS4 hr4
        go_wp2_with (refine store_row 25 rfl _ _ rfl (w1.heap.size + 1) _ _ 25 hS5 rfl rfl (by kernel_rfl) rfl rfl ?_)
        go_roundw
        case rel => exact ⟨S.or T2, p, f', _, rfl, rfl, hS5.row, HR5.out.1, HR5.out.2.1, HR5.out.2.2, hkp.2, by omega, HX.out⟩
        case measure => simp [intOf]; omega
theorem rclass_bad_false (s : ByteArray) (i : Nat) (w : World) (hs : s.size ≤ 1000) (hi : i ≤ 1300) (hnt : decide (Rx.pk s.data.toList i = 94) = false) (e : Int) (q : Nat) (hr : Rx.item s.data.toList (i) = .bad e q) :
    Calls Tryd.prog 67 #[.string s, .int .i64 i] w (RetPN (nodeOf (Rx.cls s.data.toList i)) w) := by
  have HC := hid_mk (rcls_bad hnt hr)
  have HI := hide (fun w => ritem_any s (i) w hs (by omega))
  have HIS := hide (fun w => ris_any s i 94 w hs (by omega) (by decide))
  have hn2 : decide (Rx.pk s.data.toList i = ((94 : Nat) : Int)) = false := hnt
  rw [hn2] at HIS
  rw [hr] at HI
  rw [HC.out]
  clear HC hn2 hnt hr
  go_enter Tryd.func67, Tryd.ntmps67
  go_wp2_with fail
  refine (unhide HIS _).mono ?_
  rintro x w1 ⟨rfl, rfl⟩
  go_wp2_with fail
  refine (unhide HI _).mono ?_
  rintro x w1 ⟨hb1, hne, rfl⟩
  have hbx := res_box (T := #[.int .i64 0, .int .u64 0, .int .u64 0, .int .u64 0, .int .u64 0, .slice none 0 0, .int .i64 0, .int .i64 0, .int .u64 0, .int .u64 0, .int .u64 0, .int .u64 0, .bool false, .int .i64 (0), .int .i64 (e), .int .i64 ((q : Nat))]) (t := 56) hb1
  have hne2 : (e != 0) = true := by simpa using hne
  clear hb1
  (go_wp2_with (first | (refine load_row 56 rfl _ rfl (w1.heap.size) _ 56 hbx.2.1 rfl _ Tryd.underlying56 rfl (by kernel_rfl) ?_) | (refine store_row 56 rfl _ _ rfl w.heap.size _ _ 56 hbx.1.1 rfl rfl (by kernel_rfl) rfl rfl ?_)); refine ret_row rfl w.heap.size _ _ hbx.1.1.row rfl _ Tryd.underlying56 rfl ?_ rfl ?_; (kernel_rfl); (exact ⟨below_row hbx.1.2 (Nat.le_refl _) _, ⟨hne, 0, rfl⟩⟩))
theorem rclass_ok_false (s : ByteArray) (i : Nat) (w : World) (hs : s.size ≤ 1000) (hi : i ≤ 1300) (hnt : decide (Rx.pk s.data.toList i = 94) = false) (T : CSet) (q : Nat) (hr : Rx.item s.data.toList (i) = .ok T q) :
    Calls Tryd.prog 67 #[.string s, .int .i64 i] w (RetPN (nodeOf (Rx.cls s.data.toList i)) w) := by
  have HC0 := rcls_start hnt hr
  rw [len_data] at HC0
  obtain ⟨R, hR⟩ : ∃ R, R = itemsOf s.data.toList q false T s.size := ⟨_, rfl⟩
  rw [← hR] at HC0
  have hq := fine_item s.data.toList (i)
  rw [hr] at hq
  have hq2 : i < q ∧ q ≤ s.size := by have := hq.1; have := hq.2; simp at *; omega
  obtain ⟨RR, hRR⟩ : ∃ RR, RR = Rx.cls s.data.toList i := ⟨_, rfl⟩
  rw [← hRR] at HC0 ⊢
  have HC := hid_mk HC0
  have HRI := hid_mk hR
  have HI := hide (fun w => ritem_any s (i) w hs (by omega))
  have HIK := hide (fun k (hk : k ≤ s.size) w => ritem_any s k w hs (by omega))
  have HISK := hide (fun k (hk : k ≤ s.size) w => ris_any s k 93 w hs (by omega) (by decide))
  have HIS := hide (fun w => ris_any s i 94 w hs (by omega) (by decide))
  have hn2 : decide (Rx.pk s.data.toList i = ((94 : Nat) : Int)) = false := hnt
  rw [hn2] at HIS
  rw [hr] at HI
  clear HC0 hn2 hnt hr hR hRR hq
  go_enter Tryd.func67, Tryd.ntmps67
  go_wp2_with fail
  refine (unhide HIS _).mono ?_
  rintro x w1 ⟨rfl, rfl⟩
  go_wp2_with fail
  refine (unhide HI _).mono ?_
  rintro x w1 ⟨hb1, many, rfl⟩
  have hbx := res_box (T := #[.int .i64 0, .int .u64 0, .int .u64 0, .int .u64 0, .int .u64 0, .slice none 0 0, .int .i64 0, .int .i64 0, .int .u64 ((T).a.toNat : Int), .int .u64 ((T).b.toNat : Int), .int .u64 ((T).c.toNat : Int), .int .u64 ((T).d.toNat : Int), .bool (many), .int .i64 ((q : Nat)), .int .i64 0, .int .i64 0]) (t := 56) hb1
  clear hb1
  have HX0 : Hid (RClsAt s (w1.heap.size + 1) w1.heap.size w R (.int .i64 (q : Nat)) ((w1.alloc (.cells #[.int .i64 0, .int .u64 0, .int .u64 0, .int .u64 0, .int .u64 0, .slice none 0 0, .int .i64 0, .int .i64 0, .int .u64 ((T).a.toNat : Int), .int .u64 ((T).b.toNat : Int), .int .u64 ((T).c.toNat : Int), .int .u64 ((T).d.toNat : Int), .bool (many), .int .i64 ((q : Nat)), .int .i64 0, .int .i64 0] 56)).alloc (.cells #[.int .u64 ((T).a.toNat : Int), .int .u64 ((T).b.toNat : Int), .int .u64 ((T).c.toNat : Int), .int .u64 ((T).d.toNat : Int)] 25))) := hid_mk
    ⟨T, q, s.size, _, rfl, rfl, Blk.newAt (by simp), hbx.2.1.alloc _, hbx.1.1.alloc _, hbx.1.2.alloc (by have := hbx.1.2.size; simp at *; omega) _, hq2.2, by omega, HRI.out⟩
  have hzw : w.heap.size < w1.heap.size := hbx.2.2
  clear hbx
  go_wp2
  go_loopw [1] (fun v wr => RClsAt s (w1.heap.size + 1) w1.heap.size w R v wr) (fun v _ => s.size - (intOf v).toNat)
  case atStart => exact HX0.out
  case round =>
    clear HX0 HRI HI HIS
    obtain ⟨S, k, f, cs, rfl, hcs, hS, hbox, hres, hbw, hk, hf, he⟩ := hrel
    have hlg : w1.heap.size + 1 < wr.heap.size := hS.lt
    have HPB := hid_mk hbox
    have HSB := hid_mk hS
    have HRB := hid_mk hres
    have HBW := hid_mk hbw
    have HE0 := hid_mk he
    have HP := hide (unhide HISK k hk wr)
    clear hS hbox hres hbw he
    by_cases h93 : Rx.pk s.data.toList k = 93
    · have HE := hid_mk (rcls_done HC.out (HE0.out.trans (itemsOf_stop h93)))
      rw [decide_eq_true (show Rx.pk s.data.toList k = ((93 : Nat) : Int) from h93)] at HP
      clear h93 HE0
      go_wp2_with fail
      refine (unhide HP).mono ?_
      rintro x w2 ⟨rfl, rfl⟩
      have hr4 := And.intro HRB.out HBW.out
      have hS4 := HSB.out
      go_wp2_with (first | (refine load_row 25 rfl _ rfl (w1.heap.size + 1) _ 25 hS4 rfl _ Tryd.underlying25 rfl (by kernel_rfl) ?_) | (refine store_row 56 rfl _ _ rfl w.heap.size _ _ 56 hr4.1 rfl rfl (by kernel_rfl) rfl rfl ?_))
      refine ret_row rfl w.heap.size _ _ hr4.1.row rfl _ Tryd.underlying56 rfl ?_ rfl ?_
      · kernel_rfl
      · rw [HE.out]
        exact retPN_set (S := S) (below_row hr4.2 (Nat.le_refl _) _)
    · have hf1 : ∃ f', f = f' + 1 := ⟨f - 1, by omega⟩
      obtain ⟨f', rfl⟩ := hf1
      have hfi := fine_item s.data.toList k
      have HIT := hide (unhide HIK k hk wr)
      rw [decide_eq_false (show ¬ Rx.pk s.data.toList k = ((93 : Nat) : Int) from h93)] at HP
      cases hit : Rx.item s.data.toList k with
      | out => rw [hit] at hfi; exact hfi.elim
      | bad e p =>
        have HE := hid_mk (rcls_fail HC.out (HE0.out.trans (itemsOf_bad (fun h => h93 h.2) hit)))
        rw [hit] at HIT
        clear hit hfi h93 HE0
        go_wp2_with fail
        refine (unhide HP).mono ?_
        rintro x w2 ⟨rfl, rfl⟩
        go_wp2_with fail
        refine (unhide HIT).mono ?_
        rintro x w3 ⟨hb3, hne, rfl⟩
        have hne2 : (e != 0) = true := by simpa using hne
        have hbox3 := HPB.out.call hb3
        have hbox4 : Blk (w3.setRow w1.heap.size #[.int .i64 0, .int .u64 0, .int .u64 0, .int .u64 0, .int .u64 0, .slice none 0 0, .int .i64 0, .int .i64 0, .int .u64 0, .int .u64 0, .int .u64 0, .int .u64 0, .bool false, .int .i64 (0), .int .i64 (e), .int .i64 ((p : Nat))]) w1.heap.size #[.int .i64 0, .int .u64 0, .int .u64 0, .int .u64 0, .int .u64 0, .slice none 0 0, .int .i64 0, .int .i64 0, .int .u64 0, .int .u64 0, .int .u64 0, .int .u64 0, .bool false, .int .i64 (0), .int .i64 (e), .int .i64 ((p : Nat))] 56 := hbox3.row
        have hr4 : Blk (w3.setRow w1.heap.size #[.int .i64 0, .int .u64 0, .int .u64 0, .int .u64 0, .int .u64 0, .slice none 0 0, .int .i64 0, .int .i64 0, .int .u64 0, .int .u64 0, .int .u64 0, .int .u64 0, .bool false, .int .i64 (0), .int .i64 (e), .int .i64 ((p : Nat))]) w.heap.size #[.int .i64 0, .int .u64 0, .int .u64 0, .int .u64 0, .int .u64 0, .slice none 0 0, .int .i64 0, .int .i64 0, .int .u64 0, .int .u64 0, .int .u64 0, .int .u64 0, .bool false, .int .i64 (0), .int .i64 (0), .int .i64 (0)] 56 ∧ Below w.heap.size w (w3.setRow w1.heap.size #[.int .i64 0, .int .u64 0, .int .u64 0, .int .u64 0, .int .u64 0, .slice none 0 0, .int .i64 0, .int .i64 0, .int .u64 0, .int .u64 0, .int .u64 0, .int .u64 0, .bool false, .int .i64 (0), .int .i64 (e), .int .i64 ((p : Nat))]) := ⟨(HRB.out.call hb3).rowFar (by omega) _, below_row (HBW.out.trans (hb3.mono HBW.out.size)) (by omega) _⟩
        have c14 : (w3.setRow w1.heap.size #[.int .i64 0, .int .u64 0, .int .u64 0, .int .u64 0, .int .u64 0, .slice none 0 0, .int .i64 0, .int .i64 0, .int .u64 0, .int .u64 0, .int .u64 0, .int .u64 0, .bool false, .int .i64 (0), .int .i64 (e), .int .i64 ((p : Nat))]).cell? ⟨w1.heap.size, 14, none⟩ = some (.int .i64 e) := hbox4.cell 14
        have hcs3 : cs.size = 16 := hcs
        clear hb3
        go_wp2_with (first | (refine store_row 56 rfl _ _ rfl w1.heap.size _ cs 56 hbox3 rfl rfl (by kernel_rfl) hcs3 rfl ?_) | (refine load_row 56 rfl _ rfl w1.heap.size _ 56 hbox4 rfl _ Tryd.underlying56 rfl (by kernel_rfl) ?_) | (refine store_row 56 rfl _ _ rfl w.heap.size _ _ 56 hr4.1 rfl rfl (by kernel_rfl) rfl rfl ?_))
        refine ret_row rfl w.heap.size _ _ hr4.1.row rfl _ Tryd.underlying56 rfl ?_ rfl ?_
        · kernel_rfl
        · exact ⟨below_row hr4.2 (Nat.le_refl _) _, by rw [HE.out]; exact ⟨hne, 0, rfl⟩⟩
      | ok T2 p =>
        have HX := hid_mk (HE0.out.trans (itemsOf_next (fun h => h93 h.2) hit))
        rw [hit] at HIT hfi
        have hkp : k < p ∧ p ≤ s.size := by have := hfi.1; have := hfi.2; simp at *; omega
        clear hit hfi h93 HE0
        go_wp2_with fail
        refine (unhide HP).mono ?_
        rintro x w2 ⟨rfl, rfl⟩
        go_wp2_with fail
        refine (unhide HIT).mono ?_
        rintro x w3 ⟨hb3, many2, rfl⟩
        have hbox3 := HPB.out.call hb3
        have hbox4 : Blk (w3.setRow w1.heap.size #[.int .i64 0, .int .u64 0, .int .u64 0, .int .u64 0, .int .u64 0, .slice none 0 0, .int .i64 0, .int .i64 0, .int .u64 ((T2).a.toNat : Int), .int .u64 ((T2).b.toNat : Int), .int .u64 ((T2).c.toNat : Int), .int .u64 ((T2).d.toNat : Int), .bool (many2), .int .i64 ((p : Nat)), .int .i64 0, .int .i64 0]) w1.heap.size #[.int .i64 0, .int .u64 0, .int .u64 0, .int .u64 0, .int .u64 0, .slice none 0 0, .int .i64 0, .int .i64 0, .int .u64 ((T2).a.toNat : Int), .int .u64 ((T2).b.toNat : Int), .int .u64 ((T2).c.toNat : Int), .int .u64 ((T2).d.toNat : Int), .bool (many2), .int .i64 ((p : Nat)), .int .i64 0, .int .i64 0] 56 := hbox3.row
        have hS4 := (HSB.out.call hb3).rowFar (g' := w1.heap.size) (by omega) #[.int .i64 0, .int .u64 0, .int .u64 0, .int .u64 0, .int .u64 0, .slice none 0 0, .int .i64 0, .int .i64 0, .int .u64 ((T2).a.toNat : Int), .int .u64 ((T2).b.toNat : Int), .int .u64 ((T2).c.toNat : Int), .int .u64 ((T2).d.toNat : Int), .bool (many2), .int .i64 ((p : Nat)), .int .i64 0, .int .i64 0]
        have hr4 : Blk (w3.setRow w1.heap.size #[.int .i64 0, .int .u64 0, .int .u64 0, .int .u64 0, .int .u64 0, .slice none 0 0, .int .i64 0, .int .i64 0, .int .u64 ((T2).a.toNat : Int), .int .u64 ((T2).b.toNat : Int), .int .u64 ((T2).c.toNat : Int), .int .u64 ((T2).d.toNat : Int), .bool (many2), .int .i64 ((p : Nat)), .int .i64 0, .int .i64 0]) w.heap.size #[.int .i64 0, .int .u64 0, .int .u64 0, .int .u64 0, .int .u64 0, .slice none 0 0, .int .i64 0, .int .i64 0, .int .u64 0, .int .u64 0, .int .u64 0, .int .u64 0, .bool false, .int .i64 (0), .int .i64 (0), .int .i64 (0)] 56 ∧ Below w.heap.size w (w3.setRow w1.heap.size #[.int .i64 0, .int .u64 0, .int .u64 0, .int .u64 0, .int .u64 0, .slice none 0 0, .int .i64 0, .int .i64 0, .int .u64 ((T2).a.toNat : Int), .int .u64 ((T2).b.toNat : Int), .int .u64 ((T2).c.toNat : Int), .int .u64 ((T2).d.toNat : Int), .bool (many2), .int .i64 ((p : Nat)), .int .i64 0, .int .i64 0]) := ⟨(HRB.out.call hb3).rowFar (by omega) _, below_row (HBW.out.trans (hb3.mono HBW.out.size)) (by omega) _⟩
        have c14 : (w3.setRow w1.heap.size #[.int .i64 0, .int .u64 0, .int .u64 0, .int .u64 0, .int .u64 0, .slice none 0 0, .int .i64 0, .int .i64 0, .int .u64 ((T2).a.toNat : Int), .int .u64 ((T2).b.toNat : Int), .int .u64 ((T2).c.toNat : Int), .int .u64 ((T2).d.toNat : Int), .bool (many2), .int .i64 ((p : Nat)), .int .i64 0, .int .i64 0]).cell? ⟨w1.heap.size, 14, none⟩ = some (.int .i64 0) := hbox4.cell 14
        (have c0 : (w3.setRow w1.heap.size #[.int .i64 0, .int .u64 0, .int .u64 0, .int .u64 0, .int .u64 0, .slice none 0 0, .int .i64 0, .int .i64 0, .int .u64 ((T2).a.toNat : Int), .int .u64 ((T2).b.toNat : Int), .int .u64 ((T2).c.toNat : Int), .int .u64 ((T2).d.toNat : Int), .bool (many2), .int .i64 ((p : Nat)), .int .i64 0, .int .i64 0]).cell? ⟨w1.heap.size, 8, none⟩ = some (.int .u64 ((T2).a.toNat : Int)) := hbox4.cell 8; have c1 : (w3.setRow w1.heap.size #[.int .i64 0, .int .u64 0, .int .u64 0, .int .u64 0, .int .u64 0, .slice none 0 0, .int .i64 0, .int .i64 0, .int .u64 ((T2).a.toNat : Int), .int .u64 ((T2).b.toNat : Int), .int .u64 ((T2).c.toNat : Int), .int .u64 ((T2).d.toNat : Int), .bool (many2), .int .i64 ((p : Nat)), .int .i64 0, .int .i64 0]).cell? ⟨w1.heap.size, 9, none⟩ = some (.int .u64 ((T2).b.toNat : Int)) := hbox4.cell 9; have c2 : (w3.setRow w1.heap.size #[.int .i64 0, .int .u64 0, .int .u64 0, .int .u64 0, .int .u64 0, .slice none 0 0, .int .i64 0, .int .i64 0, .int .u64 ((T2).a.toNat : Int), .int .u64 ((T2).b.toNat : Int), .int .u64 ((T2).c.toNat : Int), .int .u64 ((T2).d.toNat : Int), .bool (many2), .int .i64 ((p : Nat)), .int .i64 0, .int .i64 0]).cell? ⟨w1.heap.size, 10, none⟩ = some (.int .u64 ((T2).c.toNat : Int)) := hbox4.cell 10; have c3 : (w3.setRow w1.heap.size #[.int .i64 0, .int .u64 0, .int .u64 0, .int .u64 0, .int .u64 0, .slice none 0 0, .int .i64 0, .int .i64 0, .int .u64 ((T2).a.toNat : Int), .int .u64 ((T2).b.toNat : Int), .int .u64 ((T2).c.toNat : Int), .int .u64 ((T2).d.toNat : Int), .bool (many2), .int .i64 ((p : Nat)), .int .i64 0, .int .i64 0]).cell? ⟨w1.heap.size, 11, none⟩ = some (.int .u64 ((T2).d.toNat : Int)) := hbox4.cell 11)
        have hcs3 : cs.size = 16 := hcs
        clear hb3
        go_wp2_with (first | (refine store_row 56 rfl _ _ rfl w1.heap.size _ cs 56 hbox3 rfl rfl (by kernel_rfl) hcs3 rfl ?_) | (refine load_row 25 rfl _ rfl (w1.heap.size + 1) _ 25 hS4 rfl _ Tryd.underlying25 rfl (by kernel_rfl) ?_))
        refine (ror_any S T2 _).mono ?_
        rintro x w5 ⟨rfl, hb5⟩
        have hS5 := hS4.call hb5
        have hbox5 := (hbox4.call hb5).rowFar (g' := w1.heap.size + 1) (by omega) #[.int .u64 ((S.or T2).a.toNat : Int), .int .u64 ((S.or T2).b.toNat : Int), .int .u64 ((S.or T2).c.toNat : Int), .int .u64 ((S.or T2).d.toNat : Int)]
        have hr5 := (hr4.1.call hb5).rowFar (g' := w1.heap.size + 1) (by omega) #[.int .u64 ((S.or T2).a.toNat : Int), .int .u64 ((S.or T2).b.toNat : Int), .int .u64 ((S.or T2).c.toNat : Int), .int .u64 ((S.or T2).d.toNat : Int)]
        have hw5 := below_row (hr4.2.trans (hb5.mono hr4.2.size)) (g := w1.heap.size + 1) (by omega) #[.int .u64 ((S.or T2).a.toNat : Int), .int .u64 ((S.or T2).b.toNat : Int), .int .u64 ((S.or T2).c.toNat : Int), .int .u64 ((S.or T2).d.toNat : Int)]
        have c13 : (w5.setRow (w1.heap.size + 1) #[.int .u64 ((S.or T2).a.toNat : Int), .int .u64 ((S.or T2).b.toNat : Int), .int .u64 ((S.or T2).c.toNat : Int), .int .u64 ((S.or T2).d.toNat : Int)]).cell? ⟨w1.heap.size, 13, none⟩ = some (.int .i64 (p : Nat)) := hbox5.cell 13
        have HR5 := hid_mk (And.intro hbox5 (And.intro hr5 hw5))
        clear hb5 hr5 hw5 hbox5 c0 c1 c2 c3 c14 hbox4 hbox3 hS4 hr4
        go_wp2_with (refine store_row 25 rfl _ _ rfl (w1.heap.size + 1) _ _ 25 hS5 rfl rfl (by kernel_rfl) rfl rfl ?_)
        go_roundw
        case rel => exact ⟨S.or T2, p, f', _, rfl, rfl, hS5.row, HR5.out.1, HR5.out.2.1, HR5.out.2.2, hkp.2, by omega, HX.out⟩
        case measure => simp [intOf]; omega
theorem rclass_any (s : ByteArray) (i : Nat) (w : World) (hs : s.size ≤ 1000) (hi : i ≤ 1300) :
    Calls Tryd.prog 67 #[.string s, .int .i64 i] w (RetPN (nodeOf (Rx.cls s.data.toList i)) w) := by
  cases hnt : decide (Rx.pk s.data.toList i = 94) with
  | true =>
    cases hr : Rx.item s.data.toList (i + 1) with
    | out => have := fine_item s.data.toList (i + 1); rw [hr] at this; exact this.elim
    | bad e q => exact rclass_bad_true s i w hs hi hnt e q hr
    | ok T q => exact rclass_ok_true s i w hs hi hnt T q hr
  | false =>
    cases hr : Rx.item s.data.toList i with
    | out => have := fine_item s.data.toList i; rw [hr] at this; exact this.elim
    | bad e q => exact rclass_bad_false s i w hs hi hnt e q hr
    | ok T q => exact rclass_ok_false s i w hs hi hnt T q hr
end Go.Proofs.YthgcefppeaopkaaDoor
