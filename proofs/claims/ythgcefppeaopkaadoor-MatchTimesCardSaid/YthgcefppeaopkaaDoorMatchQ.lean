/- Walks over the reference's match: Match. -/
import Derived.Test.YthgcefppeaopkaaDoorMatchL
namespace Go.Proofs.YthgcefppeaopkaaDoor
open Go Go.RowKit Go.Sort
set_option maxRecDepth 100000
set_option linter.unusedSimpArgs false
set_option linter.unusedVariables false
set_option maxHeartbeats 4000000
theorem matchB_not (n : Node) (l : List UInt8) (h : Rx.right n = false) : matchB n l = false := by
  unfold matchB endsL
  rw [if_neg (by rw [h]; simp)]
  simp
theorem matchB_right (n : Node) (l : List UInt8) (h : Rx.right n = true) : matchB n l = Mx.sp l n (Mx.single 0) l.length := by
  unfold matchB endsL
  rw [if_pos ⟨h, Int.le_refl _, Int.natCast_nonneg _⟩]
  cases hm : Mx.sp l n (Mx.single 0) l.length <;> simp [places, hm]
theorem rmatch_any (s : ByteArray) (n : Node) (hl : n.lens) (hs : s.size ≤ 90000) (A : Option Addr) (ca : Nat) (G : Nat → Prop) (w : World) (hG : ∀ x, G x → x < w.heap.size) (hsa : SlOk A n.kids.length ca) (hk : KidsAt G w A n.kids) :
    Calls Tryd.prog 25 #[.agg #[.int .i64 (n.kind), .int .u64 ((n.set).a.toNat : Int), .int .u64 ((n.set).b.toNat : Int), .int .u64 ((n.set).c.toNat : Int), .int .u64 ((n.set).d.toNat : Int), .slice (A) (n.kids.length) (ca), .int .i64 (n.min), .int .i64 (n.max)], .string s] w (RetG (.bool (matchB n s.data.toList)) w) := by
  have hb0 : Below w.heap.size w (w.alloc (.cells #[.int .i64 (n.kind), .int .u64 ((n.set).a.toNat : Int), .int .u64 ((n.set).b.toNat : Int), .int .u64 ((n.set).c.toNat : Int), .int .u64 ((n.set).d.toNat : Int), .slice (A) (n.kids.length) (ca), .int .i64 (n.min), .int .i64 (n.max)] 28)) := (Below.refl _ _).alloc (Nat.le_refl _) _
  have HC := hide (rright_any _ n (Nat.le_refl _) hl A ca G (w.alloc (.cells #[.int .i64 (n.kind), .int .u64 ((n.set).a.toNat : Int), .int .u64 ((n.set).b.toNat : Int), .int .u64 ((n.set).c.toNat : Int), .int .u64 ((n.set).d.toNat : Int), .slice (A) (n.kids.length) (ca), .int .i64 (n.min), .int .i64 (n.max)] 28)) (fun x hx => Nat.lt_of_lt_of_le (hG x hx) hb0.size) hsa (kids_two hk hb0 hG))
  have HB := hid_mk hb0
  cases hr : Rx.right n with
  | false =>
    rw [hr] at HC
    rw [matchB_not _ _ hr]
    clear hG hsa hk hl hb0 hr
    go_enter Tryd.func25, Tryd.ntmps25
    go_wp2_with fail
    refine (unhide HC).mono ?_
    rintro e w1 ⟨rfl, hb1⟩
    have HB1 := hid_mk (HB.out.trans (hb1.mono HB.out.size))
    clear hb1
    go_wp2
    exact bodyPost_ret (v := .bool false) (by simp [results, Tryd.results25, go_sem]) rfl ⟨rfl, HB1.out⟩
  | true =>
    rw [hr] at HC
    have HE : Hid (matchB n s.data.toList = Mx.sp s.data.toList n (Mx.single 0) s.size) := hid_mk (by rw [matchB_right _ _ hr, len_data])
    have HMV := hide (rends_any s hs _ n (Nat.le_refl _) hl hr)
    have HG := hid_mk hG
    have HKA := hid_mk hk
    have hi2 : (s.size : Int) < (s.size : Int) + 1 := by omega
    rw [HE.out]
    clear hG hsa hk hl hb0 hr HE
    go_enter Tryd.func25, Tryd.ntmps25
    go_wp2_with fail
    refine (unhide HC).mono ?_
    rintro e w1 ⟨rfl, hb1⟩
    have HB1 := hid_mk (HB.out.trans (hb1.mono HB.out.size))
    have hn1 := (Blk.new w #[.int .i64 (n.kind), .int .u64 ((n.set).a.toNat : Int), .int .u64 ((n.set).b.toNat : Int), .int .u64 ((n.set).c.toNat : Int), .int .u64 ((n.set).d.toNat : Int), .slice (A) (n.kids.length) (ca), .int .i64 (n.min), .int .i64 (n.max)] 28).call hb1
    (have n0 : w1.cell? ⟨w.heap.size, 0, none⟩ = some (.int .i64 (n.kind)) := hn1.cell 0; have n1 : w1.cell? ⟨w.heap.size, 1, none⟩ = some (.int .u64 ((n.set).a.toNat : Int)) := hn1.cell 1; have n2 : w1.cell? ⟨w.heap.size, 2, none⟩ = some (.int .u64 ((n.set).b.toNat : Int)) := hn1.cell 2; have n3 : w1.cell? ⟨w.heap.size, 3, none⟩ = some (.int .u64 ((n.set).c.toNat : Int)) := hn1.cell 3; have n4 : w1.cell? ⟨w.heap.size, 4, none⟩ = some (.int .u64 ((n.set).d.toNat : Int)) := hn1.cell 4; have n5 : w1.cell? ⟨w.heap.size, 5, none⟩ = some (.slice (A) (n.kids.length) (ca)) := hn1.cell 5; have n6 : w1.cell? ⟨w.heap.size, 6, none⟩ = some (.int .i64 (n.min)) := hn1.cell 6; have n7 : w1.cell? ⟨w.heap.size, 7, none⟩ = some (.int .i64 (n.max)) := hn1.cell 7; have nf : ∀ i, w1.frozen? ⟨w.heap.size, i, none⟩ = false := hn1.frozen)
    clear hb1 hn1
    go_wp2_with fail
    refine (unhide HMV 0 A ca G w1 (Nat.zero_le _) (fun b hb => Nat.lt_of_lt_of_le (HG.out b hb) HB1.out.size) (kids_two HKA.out HB1.out HG.out)).mono ?_
    rintro e w3 ⟨gm, cm, rfl, hm3, hg3, hb3⟩
    have HB3 := hid_mk (HB1.out.trans (hb3.mono HB1.out.size))
    have cx := hm3.cell (j := s.size) (Nat.lt_succ_self _)
    generalize Mx.sp s.data.toList n (Mx.single 0) s.size = b at *
    clear hb3 hm3 n0 n1 n2 n3 n4 n5 n6 n7 nf
    go_wp2
    exact bodyPost_ret (v := .bool b) (by simp [results, Tryd.results25, go_sem]) rfl ⟨rfl, HB3.out⟩
end Go.Proofs.YthgcefppeaopkaaDoor
