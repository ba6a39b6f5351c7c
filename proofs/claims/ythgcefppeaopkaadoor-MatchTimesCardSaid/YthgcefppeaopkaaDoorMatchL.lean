/- Walks over the reference's match: Ends and Match. -/
import Derived.Test.YthgcefppeaopkaaDoorMatchK
import Derived.Test.YthgcefppeaopkaaDoorMatchE
import Derived.Test.YthgcefppeaopkaaDoorTellsR
namespace Go.Proofs.YthgcefppeaopkaaDoor
open Go Go.RowKit Go.Sort
set_option maxRecDepth 100000
set_option linter.unusedSimpArgs false
set_option linter.unusedVariables false
set_option maxHeartbeats 4000000
theorem rends_nil (s : ByteArray) (n : Node) (at_ : Int) (hr : ¬ (Rx.right n = true ∧ 0 ≤ at_ ∧ at_ ≤ s.size)) (hl : n.lens) (hs : s.size ≤ 90000) (A : Option Addr) (ca : Nat) (G : Nat → Prop) (w : World) (hG : ∀ x, G x → x < w.heap.size) (hsa : SlOk A n.kids.length ca) (hk : KidsAt G w A n.kids) :
    Calls Tryd.prog 23 #[.agg #[.int .i64 (n.kind), .int .u64 ((n.set).a.toNat : Int), .int .u64 ((n.set).b.toNat : Int), .int .u64 ((n.set).c.toNat : Int), .int .u64 ((n.set).d.toNat : Int), .slice (A) (n.kids.length) (ca), .int .i64 (n.min), .int .i64 (n.max)], .string s, .int .i64 at_] w (RetInts [] w) := by
  have hb0 : Below w.heap.size w (w.alloc (.cells #[.int .i64 (n.kind), .int .u64 ((n.set).a.toNat : Int), .int .u64 ((n.set).b.toNat : Int), .int .u64 ((n.set).c.toNat : Int), .int .u64 ((n.set).d.toNat : Int), .slice (A) (n.kids.length) (ca), .int .i64 (n.min), .int .i64 (n.max)] 28)) := (Below.refl _ _).alloc (Nat.le_refl _) _
  have HC := hide (rright_any _ n (Nat.le_refl _) hl A ca G (w.alloc (.cells #[.int .i64 (n.kind), .int .u64 ((n.set).a.toNat : Int), .int .u64 ((n.set).b.toNat : Int), .int .u64 ((n.set).c.toNat : Int), .int .u64 ((n.set).d.toNat : Int), .slice (A) (n.kids.length) (ca), .int .i64 (n.min), .int .i64 (n.max)] 28)) (fun x hx => Nat.lt_of_lt_of_le (hG x hx) hb0.size) hsa (kids_two hk hb0 hG))
  have HB := hid_mk hb0
  clear hG hsa hk hl hb0
  cases hx : Rx.right n with
  | false =>
    rw [hx] at HC
    clear hx hr
    go_enter Tryd.func23, Tryd.ntmps23
    go_wp2_with fail
    refine (unhide HC).mono ?_
    rintro e w1 ⟨rfl, hb1⟩
    have HB1 := hid_mk (HB.out.trans (hb1.mono HB.out.size))
    clear hb1
    go_wp2
    exact bodyPost_ret (v := .slice none 0 0) (by simp [results, Tryd.results23, go_sem]) rfl ⟨_, rfl, World.ownsRow_nil _ _ _ _, HB1.out⟩
  | true =>
    rw [hx] at HC
    by_cases h1 : at_ < 0
    · clear hx hr
      go_enter Tryd.func23, Tryd.ntmps23
      go_wp2_with fail
      refine (unhide HC).mono ?_
      rintro e w1 ⟨rfl, hb1⟩
      have HB1 := hid_mk (HB.out.trans (hb1.mono HB.out.size))
      clear hb1
      go_wp2
      exact bodyPost_ret (v := .slice none 0 0) (by simp [results, Tryd.results23, go_sem]) rfl ⟨_, rfl, World.ownsRow_nil _ _ _ _, HB1.out⟩
    · have h2 : (s.size : Int) < at_ := by
        have : ¬ at_ ≤ s.size := fun h => hr ⟨hx, by omega, h⟩
        omega
      have f1 : decide (at_ < 0) = false := by simpa using h1
      have f2 : decide ((s.size : Int) < at_) = true := by simpa using h2
      clear hx hr h1
      go_enter Tryd.func23, Tryd.ntmps23
      go_wp2_with fail
      refine (unhide HC).mono ?_
      rintro e w1 ⟨rfl, hb1⟩
      have HB1 := hid_mk (HB.out.trans (hb1.mono HB.out.size))
      clear hb1
      go_wp2
      exact bodyPost_ret (v := .slice none 0 0) (by simp [results, Tryd.results23, go_sem]) rfl ⟨_, rfl, World.ownsRow_nil _ _ _ _, HB1.out⟩
theorem rends_go (s : ByteArray) (n : Node) (i : Nat) (hr : Rx.right n = true) (hi : i ≤ s.size) (hl : n.lens) (hs : s.size ≤ 90000) (A : Option Addr) (ca : Nat) (G : Nat → Prop) (w : World) (hG : ∀ x, G x → x < w.heap.size) (hsa : SlOk A n.kids.length ca) (hk : KidsAt G w A n.kids) :
    Calls Tryd.prog 23 #[.agg #[.int .i64 (n.kind), .int .u64 ((n.set).a.toNat : Int), .int .u64 ((n.set).b.toNat : Int), .int .u64 ((n.set).c.toNat : Int), .int .u64 ((n.set).d.toNat : Int), .slice (A) (n.kids.length) (ca), .int .i64 (n.min), .int .i64 (n.max)], .string s, .int .i64 i] w (RetInts (places (s.size + 1) (Mx.sp s.data.toList n (Mx.single i))) w) := by
  have hb0 : Below w.heap.size w (w.alloc (.cells #[.int .i64 (n.kind), .int .u64 ((n.set).a.toNat : Int), .int .u64 ((n.set).b.toNat : Int), .int .u64 ((n.set).c.toNat : Int), .int .u64 ((n.set).d.toNat : Int), .slice (A) (n.kids.length) (ca), .int .i64 (n.min), .int .i64 (n.max)] 28)) := (Below.refl _ _).alloc (Nat.le_refl _) _
  have HC0 := rright_any _ n (Nat.le_refl _) hl A ca G (w.alloc (.cells #[.int .i64 (n.kind), .int .u64 ((n.set).a.toNat : Int), .int .u64 ((n.set).b.toNat : Int), .int .u64 ((n.set).c.toNat : Int), .int .u64 ((n.set).d.toNat : Int), .slice (A) (n.kids.length) (ca), .int .i64 (n.min), .int .i64 (n.max)] 28)) (fun x hx => Nat.lt_of_lt_of_le (hG x hx) hb0.size) hsa (kids_two hk hb0 hG)
  rw [hr] at HC0
  have HC := hide HC0
  have HB := hid_mk hb0
  have HMV := hide (rends_any s hs _ n (Nat.le_refl _) hl hr)
  have HG := hid_mk hG
  have HKA := hid_mk hk
  obtain ⟨i0, hi0, hz0, hz1, hz2⟩ := bool_parts
  obtain ⟨j0, hj0, hy0, hy1, hy2⟩ := int_parts
  have hz3 : i0.bytes * (s.size + 1) ≤ 281474976710656 := by rw [hz2]; omega
  have hsz : (s.size + 1 : Nat) ≤ 9223372036854775807 := by omega
  have f1 : decide ((s.size : Int) < (i : Int)) = false := by simp; omega
  have f2 : decide (s.size < i) = false := by simp; omega
  have hi2 : (i : Int) < (s.size : Int) + 1 := by omega
  have hi3 : i < s.size + 1 := by omega
  clear hG hsa hk hl hb0 HC0 hr
  go_enter Tryd.func23, Tryd.ntmps23
  go_wp2_with fail
  refine (unhide HC).mono ?_
  rintro e w1 ⟨rfl, hb1⟩
  have HB1 := hid_mk (HB.out.trans (hb1.mono HB.out.size))
  have hn1 := (Blk.new w #[.int .i64 (n.kind), .int .u64 ((n.set).a.toNat : Int), .int .u64 ((n.set).b.toNat : Int), .int .u64 ((n.set).c.toNat : Int), .int .u64 ((n.set).d.toNat : Int), .slice (A) (n.kids.length) (ca), .int .i64 (n.min), .int .i64 (n.max)] 28).call hb1
  (have n0 : w1.cell? ⟨w.heap.size, 0, none⟩ = some (.int .i64 (n.kind)) := hn1.cell 0; have n1 : w1.cell? ⟨w.heap.size, 1, none⟩ = some (.int .u64 ((n.set).a.toNat : Int)) := hn1.cell 1; have n2 : w1.cell? ⟨w.heap.size, 2, none⟩ = some (.int .u64 ((n.set).b.toNat : Int)) := hn1.cell 2; have n3 : w1.cell? ⟨w.heap.size, 3, none⟩ = some (.int .u64 ((n.set).c.toNat : Int)) := hn1.cell 3; have n4 : w1.cell? ⟨w.heap.size, 4, none⟩ = some (.int .u64 ((n.set).d.toNat : Int)) := hn1.cell 4; have n5 : w1.cell? ⟨w.heap.size, 5, none⟩ = some (.slice (A) (n.kids.length) (ca)) := hn1.cell 5; have n6 : w1.cell? ⟨w.heap.size, 6, none⟩ = some (.int .i64 (n.min)) := hn1.cell 6; have n7 : w1.cell? ⟨w.heap.size, 7, none⟩ = some (.int .i64 (n.max)) := hn1.cell 7; have nf : ∀ i, w1.frozen? ⟨w.heap.size, i, none⟩ = false := hn1.frozen)
  have hzw : w.heap.size < w1.heap.size := hn1.lt
  clear hb1 hn1
  go_wp2_with fail
  refine (unhide HMV i A ca G w1 hi (fun b hb => Nat.lt_of_lt_of_le (HG.out b hb) HB1.out.size) (kids_two HKA.out HB1.out HG.out)).mono ?_
  rintro e w3 ⟨gm, cm, rfl, hm3, hg3, hb3⟩
  have HB3 := hid_mk (HB1.out.trans (hb3.mono HB1.out.size))
  generalize Mx.sp s.data.toList n (Mx.single i) = m at *
  have HX0 : Hid (EndsAt (s.size + 1) m w3.heap.size gm cm w (.slice none 0 0) (.int .i64 ((0 : Nat) : Int)) w3) := hid_mk ⟨0, rfl, Nat.zero_le _, World.ownsRow_nil _ _ _ _, hm3, hm3.lt, HB3.out, Nat.le_refl _⟩
  have HW3 := hid_mk HB3.out.size
  clear hb3 hm3 n0 n1 n2 n3 n4 n5 n6 n7 nf
  go_wp2
  go_loopw [7, 9] (fun u v wr => EndsAt (s.size + 1) m w3.heap.size gm cm w u v wr) (fun _ v _ => s.size + 1 - (intOf v).toNat)
  case atStart => exact HX0.out
  case round =>
    clear HX0
    obtain ⟨k, rfl, hkN, hown, hm, hgm, hb, hB⟩ := hrel
    by_cases hlt : k < s.size + 1
    · have cm1 : wr.cell? ⟨gm, k, none⟩ = some (.bool (m k)) := hm.cell hlt
      have hi4 : (k : Int) < (s.size : Int) + 1 := by omega
      have HPS := hid_mk (places_succ m k)
      have hpl := places_len m k
      cases hmk : m k with
      | false =>
        rw [hmk] at cm1
        have HX : Hid (EndsAt (s.size + 1) m w3.heap.size gm cm w u7 (.int .i64 ((k + 1 : Nat) : Int)) wr) := hid_mk (by
          have hps := HPS.out
          rw [hmk, if_neg (by decide)] at hps
          exact ⟨k + 1, rfl, by omega, by rw [hps]; exact hown, hm, hgm, hb, hB⟩)
        clear hown hm hb hmk HPS
        go_wp2
        go_roundw
        case rel => exact HX.out
        case measure => simp [intOf]; omega
      | true =>
        rw [hmk] at cm1
        have hps := HPS.out
        rw [hmk, if_pos rfl] at hps
        have HP2 := hid_mk hps
        have HM := hid_mk hm
        have HBR := hid_mk hb
        have HLB := hid_mk (fun g hg => (hown.lt g hg).1)
        have HNB := hid_mk (World.news_of_block (Blk.new wr #[.int .i64 (k : Nat)] 3))
        have hownA := hown.alloc (.cells #[.int .i64 (k : Nat)] 3)
        clear hown hm hb hmk HPS hps
        go_wp2_with (at_builtin; refine wpList_append_own_at _ rfl _ _ 43 rfl w3.heap.size 3 j0 _ 1 8 Tryd.underlying43 hj0 hy0 hy1 hy2 rfl (by decide) _ _ (intCells (places k m)) rfl hownA ⟨wr.heap.size, 0, none⟩ 1 1 [.int .i64 (k : Nat)] rfl rfl ?c1 ?c2 ?c3 ?c4 ?c5 ?_)
        case c2 => rfl
        case c3 => unfold maxLen; omega
        case c4 => omega
        case c5 => first | omega | (simp; omega)
        intro v' w' hown' hg hnil hat
        have HX : Hid (EndsAt (s.size + 1) m w3.heap.size gm cm w v' (.int .i64 ((k + 1 : Nat) : Int)) w') := hid_mk
          ⟨k + 1, rfl, by omega, by rw [HP2.out]; simpa [intCells] using hown', (HM.out.call ((Below.refl _ _).alloc (Nat.le_refl _) _)).keep (hg.block gm (by have := HM.out.lt; simp; omega) (fun e => by have := HLB.out gm e.symm; omega)), hgm, (HBR.out.alloc HBR.out.size _).grown hg (by have := HBR.out.size; simp; omega) (fun g hg' => by have := HLB.out g hg'; have := HW3.out; omega), by have := hg.size; simp at this; omega⟩
        clear hown' hg hnil hat
        go_wp2
        go_roundw
        case rel => exact HX.out
        case measure => simp [intOf]; omega
    · obtain rfl : k = s.size + 1 := by omega
      have HO := hid_mk (ints_base hown HW3.out)
      have HB4 := hid_mk hb
      clear hown hm hb
      go_wp2
      exact bodyPost_ret (v := u7) (by simp [results, Tryd.results23, go_sem]) rfl ⟨_, rfl, HO.out, HB4.out⟩
theorem rEnds_any (s : ByteArray) (n : Node) (at_ : Int) (hl : n.lens) (hs : s.size ≤ 90000) (A : Option Addr) (ca : Nat) (G : Nat → Prop) (w : World) (hG : ∀ x, G x → x < w.heap.size) (hsa : SlOk A n.kids.length ca) (hk : KidsAt G w A n.kids) :
    Calls Tryd.prog 23 #[.agg #[.int .i64 (n.kind), .int .u64 ((n.set).a.toNat : Int), .int .u64 ((n.set).b.toNat : Int), .int .u64 ((n.set).c.toNat : Int), .int .u64 ((n.set).d.toNat : Int), .slice (A) (n.kids.length) (ca), .int .i64 (n.min), .int .i64 (n.max)], .string s, .int .i64 at_] w (RetInts (endsL n s.data.toList at_) w) := by
  unfold endsL
  by_cases h : Rx.right n = true ∧ 0 ≤ at_ ∧ at_ ≤ s.data.toList.length
  · rw [if_pos h]
    obtain ⟨h1, h2, h3⟩ := h
    rw [len_data] at h3
    obtain ⟨i, rfl⟩ : ∃ i : Nat, at_ = (i : Int) := ⟨at_.toNat, by omega⟩
    have := rends_go s n i h1 (by omega) hl hs A ca G w hG hsa hk
    rwa [Int.toNat_natCast, len_data]
  · rw [if_neg h]
    rw [len_data] at h
    exact rends_nil s n at_ h hl hs A ca G w hG hsa hk
end Go.Proofs.YthgcefppeaopkaaDoor
