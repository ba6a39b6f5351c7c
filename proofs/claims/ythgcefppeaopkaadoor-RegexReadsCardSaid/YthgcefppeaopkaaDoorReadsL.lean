/- The law RegexReads walked: the program's parser and the document's hand back the same. -/
import Derived.Test.YthgcefppeaopkaaDoorWorks
import Derived.Test.YthgcefppeaopkaaDoorRefWK
import Derived.Test.YthgcefppeaopkaaDoorRows
import Derived.Lib.LaidTab
import Derived.Lib.LaidU8
namespace Go.Proofs.YthgcefppeaopkaaDoor
open Go Go.RowKit Go.Sort
set_option maxRecDepth 100000
set_option linter.unusedSimpArgs false
set_option linter.unusedVariables false
set_option maxHeartbeats 1000000
theorem laid_tab : (Rows.laid_math_bits_deBruijn64tab : DataW Unit) = Lib.tabData .u8 (Lib.deBruijn64tab.map Int.ofNat) := by kernel_rfl
theorem tab_of_laid {W : World} {rest : List (String × DataW Unit)} (h : laidMet Tryd.prog (("math/bits.deBruijn64tab", Rows.laid_math_bits_deBruijn64tab) :: rest) W) : TabW W := by
  rw [laid_tab] at h
  have hg : Tryd.prog.globalNamed "math/bits.deBruijn64tab" = some 0 := by kernel_rfl
  have h1 := Lib.tabIs_of_head (t := 97) (e := 5) (n := 64) hg (by kernel_rfl) Tryd.underlying97 Tryd.underlying5 (by kernel_rfl) (by kernel_rfl) h
  have h2 : TabAt 0 Lib.deBruijn64tab W := fun j hj => by
    rw [h1.cell hg j (by simpa using hj)]
    simp [List.getD, List.getElem?_map]
    cases Lib.deBruijn64tab[j]? <;> rfl
  refine ⟨h2, ?_⟩
  have h3 := h2 0 (by decide)
  rcases Nat.lt_or_ge 0 W.heap.size with h4 | h4
  · exact h4
  · simp [World.cell?, Array.getElem?_eq_none h4] at h3
theorem size_parse (l : List UInt8) : (Rx.parse l).1.size ≤ 10000 := by
  have hz : Rx.zero.size ≤ 10000 := by simp [Rx.zero, Node.size_eq, Node.kids, Node.sizes_nil]
  unfold Rx.parse
  split
  · exact hz
  · cases hr : Rx.alt l (Rx.atom l 16) 0 with
    | bad e p => exact hz
    | out => exact hz
    | ok n p =>
      have h1 := Rx.size_alt (Rx.size_atom l 16) (fine_atom l 16) (Nat.zero_le _) hr
      have hfi := fine_alt l (Rx.atom l 16) (fine_atom l 16) 0 (Nat.zero_le _)
      rw [hr] at hfi
      have h2 : p ≤ l.length := hfi.2
      dsimp only
      split
      · split <;> exact hz
      · show n.size ≤ 10000; omega
theorem reads_any (s : ByteArray) (w : World) (hm : s.size ≤ maxLen) (hT : TabW w) : Calls Tryd.prog 3 #[.string s] w (RetG (.bool true) w) := by
  have HT := hid_mk hT
  have HW := hide (fun w hT => works_any w hT)
  by_cases hs : 300 < s.size
  · have hm2 := hm
    unfold maxLen at hm2
    clear hT
    go_enter Tryd.func3, Tryd.ntmps3
    go_wp2_with fail
    refine (unhide HW _ HT.out).mono ?_
    rintro x w1 ⟨rfl, hb1⟩
    have HB := hid_mk hb1
    clear hb1
    go_wp2
    exact bodyPost_ret (v := .bool true) (by simp [results, Tryd.results3, go_sem]) rfl ⟨rfl, HB.out⟩
  · have HP := hide (fun w hT => parse_any s w hm hT)
    have HR := hide (fun w => rparse_any s w hm)
    have hsz := size_parse s.data.toList
    have hs2 : decide ((300 : Int) < (s.size : Int)) = false := by simp; omega
    clear hT
    generalize Rx.parse s.data.toList = r at *
    obtain ⟨n, e, p⟩ := r
    have HS := hide (fun A B ca cb G w hG h1 h2 h3 h4 => rsame_any _ n n (Nat.le_refl _) hsz A B ca cb G w hG h1 h2 h3 h4)
    rw [decide_eq_true (rfl : n = n)] at HS
    have hfe := fun w => fault_eq_run e p e p w
    clear hsz
    go_enter Tryd.func3, Tryd.ntmps3
    go_wp2_with fail
    refine (unhide HP _ HT.out).mono ?_
    rintro x w1 ⟨hb1, A1, cap1, rfl, hsl1, hk1⟩
    dsimp only at hk1 hsl1
    have HB1 := hid_mk hb1
    have HK1 := hid_mk hk1
    clear hb1 hk1
    go_wp2_with fail
    refine (unhide HR _).mono ?_
    rintro x w2 ⟨hb2, A2, cap2, rfl, hsl2, hk2⟩
    dsimp only at hk2 hsl2
    obtain ⟨V, hV⟩ : ∃ V, V = (w2.alloc (.cells #[.int .i64 (n.kind), .int .u64 ((n.set).a.toNat : Int), .int .u64 ((n.set).b.toNat : Int), .int .u64 ((n.set).c.toNat : Int), .int .u64 ((n.set).d.toNat : Int), .slice (A2) (n.kids.length) (cap2), .int .i64 (n.min), .int .i64 (n.max)] 28)).alloc (.cells #[.int .i64 e, .int .i64 (p : Nat)] 31) := ⟨_, rfl⟩
    have hz1 := HB1.out.size
    have hz2 := hb2.size
    simp at hz2
    have hb01 : Below w1.heap.size w1 ((w1.alloc (.cells #[.int .i64 (n.kind), .int .u64 ((n.set).a.toNat : Int), .int .u64 ((n.set).b.toNat : Int), .int .u64 ((n.set).c.toNat : Int), .int .u64 ((n.set).d.toNat : Int), .slice (A1) (n.kids.length) (cap1), .int .i64 (n.min), .int .i64 (n.max)] 28)).alloc (.cells #[.int .i64 e, .int .i64 (p : Nat)] 31)) := (by repeat (first | with_reducible exact Below.refl _ _ | with_reducible assumption | with_reducible refine Below.setCell ?_ (by first | omega | (dsimp only; omega) | (simp <;> omega)) _ | with_reducible refine Below.alloc ?_ (by first | omega | (simp <;> omega)) _ | with_reducible refine below_drewN ?_ _ | with_reducible refine Below.drew ?_))
    have hb2V : Below w2.heap.size w2 V := by rw [hV]; exact (by repeat (first | with_reducible exact Below.refl _ _ | with_reducible assumption | with_reducible refine Below.setCell ?_ (by first | omega | (dsimp only; omega) | (simp <;> omega)) _ | with_reducible refine Below.alloc ?_ (by first | omega | (simp <;> omega)) _ | with_reducible refine below_drewN ?_ _ | with_reducible refine Below.drew ?_))
    have hVz : V.heap.size = w2.heap.size + 2 := by rw [hV]; simp
    have hb1V : Below (w1.heap.size + 2) ((w1.alloc (.cells #[.int .i64 (n.kind), .int .u64 ((n.set).a.toNat : Int), .int .u64 ((n.set).b.toNat : Int), .int .u64 ((n.set).c.toNat : Int), .int .u64 ((n.set).d.toNat : Int), .slice (A1) (n.kids.length) (cap1), .int .i64 (n.min), .int .i64 (n.max)] 28)).alloc (.cells #[.int .i64 e, .int .i64 (p : Nat)] 31)) V := by
      have h2 := hb2
      simp only [World.size_alloc] at h2
      exact h2.trans (hb2V.mono (by omega))
    have x1 : Blk V w1.heap.size #[.int .i64 (n.kind), .int .u64 ((n.set).a.toNat : Int), .int .u64 ((n.set).b.toNat : Int), .int .u64 ((n.set).c.toNat : Int), .int .u64 ((n.set).d.toNat : Int), .slice (A1) (n.kids.length) (cap1), .int .i64 (n.min), .int .i64 (n.max)] 28 := (Blk.alloc (Blk.new w1 _ _) _).below hb1V (by omega)
    have x2 : Blk V (w1.heap.size + 1) #[.int .i64 e, .int .i64 (p : Nat)] 31 := (Blk.newAt (by simp)).below hb1V (by omega)
    have x3 : Blk V w2.heap.size #[.int .i64 (n.kind), .int .u64 ((n.set).a.toNat : Int), .int .u64 ((n.set).b.toNat : Int), .int .u64 ((n.set).c.toNat : Int), .int .u64 ((n.set).d.toNat : Int), .slice (A2) (n.kids.length) (cap2), .int .i64 (n.min), .int .i64 (n.max)] 28 := by rw [hV]; exact Blk.alloc (Blk.new w2 _ _) _
    have x4 : Blk V (w2.heap.size + 1) #[.int .i64 e, .int .i64 (p : Nat)] 31 := by rw [hV]; exact Blk.newAt (by simp)
    have hkV1 : KidsAt (fun b => b < V.heap.size) V A1 n.kids := kidsAt_keep (fun b hb => (hb1V.block b (by have := hb.2; omega)).trans (hb01.block b hb.2)) (fun b hb => by have := hb.2; omega) HK1.out
    have hkV2 : KidsAt (fun b => b < V.heap.size) V A2 n.kids := kidsAt_keep (fun b hb => hb2V.block b hb.2) (fun b hb => by have := hb.2; omega) hk2
    have hbV : Below w.heap.size w V := (HB1.out.trans (hb01.mono hz1)).trans (hb1V.mono (by omega))
    have HVT := hid_mk (HT.out.below hbV)
    have HSV := hide (unhide HS A1 A2 cap1 cap2 (fun b => b < V.heap.size) V (fun b h => h) hsl1 hsl2 hkV1 hkV2)
    have HBV := hid_mk hbV
    have HVE := hid_mk hV
    have HX2 := hid_mk x2
    have HX4 := hid_mk x4
    clear hb2 hk2 hV hb01 hb2V hb1V x2 x4 hkV1 hkV2 hbV HP HR HS hz1 hz2
    go_wp2_with (first | (rw [← HVE.out]; refine load_row 28 rfl _ rfl w1.heap.size _ 28 x1 rfl _ Tryd.underlying28 rfl (by kernel_rfl) ?_) | (refine load_row 28 rfl _ rfl w2.heap.size _ 28 x3 rfl _ Tryd.underlying28 rfl (by kernel_rfl) ?_))
    refine (unhide HSV).mono ?_
    rintro x w3 ⟨rfl, hb3⟩
    have y2 := HX2.out.call hb3
    have y4 := HX4.out.call hb3
    have c20 : w3.cell? ⟨w1.heap.size + 1, 0, none⟩ = some (.int .i64 e) := y2.cell 0
    have c21 : w3.cell? ⟨w1.heap.size + 1, 1, none⟩ = some (.int .i64 (p : Nat)) := y2.cell 1
    have c40 : w3.cell? ⟨w2.heap.size + 1, 0, none⟩ = some (.int .i64 e) := y4.cell 0
    have c41 : w3.cell? ⟨w2.heap.size + 1, 1, none⟩ = some (.int .i64 (p : Nat)) := y4.cell 1
    have HB3 := hid_mk (HBV.out.trans (hb3.mono HBV.out.size))
    clear hb3 y2 y4 x1 x3
    go_wp2_with fail
    refine (unhide HW _ (HT.out.below HB3.out)).mono ?_
    rintro x w4 ⟨rfl, hb4⟩
    have HB4 := hid_mk (HB3.out.trans (hb4.mono HB3.out.size))
    clear hb4
    go_wp2
    exact bodyPost_ret (v := .bool true) (by simp [results, Tryd.results3, go_sem]) rfl ⟨rfl, HB4.out⟩
end Go.Proofs.YthgcefppeaopkaaDoor
