/- Walks: the places at which texts end, as numbers. -/
import Derived.Test.YthgcefppeaopkaaDoorMatchO
import Derived.Test.YthgcefppeaopkaaDoorTellsW
namespace Go.Proofs.YthgcefppeaopkaaDoor
open Go Go.RowKit Go.Sort
set_option maxRecDepth 100000
set_option linter.unusedSimpArgs false
set_option linter.unusedVariables false
set_option maxHeartbeats 4000000
/-- the numbers of a list, as cells -/
def intCells (l : List Nat) : List Value := l.map fun i => Value.int .i64 (i : Nat)
/-- a new slice of numbers is handed back -/
def RetInts (l : List Nat) (w : World) (e : Ending) (w' : World) : Prop := ∃ v, e = .returned v ∧ w'.ownsRow w.heap.size 3 1 v l.length (intCells l) ∧ Below w.heap.size w w'
theorem int_info : (Tryd.prog.info? 3).map (fun i => (i.zero, i.size, i.bytes)) = some (some (.int .i64 0), 1, 8) := by kernel_rfl
theorem int_parts : ∃ i, Tryd.prog.info? 3 = some i ∧ i.zero = some (.int .i64 0) ∧ i.size = 1 ∧ i.bytes = 8 := by
  have h := int_info
  cases hi : Tryd.prog.info? 3 with
  | none => rw [hi] at h; cases h
  | some i => rw [hi] at h; simp at h; exact ⟨i, rfl, h.1, h.2.1, h.2.2⟩
/-- the places that are marked -/
def places (N : Nat) (m : Mx.Pos) : List Nat := (List.range N).filter m
theorem places_succ (m : Mx.Pos) (k : Nat) : places (k + 1) m = if m k then places k m ++ [k] else places k m := by
  unfold places
  rw [List.range_succ, List.filter_append]
  cases h : m k <;> simp [h]
theorem places_len (m : Mx.Pos) (k : Nat) : (places k m).length ≤ k := by unfold places; have := List.length_filter_le m (List.range k); simpa using this
/-- what Ends hands back -/
def endsL (n : Node) (l : List UInt8) (at_ : Int) : List Nat := if Rx.right n = true ∧ 0 ≤ at_ ∧ at_ ≤ l.length then places (l.length + 1) (Mx.sp l n (Mx.single at_.toNat)) else []
def EndsAt (N : Nat) (m : Mx.Pos) (B : Nat) (gm cm : Nat) (w : World) (u v : Value) (wr : World) : Prop :=
  ∃ k : Nat, v = .int .i64 (k : Nat) ∧ k ≤ N ∧ wr.ownsRow B 3 1 u (places k m).length (intCells (places k m)) ∧ MarksAt N wr gm cm m ∧ gm < B ∧ Below w.heap.size w wr ∧ B ≤ wr.heap.size
theorem ends_nil (s : ByteArray) (n : Node) (at_ : Int) (hr : ¬ (Rx.right n = true ∧ 0 ≤ at_ ∧ at_ ≤ s.size)) (hl : n.lens) (hs : s.size ≤ 90000) (A : Option Addr) (ca : Nat) (G : Nat → Prop) (w : World) (hG : ∀ x, G x → x < w.heap.size) (hsa : SlOk A n.kids.length ca) (hk : KidsAt G w A n.kids) :
    Calls Tryd.prog 22 #[.agg #[.int .i64 (n.kind), .int .u64 ((n.set).a.toNat : Int), .int .u64 ((n.set).b.toNat : Int), .int .u64 ((n.set).c.toNat : Int), .int .u64 ((n.set).d.toNat : Int), .slice (A) (n.kids.length) (ca), .int .i64 (n.min), .int .i64 (n.max)], .string s, .int .i64 at_] w (RetInts [] w) := by
  have hb0 : Below w.heap.size w (w.alloc (.cells #[.int .i64 (n.kind), .int .u64 ((n.set).a.toNat : Int), .int .u64 ((n.set).b.toNat : Int), .int .u64 ((n.set).c.toNat : Int), .int .u64 ((n.set).d.toNat : Int), .slice (A) (n.kids.length) (ca), .int .i64 (n.min), .int .i64 (n.max)] 28)) := (Below.refl _ _).alloc (Nat.le_refl _) _
  have HC := hide (prightL _ n (Nat.le_refl _) hl A ca G (w.alloc (.cells #[.int .i64 (n.kind), .int .u64 ((n.set).a.toNat : Int), .int .u64 ((n.set).b.toNat : Int), .int .u64 ((n.set).c.toNat : Int), .int .u64 ((n.set).d.toNat : Int), .slice (A) (n.kids.length) (ca), .int .i64 (n.min), .int .i64 (n.max)] 28)) (fun x hx => Nat.lt_of_lt_of_le (hG x hx) hb0.size) hsa (kids_two hk hb0 hG))
  have HB := hid_mk hb0
  clear hG hsa hk hl hb0
  cases hx : Rx.right n with
  | false =>
    rw [hx] at HC
    clear hx hr
    go_enter Tryd.func22, Tryd.ntmps22
    go_wp2_with fail
    refine (unhide HC).mono ?_
    rintro e w1 ⟨rfl, hb1⟩
    have HB1 := hid_mk (HB.out.trans (hb1.mono HB.out.size))
    clear hb1
    go_wp2
    exact bodyPost_ret (v := .slice none 0 0) (by simp [results, Tryd.results22, go_sem]) rfl ⟨_, rfl, World.ownsRow_nil _ _ _ _, HB1.out⟩
  | true =>
    rw [hx] at HC
    by_cases h1 : at_ < 0
    · clear hx hr
      go_enter Tryd.func22, Tryd.ntmps22
      go_wp2_with fail
      refine (unhide HC).mono ?_
      rintro e w1 ⟨rfl, hb1⟩
      have HB1 := hid_mk (HB.out.trans (hb1.mono HB.out.size))
      clear hb1
      go_wp2
      exact bodyPost_ret (v := .slice none 0 0) (by simp [results, Tryd.results22, go_sem]) rfl ⟨_, rfl, World.ownsRow_nil _ _ _ _, HB1.out⟩
    · have h2 : (s.size : Int) < at_ := by
        have : ¬ at_ ≤ s.size := fun h => hr ⟨hx, by omega, h⟩
        omega
      have f1 : decide (at_ < 0) = false := by simpa using h1
      have f2 : decide ((s.size : Int) < at_) = true := by simpa using h2
      clear hx hr h1
      go_enter Tryd.func22, Tryd.ntmps22
      go_wp2_with fail
      refine (unhide HC).mono ?_
      rintro e w1 ⟨rfl, hb1⟩
      have HB1 := hid_mk (HB.out.trans (hb1.mono HB.out.size))
      clear hb1
      go_wp2
      exact bodyPost_ret (v := .slice none 0 0) (by simp [results, Tryd.results22, go_sem]) rfl ⟨_, rfl, World.ownsRow_nil _ _ _ _, HB1.out⟩
theorem marks_single (w : World) (N i : Nat) (hi : i < N) (hN : N ≤ 100000) : MarksAt N (w.alloc (.cells ((madeCells #[.bool false] N).setIfInBounds i (.bool true)) 4)) w.heap.size N (Mx.single i) := by
  refine ⟨_, Blk.new w _ _, ?_, Nat.le_refl _, by unfold maxLen; omega, fun j hj => ?_⟩
  · simp [size_madeCells]
  · rw [Array.getElem?_setIfInBounds]
    by_cases h : i = j
    · subst h; rw [if_pos rfl, if_pos (by rw [size_madeCells]; exact hi)]; simp [Mx.single]
    · rw [if_neg h, ← Array.getElem?_toList, toList_madeCells_one]
      simp [hj, Mx.single]
      omega
theorem ints_base {w : World} {base base' n : Nat} {v : Value} {xs : List Value} (h : w.ownsRow base 3 1 v n xs) (hb : base' ≤ base) : w.ownsRow base' 3 1 v n xs := by
  refine ⟨h.1, h.2.imp id ?_⟩
  rintro ⟨g, cap, cur, h1, h2, h3⟩
  exact ⟨g, cap, cur, h1, by omega, h3⟩
theorem ends_go (s : ByteArray) (n : Node) (i : Nat) (hr : Rx.right n = true) (hi : i ≤ s.size) (hl : n.lens) (hs : s.size ≤ 90000) (A : Option Addr) (ca : Nat) (G : Nat → Prop) (w : World) (hG : ∀ x, G x → x < w.heap.size) (hsa : SlOk A n.kids.length ca) (hk : KidsAt G w A n.kids) :
    Calls Tryd.prog 22 #[.agg #[.int .i64 (n.kind), .int .u64 ((n.set).a.toNat : Int), .int .u64 ((n.set).b.toNat : Int), .int .u64 ((n.set).c.toNat : Int), .int .u64 ((n.set).d.toNat : Int), .slice (A) (n.kids.length) (ca), .int .i64 (n.min), .int .i64 (n.max)], .string s, .int .i64 i] w (RetInts (places (s.size + 1) (Mx.sp s.data.toList n (Mx.single i))) w) := by
  have hb0 : Below w.heap.size w (w.alloc (.cells #[.int .i64 (n.kind), .int .u64 ((n.set).a.toNat : Int), .int .u64 ((n.set).b.toNat : Int), .int .u64 ((n.set).c.toNat : Int), .int .u64 ((n.set).d.toNat : Int), .slice (A) (n.kids.length) (ca), .int .i64 (n.min), .int .i64 (n.max)] 28)) := (Below.refl _ _).alloc (Nat.le_refl _) _
  have HC0 := prightL _ n (Nat.le_refl _) hl A ca G (w.alloc (.cells #[.int .i64 (n.kind), .int .u64 ((n.set).a.toNat : Int), .int .u64 ((n.set).b.toNat : Int), .int .u64 ((n.set).c.toNat : Int), .int .u64 ((n.set).d.toNat : Int), .slice (A) (n.kids.length) (ca), .int .i64 (n.min), .int .i64 (n.max)] 28)) (fun x hx => Nat.lt_of_lt_of_le (hG x hx) hb0.size) hsa (kids_two hk hb0 hG)
  rw [hr] at HC0
  have HC := hide HC0
  have HB := hid_mk hb0
  have HMV := hide (moved_any s hs _ n (Nat.le_refl _) hl hr)
  have HG := hid_mk hG
  have HKA := hid_mk hk
  obtain ⟨i0, hi0, hz0, hz1, hz2⟩ := bool_parts
  obtain ⟨j0, hj0, hy0, hy1, hy2⟩ := int_parts
  have hz3 : i0.bytes * (s.size + 1) ≤ 281474976710656 := by rw [hz2]; omega
  have hsz : (s.size + 1 : Nat) ≤ 9223372036854775807 := by omega
  have f1 : decide ((s.size : Int) < (i : Int)) = false := by simp; omega
  have f2 : decide (s.size < i) = false := by simp; omega
  have hi2 : (i : Int) < (s.size : Int) + 1 := by omega
  have hi3 : i < s.size + 1 := by omega
  clear hG hsa hk hl hb0 HC0 hr
  go_enter Tryd.func22, Tryd.ntmps22
  go_wp2_with fail
  refine (unhide HC).mono ?_
  rintro e w1 ⟨rfl, hb1⟩
  have HB1 := hid_mk (HB.out.trans (hb1.mono HB.out.size))
  have hn1 := (Blk.new w #[.int .i64 (n.kind), .int .u64 ((n.set).a.toNat : Int), .int .u64 ((n.set).b.toNat : Int), .int .u64 ((n.set).c.toNat : Int), .int .u64 ((n.set).d.toNat : Int), .slice (A) (n.kids.length) (ca), .int .i64 (n.min), .int .i64 (n.max)] 28).call hb1
  (have n0 : w1.cell? ⟨w.heap.size, 0, none⟩ = some (.int .i64 (n.kind)) := hn1.cell 0; have n1 : w1.cell? ⟨w.heap.size, 1, none⟩ = some (.int .u64 ((n.set).a.toNat : Int)) := hn1.cell 1; have n2 : w1.cell? ⟨w.heap.size, 2, none⟩ = some (.int .u64 ((n.set).b.toNat : Int)) := hn1.cell 2; have n3 : w1.cell? ⟨w.heap.size, 3, none⟩ = some (.int .u64 ((n.set).c.toNat : Int)) := hn1.cell 3; have n4 : w1.cell? ⟨w.heap.size, 4, none⟩ = some (.int .u64 ((n.set).d.toNat : Int)) := hn1.cell 4; have n5 : w1.cell? ⟨w.heap.size, 5, none⟩ = some (.slice (A) (n.kids.length) (ca)) := hn1.cell 5; have n6 : w1.cell? ⟨w.heap.size, 6, none⟩ = some (.int .i64 (n.min)) := hn1.cell 6; have n7 : w1.cell? ⟨w.heap.size, 7, none⟩ = some (.int .i64 (n.max)) := hn1.cell 7; have nf : ∀ i, w1.frozen? ⟨w.heap.size, i, none⟩ = false := hn1.frozen)
  have hzw : w.heap.size < w1.heap.size := hn1.lt
  have cv : (madeCells #[.bool false] (s.size + 1))[i]? = some (.bool false) := by rw [← Array.getElem?_toList, toList_madeCells_one]; simp [hi3]
  have HMS := hid_mk (marks_single w1 (s.size + 1) i hi3 (by omega))
  have HSI := hid_mk (Mx.sup_single hi3)
  clear hb1 hn1
  go_wp2_with (refine wpList_make_row _ rfl _ _ 62 rfl 4 i0 (.bool false) Tryd.underlying62 hi0 hz0 hz1 rfl .i64 .i64 (s.size + 1) rfl rfl hz3 hsz ?_)
  have hb2 : Below w.heap.size w (w1.alloc (.cells ((madeCells #[.bool false] (s.size + 1)).setIfInBounds i (.bool true)) 4)) := HB1.out.alloc HB1.out.size _
  refine (unhide HMV A ca G w1.heap.size (s.size + 1) (Mx.single i) _ (fun b hb => Nat.lt_of_lt_of_le (HG.out b hb) hb2.size) (kids_two HKA.out hb2 HG.out) HMS.out HSI.out).mono ?_
  rintro e w3 ⟨gm, cm, rfl, hm3, hg3, hb3⟩
  have HB3 := hid_mk (hb2.trans (hb3.mono hb2.size))
  generalize Mx.sp s.data.toList n (Mx.single i) = m at *
  have HX0 : Hid (EndsAt (s.size + 1) m w3.heap.size gm cm w (.slice none 0 0) (.int .i64 ((0 : Nat) : Int)) w3) := hid_mk ⟨0, rfl, Nat.zero_le _, World.ownsRow_nil _ _ _ _, hm3, hm3.lt, HB3.out, Nat.le_refl _⟩
  have HW3 := hid_mk HB3.out.size
  clear hb2 hb3 hm3 n0 n1 n2 n3 n4 n5 n6 n7 nf cv
  go_wp2
  go_loopw [8, 36] (fun u v wr => EndsAt (s.size + 1) m w3.heap.size gm cm w u v wr) (fun _ v _ => s.size + 1 - (intOf v).toNat)
  case atStart => exact HX0.out
  case round =>
    clear HX0
    obtain ⟨k, rfl, hkN, hown, hm, hgm, hb, hB⟩ := hrel
    by_cases hlt : k < s.size + 1
    · have cm1 : wr.cell? ⟨gm, k, none⟩ = some (.bool (m k)) := hm.cell hlt
      have hi4 : (k : Int) < (s.size : Int) + 1 := by omega
      have HPS := hid_mk (places_succ m k)
      have hpl := places_len m k
      cases hmk : m k with
      | false =>
        rw [hmk] at cm1
        have HX : Hid (EndsAt (s.size + 1) m w3.heap.size gm cm w u8 (.int .i64 ((k + 1 : Nat) : Int)) wr) := hid_mk (by
          have hps := HPS.out
          rw [hmk, if_neg (by decide)] at hps
          exact ⟨k + 1, rfl, by omega, by rw [hps]; exact hown, hm, hgm, hb, hB⟩)
        clear hown hm hb hmk HPS
        go_wp2
        go_roundw
        case rel => exact HX.out
        case measure => simp [intOf]; omega
      | true =>
        rw [hmk] at cm1
        have hps := HPS.out
        rw [hmk, if_pos rfl] at hps
        have HP2 := hid_mk hps
        have HM := hid_mk hm
        have HBR := hid_mk hb
        have HLB := hid_mk (fun g hg => (hown.lt g hg).1)
        have HNB := hid_mk (World.news_of_block (Blk.new wr #[.int .i64 (k : Nat)] 3))
        have hownA := hown.alloc (.cells #[.int .i64 (k : Nat)] 3)
        clear hown hm hb hmk HPS hps
        go_wp2_with (at_builtin; refine wpList_append_own_at _ rfl _ _ 43 rfl w3.heap.size 3 j0 _ 1 8 Tryd.underlying43 hj0 hy0 hy1 hy2 rfl (by decide) _ _ (intCells (places k m)) rfl hownA ⟨wr.heap.size, 0, none⟩ 1 1 [.int .i64 (k : Nat)] rfl rfl ?c1 ?c2 ?c3 ?c4 ?c5 ?_)
        case c2 => rfl
        case c3 => unfold maxLen; omega
        case c4 => omega
        case c5 => first | omega | (simp; omega)
        intro v' w' hown' hg hnil hat
        have HX : Hid (EndsAt (s.size + 1) m w3.heap.size gm cm w v' (.int .i64 ((k + 1 : Nat) : Int)) w') := hid_mk
          ⟨k + 1, rfl, by omega, by rw [HP2.out]; simpa [intCells] using hown', (HM.out.call ((Below.refl _ _).alloc (Nat.le_refl _) _)).keep (hg.block gm (by have := HM.out.lt; simp; omega) (fun e => by have := HLB.out gm e.symm; omega)), hgm, (HBR.out.alloc HBR.out.size _).grown hg (by have := HBR.out.size; simp; omega) (fun g hg' => by have := HLB.out g hg'; have := HW3.out; omega), by have := hg.size; simp at this; omega⟩
        clear hown' hg hnil hat
        go_wp2
        go_roundw
        case rel => exact HX.out
        case measure => simp [intOf]; omega
    · obtain rfl : k = s.size + 1 := by omega
      have HO := hid_mk (ints_base hown HW3.out)
      have HB4 := hid_mk hb
      clear hown hm hb
      go_wp2
      exact bodyPost_ret (v := u8) (by simp [results, Tryd.results22, go_sem]) rfl ⟨_, rfl, HO.out, HB4.out⟩
theorem ends_any (s : ByteArray) (n : Node) (at_ : Int) (hl : n.lens) (hs : s.size ≤ 90000) (A : Option Addr) (ca : Nat) (G : Nat → Prop) (w : World) (hG : ∀ x, G x → x < w.heap.size) (hsa : SlOk A n.kids.length ca) (hk : KidsAt G w A n.kids) :
    Calls Tryd.prog 22 #[.agg #[.int .i64 (n.kind), .int .u64 ((n.set).a.toNat : Int), .int .u64 ((n.set).b.toNat : Int), .int .u64 ((n.set).c.toNat : Int), .int .u64 ((n.set).d.toNat : Int), .slice (A) (n.kids.length) (ca), .int .i64 (n.min), .int .i64 (n.max)], .string s, .int .i64 at_] w (RetInts (endsL n s.data.toList at_) w) := by
  unfold endsL
  by_cases h : Rx.right n = true ∧ 0 ≤ at_ ∧ at_ ≤ s.data.toList.length
  · rw [if_pos h]
    obtain ⟨h1, h2, h3⟩ := h
    rw [len_data] at h3
    obtain ⟨i, rfl⟩ : ∃ i : Nat, at_ = (i : Int) := ⟨at_.toNat, by omega⟩
    have := ends_go s n i h1 (by omega) hl hs A ca G w hG hsa hk
    rwa [Int.toNat_natCast, len_data]
  · rw [if_neg h]
    rw [len_data] at h
    exact ends_nil s n at_ h hl hs A ca G w hG hsa hk
/-- the place of a number in a row; below zero: it is not there -/
def RetIx (l : List Nat) (x : Nat) (w : World) (e : Ending) (w' : World) : Prop := ∃ r : Int, e = .returned (.int .i64 r) ∧ (0 ≤ r ↔ x ∈ l) ∧ w = w'
theorem index_any (l : List Nat) (x : Nat) (v : Value) (base : Nat) (w : World) (hl : l.length ≤ 100000) (hv : w.ownsRow base 3 1 v l.length (intCells l)) : Calls Tryd.prog 50 #[v, .int .i64 x] w (RetIx l x w) := by
  rcases hv.2 with ⟨rfl, h0⟩ | ⟨g, cap, cur, rfl, hbg, hgl, hnc, hcm, hcs, hct⟩
  · have hle : l = [] := List.eq_nil_of_length_eq_zero h0
    subst hle
    clear hv h0
    go_enter Tryd.func50, Tryd.ntmps50
    go_wp2
    go_loopw [8] (fun v wr => v = .int .i64 ((0 : Nat) : Int) ∧ wr = w) (fun _ _ => 0)
    case atStart => exact ⟨rfl, rfl⟩
    case round =>
      obtain ⟨rfl, rfl⟩ := hrel
      go_wp2
      exact bodyPost_ret (v := .int .i64 (-1)) (by simp [results, Tryd.results50, go_sem]) rfl ⟨-1, rfl, by simp, rfl⟩
  · have HO := hid_mk hv
    have HC : Hid (∀ j, j < l.length → ∀ y, l[j]? = some y → w.cell? ⟨g, j, none⟩ = some (.int .i64 (y : Nat))) := hid_mk (fun j hj y hy => by
      have h1 := hv.cells (g := g) rfl j (.int .i64 (y : Nat)) (by simp [intCells, hy])
      rw [add_off, Nat.zero_add] at h1
      exact h1)
    clear hv hbg hgl hnc hcm hcs hct
    go_enter Tryd.func50, Tryd.ntmps50
    go_wp2
    go_loopw [8] (fun v wr => ∃ k : Nat, v = .int .i64 (k : Nat) ∧ k ≤ l.length ∧ (∀ j y, j < k → l[j]? = some y → y ≠ x) ∧ wr = w) (fun v _ => l.length - (intOf v).toNat)
    case atStart => exact ⟨0, rfl, Nat.zero_le _, fun j y h => absurd h (by omega), rfl⟩
    case round =>
      obtain ⟨k, rfl, hk, hno, rfl⟩ := hrel
      by_cases hlt : k < l.length
      · obtain ⟨y, hy⟩ : ∃ y, l[k]? = some y := ⟨l[k], List.getElem?_eq_getElem hlt⟩
        have cy := HC.out k hlt y hy
        have HNO := hid_mk hno
        have HY := hid_mk hy
        clear hno hy
        by_cases hxy : x = y
        · have e1 : ((x : Int) == (y : Int)) = true := by simp [hxy]
          have e2 : (x == y) = true := by simp [hxy]
          have HM : Hid (x ∈ l) := hid_mk (by rw [hxy]; exact List.mem_of_getElem? HY.out)
          clear hxy
          go_wp2
          exact bodyPost_ret (v := .int .i64 (k : Nat)) (by simp [results, Tryd.results50, go_sem]) rfl ⟨_, rfl, ⟨fun _ => HM.out, fun _ => by omega⟩, rfl⟩
        · have e1 : ((x : Int) == (y : Int)) = false := beq_eq_false_iff_ne.2 (by omega)
          have e2 : (x == y) = false := by simpa using hxy
          have HN2 : Hid (∀ j y, j < k + 1 → l[j]? = some y → y ≠ x) := hid_mk (fun j z hj hz => by
            rcases Nat.lt_or_ge j k with h1 | h1
            · exact HNO.out j z h1 hz
            · obtain rfl : j = k := by omega
              rw [HY.out] at hz
              cases hz
              exact fun e => hxy e.symm)
          clear hxy HNO
          go_wp2
          go_roundw
          case rel => exact ⟨k + 1, by go_num, by omega, HN2.out, by first | rfl | trivial⟩
          case measure => simp [intOf]; omega
      · obtain rfl : k = l.length := by omega
        have HM : Hid (¬ x ∈ l) := hid_mk (fun h => by
          obtain ⟨j, hj, e⟩ := List.mem_iff_getElem.1 h
          exact hno j x hj (by rw [List.getElem?_eq_getElem hj, e]) rfl)
        clear hno
        go_wp2
        exact bodyPost_ret (v := .int .i64 (-1)) (by simp [results, Tryd.results50, go_sem]) rfl ⟨-1, rfl, ⟨fun h => absurd h (by decide), fun h => absurd h HM.out⟩, rfl⟩
theorem contains_any (l : List Nat) (x : Nat) (v : Value) (base : Nat) (w : World) (hl : l.length ≤ 100000) (hv : w.ownsRow base 3 1 v l.length (intCells l)) : Calls Tryd.prog 36 #[v, .int .i64 x] w (Ret (.bool (decide (x ∈ l))) w) := by
  have HI := hide (index_any l x v base w hl hv)
  clear hv
  go_enter Tryd.func36, Tryd.ntmps36
  go_wp2_with fail
  refine (unhide HI).mono ?_
  rintro e w1 ⟨r, rfl, hr, rfl⟩
  by_cases h : x ∈ l
  · have h1 : decide (0 ≤ r) = true := by simpa using hr.2 h
    have HD := hid_mk (decide_eq_true h)
    clear hr h
    go_wp2
    exact bodyPost_ret (v := .bool true) (by simp [results, Tryd.results36, go_sem]) rfl ⟨by rw [HD.out], rfl⟩
  · have h1 : decide (0 ≤ r) = false := by have : ¬ 0 ≤ r := fun h' => h (hr.1 h'); simpa using this
    have HD := hid_mk (decide_eq_false h)
    clear hr h
    go_wp2
    exact bodyPost_ret (v := .bool false) (by simp [results, Tryd.results36, go_sem]) rfl ⟨by rw [HD.out], rfl⟩
/-- is a text one of a tree's? -/
def matchB (n : Node) (l : List UInt8) : Bool := decide (l.length ∈ endsL n l 0)
theorem endsL_len (n : Node) (l : List UInt8) (i : Int) : (endsL n l i).length ≤ l.length + 1 := by
  unfold endsL
  split
  · exact places_len _ _
  · simp
theorem match_any (s : ByteArray) (n : Node) (hl : n.lens) (hs : s.size ≤ 90000) (A : Option Addr) (ca : Nat) (G : Nat → Prop) (w : World) (hG : ∀ x, G x → x < w.heap.size) (hsa : SlOk A n.kids.length ca) (hk : KidsAt G w A n.kids) :
    Calls Tryd.prog 24 #[.agg #[.int .i64 (n.kind), .int .u64 ((n.set).a.toNat : Int), .int .u64 ((n.set).b.toNat : Int), .int .u64 ((n.set).c.toNat : Int), .int .u64 ((n.set).d.toNat : Int), .slice (A) (n.kids.length) (ca), .int .i64 (n.min), .int .i64 (n.max)], .string s] w (RetG (.bool (matchB n s.data.toList)) w) := by
  have hb0 : Below w.heap.size w (w.alloc (.cells #[.int .i64 (n.kind), .int .u64 ((n.set).a.toNat : Int), .int .u64 ((n.set).b.toNat : Int), .int .u64 ((n.set).c.toNat : Int), .int .u64 ((n.set).d.toNat : Int), .slice (A) (n.kids.length) (ca), .int .i64 (n.min), .int .i64 (n.max)] 28)) := (Below.refl _ _).alloc (Nat.le_refl _) _
  have HC := hide (ends_any s n 0 hl hs A ca G (w.alloc (.cells #[.int .i64 (n.kind), .int .u64 ((n.set).a.toNat : Int), .int .u64 ((n.set).b.toNat : Int), .int .u64 ((n.set).c.toNat : Int), .int .u64 ((n.set).d.toNat : Int), .slice (A) (n.kids.length) (ca), .int .i64 (n.min), .int .i64 (n.max)] 28)) (fun x hx => Nat.lt_of_lt_of_le (hG x hx) hb0.size) hsa (kids_two hk hb0 hG))
  have HB := hid_mk hb0
  have hle := endsL_len n s.data.toList 0
  rw [len_data] at hle
  have HE : Hid (matchB n s.data.toList = decide (s.size ∈ endsL n s.data.toList 0)) := hid_mk (by unfold matchB; rw [len_data])
  rw [HE.out]
  clear hG hsa hk hl hb0 HE
  generalize endsL n s.data.toList 0 = l at *
  go_enter Tryd.func24, Tryd.ntmps24
  go_wp2_with fail
  refine (unhide HC).mono ?_
  rintro e w1 ⟨v, rfl, hown, hb1⟩
  have HB1 := hid_mk (HB.out.trans (hb1.mono HB.out.size))
  have HCT := hide (contains_any l s.size v _ w1 (by omega) hown)
  clear hb1 hown
  go_wp2_with fail
  refine (unhide HCT).mono ?_
  rintro e w2 ⟨rfl, rfl⟩
  go_wp2
  exact bodyPost_ret (v := .bool (decide (s.size ∈ l))) (by simp [results, Tryd.results24, go_sem]) rfl ⟨rfl, HB1.out⟩
/-- a row of numbers as a slice that is read -/
structure IntsAt (w : World) (v : Value) (l : List Nat) : Prop where
  form : (v = .slice none 0 0 ∧ l = []) ∨ ∃ g cap, v = .slice (some ⟨g, 0, none⟩) l.length cap ∧ g < w.heap.size ∧ ∀ j y, l[j]? = some y → w.cell? ⟨g, j, none⟩ = some (.int .i64 (y : Nat))
theorem IntsAt.of {w : World} {v : Value} {l : List Nat} {base : Nat} (h : w.ownsRow base 3 1 v l.length (intCells l)) : IntsAt w v l := by
  refine ⟨?_⟩
  rcases h.2 with ⟨rfl, h0⟩ | ⟨g, cap, cur, rfl, hbg, hgl, hnc, hcm, hcs, hct⟩
  · exact Or.inl ⟨rfl, List.eq_nil_of_length_eq_zero h0⟩
  · refine Or.inr ⟨g, cap, rfl, (h.lt g rfl).2, fun j y hy => ?_⟩
    have h1 := h.cells (g := g) rfl j (.int .i64 (y : Nat)) (by simp [intCells, hy])
    rw [add_off, Nat.zero_add] at h1
    exact h1
theorem IntsAt.below {w w' : World} {v : Value} {l : List Nat} (h : IntsAt w v l) (hb : Below w.heap.size w w') : IntsAt w' v l := by
  refine ⟨h.form.imp id ?_⟩
  rintro ⟨g, cap, h1, h2, h3⟩
  exact ⟨g, cap, h1, Nat.lt_of_lt_of_le h2 hb.size, fun j y hy => (hb.cell (p := ⟨g, j, none⟩) h2).trans (h3 j y hy)⟩
/-- the slice's address, length and capacity; the cells -/
theorem IntsAt.slice {w : World} {v : Value} {l : List Nat} (h : IntsAt w v l) : ∃ (A : Option Addr) (cap : Nat), v = .slice A l.length cap ∧ (0 < l.length → ∃ g, A = some ⟨g, 0, none⟩ ∧ ∀ j y, l[j]? = some y → w.cell? ⟨g, j, none⟩ = some (.int .i64 (y : Nat))) := by
  rcases h.form with ⟨rfl, rfl⟩ | ⟨g, cap, rfl, _, h3⟩
  · exact ⟨none, 0, rfl, fun h => absurd h (by simp)⟩
  · exact ⟨_, cap, rfl, fun _ => ⟨g, rfl, h3⟩⟩
theorem take_all {l m : List Nat} (h : l.length = m.length) (ht : l.take l.length = m.take l.length) : l = m := by rw [List.take_length] at ht; rw [ht, h, List.take_length]
theorem sameints_any (l m : List Nat) (v u : Value) (w : World) (hl : l.length ≤ 100000) (h1 : IntsAt w v l) (h2 : IntsAt w u m) : Calls Tryd.prog 21 #[v, u] w (RetN (.bool (decide (l = m))) w) := by
  obtain ⟨A, ca, rfl, hA⟩ := h1.slice
  obtain ⟨B, cb, rfl, hB⟩ := h2.slice
  clear h1 h2
  by_cases hlen : l.length = m.length
  · have HL := hid_mk hlen
    have g1 : (l.length != m.length) = false := by simp [hlen]
    have g2 : ((l.length : Int) != (m.length : Int)) = false := by simp [hlen]
    have HA := hid_mk hA
    have HBB := hid_mk hB
    clear hlen hA hB
    go_enter Tryd.func21, Tryd.ntmps21
    go_wp2
    go_loopw [5] (fun v wr => ∃ k d : Nat, v = .int .i64 (k : Nat) ∧ k ≤ l.length ∧ l.take k = m.take k ∧ wr = w.drewN d) (fun v _ => l.length - (intOf v).toNat)
    case atStart => exact ⟨0, 0, rfl, Nat.zero_le _, rfl, rfl⟩
    case round =>
      obtain ⟨k, d, rfl, hk, ht, rfl⟩ := hrel
      by_cases hlt : k < l.length
      · have hlm : k < m.length := by have := HL.out; omega
        obtain ⟨ga, rfl, hca⟩ := HA.out (by omega)
        obtain ⟨gb, rfl, hcb⟩ := HBB.out (by omega)
        have ca1 : w.cell? ⟨ga, k, none⟩ = some (.int .i64 (l[k] : Nat)) := hca k _ (List.getElem?_eq_getElem hlt)
        have cb1 : w.cell? ⟨gb, k, none⟩ = some (.int .i64 (m[k] : Nat)) := hcb k _ (List.getElem?_eq_getElem hlm)
        have HTN : Hid (l[k] = m[k] → l.take (k + 1) = m.take (k + 1)) := hid_mk (fun e => by rw [List.take_succ_eq_append_getElem hlt, List.take_succ_eq_append_getElem hlm, ht, e])
        have HNE : Hid (¬ l[k] = m[k] → decide (l = m) = false) := hid_mk (fun e => decide_eq_false (fun h => e (by subst h; rfl)))
        generalize l[k] = x at *
        generalize m[k] = y at *
        clear hca hcb ht
        by_cases hxy : x = y
        · have HT2 := hid_mk (HTN.out hxy)
          have e1 : ((x : Int) != (y : Int)) = false := by simp [hxy]
          clear hxy HTN HNE
          go_wp2
          go_quiet (fail)
          go_wp2
          go_roundw
          case rel => exact ⟨k + 1, _, by go_num, by omega, HT2.out, rfl⟩
          case measure => simp [intOf]; omega
        · have HE := hid_mk (HNE.out hxy)
          have e1 : ((x : Int) != (y : Int)) = true := by simp; omega
          clear hxy HTN HNE
          go_wp2
          go_quiet (fail)
          go_wp2
          exact bodyPost_ret (v := .bool false) (by simp [results, Tryd.results21, go_sem]) rfl ⟨by rw [HE.out], d + nq, by simp [World.drewN, Nat.add_assoc]⟩
      · obtain rfl : k = l.length := by omega
        have HE := hid_mk (decide_eq_true (take_all HL.out ht))
        clear ht
        go_wp2
        exact bodyPost_ret (v := .bool true) (by simp [results, Tryd.results21, go_sem]) rfl ⟨by rw [HE.out], _, rfl⟩
  · have HE := hid_mk (decide_eq_false (show ¬ l = m from fun h => hlen (by rw [h])))
    have g1 : (l.length != m.length) = true := by simpa using hlen
    have g2 : ((l.length : Int) != (m.length : Int)) = true := by simp; omega
    clear hlen hA hB
    go_enter Tryd.func21, Tryd.ntmps21
    go_wp2
    exact bodyPost_ret (v := .bool false) (by simp [results, Tryd.results21, go_sem]) rfl ⟨by rw [HE.out], 0, rfl⟩
end Go.Proofs.YthgcefppeaopkaaDoor
