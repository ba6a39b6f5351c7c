/- Walks over the reference's pattern reader: round brackets. -/
import Derived.Test.YthgcefppeaopkaaDoorRefWI
namespace Go.Proofs.YthgcefppeaopkaaDoor
open Go Go.RowKit Go.Sort
set_option maxRecDepth 100000
set_option linter.unusedSimpArgs false
set_option linter.unusedVariables false
set_option maxHeartbeats 1000000
def RAltOk (s : ByteArray) (op : Int) (atm : Nat → Res Node) : Prop := ∀ (k : Nat), k ≤ s.size → ∀ w : World, Calls Tryd.prog 29 #[.string s, .int .i64 k, .int .i64 op] w (RetPN (Rx.alt s.data.toList atm k) w)
theorem ratom_par_bad (s : ByteArray) (op : Int) (i : Nat) (w : World) (hs : s.size ≤ 1000) (hi : i ≤ s.size) (hop : (0 ≤ op ∧ op ≤ 15) ∧ op ≠ 16) (hc : Rx.pk s.data.toList i = 40) (atm : Nat → Res Node) (HA : RAltOk s (op + 1) atm) (e : Int) (q : Nat) (hr : Rx.alt s.data.toList atm (i + 1) = .bad e q) :
    Calls Tryd.prog 58 #[.string s, .int .i64 i, .int .i64 op] w (RetPN (.bad e q) w) := by
  have h : i < s.size := by simpa using pk_in (l := s.data.toList) (i := i) (by rw [hc]; decide)
  have hx0 : ∃ x, s[i]'h = x := ⟨_, rfl⟩
  obtain ⟨x, hx0⟩ := hx0
  have hp : Rx.pk s.data.toList i = (x.toNat : Int) := by rw [pk_lt h, hx0]
  have hxl := x.toNat_lt
  have HAM := hide (fun w => ramong_any x.toNat ⟨#[41, 93, 123, 125, 124, 42, 43, 63]⟩ w hxl (by decide))
  rw [amongA _ hxl] at HAM
  have hxn : x.toNat = 40 := by rw [hp] at hc; omega
  have hwr : Rx.wrongAtom (x.toNat : Int) = false := by rw [hxn]; rfl
  rw [hwr] at HAM
  have f40 : ((x.toNat : Int) == 40) = true := by rw [hxn]; rfl
  clear hwr hxn hc hp
  have HAL := hide (fun w => HA (i + 1) h w)
  rw [hr] at HAL
  have g1 : (op == 16) = false := by simpa using hop.2
  have g2 := hop.1
  clear HA hr
  go_enter Tryd.func58, Tryd.ntmps58
  go_wp2_with fail
  refine (unhide HAM _).mono ?_
  rintro e w0 ⟨rfl, rfl⟩
  go_wp2_with fail
  refine (unhide HAL _).mono ?_
  rintro x w1 ⟨hb1, hne, a, rfl⟩
  have hbx := fun T => res_box (T := T) (t := 56) hb1
  have hne2 : (e == 0) = false := by simpa using hne
  clear hb1
  go_wp2_with (first | (refine load_row 56 rfl _ rfl w1.heap.size _ 56 (hbx _).2.1 rfl _ Tryd.underlying56 rfl (by kernel_rfl) ?_) | (refine store_row 56 rfl _ _ rfl w.heap.size _ _ 56 (hbx _).1.1 rfl rfl (by kernel_rfl) rfl rfl ?_))
  refine ret_row rfl w.heap.size _ _ (hbx _).1.1.row rfl _ Tryd.underlying56 rfl ?_ rfl ?_
  · kernel_rfl
  · exact ⟨below_row (hbx _).1.2 (Nat.le_refl _) _, hne, _, rfl⟩
theorem ratom_par_open (s : ByteArray) (op : Int) (i : Nat) (w : World) (hs : s.size ≤ 1000) (hi : i ≤ s.size) (hop : (0 ≤ op ∧ op ≤ 15) ∧ op ≠ 16) (hc : Rx.pk s.data.toList i = 40) (atm : Nat → Res Node) (HA : RAltOk s (op + 1) atm) (n : Node) (p : Nat) (hr : Rx.alt s.data.toList atm (i + 1) = .ok n p) (hp0 : p ≤ s.size) (h41 : ¬ Rx.pk s.data.toList p = 41) :
    Calls Tryd.prog 58 #[.string s, .int .i64 i, .int .i64 op] w (RetPN (Rx.other s.data.toList p) w) := by
  have HIS := hide (fun w => ris_any s p 41 w hs (by omega) (by decide))
  rw [decide_eq_false (show ¬ Rx.pk s.data.toList p = ((41 : Nat) : Int) from h41)] at HIS
  obtain ⟨e, q, he, hne⟩ := other_bad s.data.toList p
  have HB := hide (fun w => rother_q s p w hs (by omega) e q he)
  rw [he]
  clear he h41
  have h : i < s.size := by simpa using pk_in (l := s.data.toList) (i := i) (by rw [hc]; decide)
  have hx0 : ∃ x, s[i]'h = x := ⟨_, rfl⟩
  obtain ⟨x, hx0⟩ := hx0
  have hp : Rx.pk s.data.toList i = (x.toNat : Int) := by rw [pk_lt h, hx0]
  have hxl := x.toNat_lt
  have HAM := hide (fun w => ramong_any x.toNat ⟨#[41, 93, 123, 125, 124, 42, 43, 63]⟩ w hxl (by decide))
  rw [amongA _ hxl] at HAM
  have hxn : x.toNat = 40 := by rw [hp] at hc; omega
  have hwr : Rx.wrongAtom (x.toNat : Int) = false := by rw [hxn]; rfl
  rw [hwr] at HAM
  have f40 : ((x.toNat : Int) == 40) = true := by rw [hxn]; rfl
  clear hwr hxn hc hp
  have HAL := hide (fun w => HA (i + 1) h w)
  rw [hr] at HAL
  have g1 : (op == 16) = false := by simpa using hop.2
  have g2 := hop.1
  clear HA hr
  go_enter Tryd.func58, Tryd.ntmps58
  go_wp2_with fail
  refine (unhide HAM _).mono ?_
  rintro e w0 ⟨rfl, rfl⟩
  go_wp2_with fail
  refine (unhide HAL _).mono ?_
  rintro x w1 ⟨hb1, A, cap, rfl, hsl, hk⟩
  have hbx := res_box (T := #[.int .i64 (n.kind), .int .u64 ((n.set).a.toNat : Int), .int .u64 ((n.set).b.toNat : Int), .int .u64 ((n.set).c.toNat : Int), .int .u64 ((n.set).d.toNat : Int), .slice (A) (n.kids.length) (cap), .int .i64 (n.min), .int .i64 (n.max), .int .u64 0, .int .u64 0, .int .u64 0, .int .u64 0, .bool false, .int .i64 ((p : Nat)), .int .i64 0, .int .i64 0]) (t := 56) hb1
  clear hb1 hk
  go_wp2_with fail
  refine (unhide HIS _).mono ?_
  rintro x w2 ⟨rfl, rfl⟩
  go_wp2_with fail
  refine (unhide HB _).mono ?_
  rintro x w3 ⟨rfl, hb3⟩
  have hr := And.intro (hbx.1.1.call hb3) (hbx.1.2.trans (hb3.mono hbx.1.2.size))
  clear hbx
  (go_wp2_with (refine store_row 56 rfl _ _ rfl w.heap.size _ _ 56 hr.1 rfl rfl (by kernel_rfl) rfl rfl ?_); refine ret_row rfl w.heap.size _ _ hr.1.row rfl _ Tryd.underlying56 rfl ?_ rfl ?_; (kernel_rfl); (exact ⟨below_row hr.2 (Nat.le_refl _) _, ⟨hne, 0, rfl⟩⟩))
theorem ratom_par (s : ByteArray) (op : Int) (i : Nat) (w : World) (hs : s.size ≤ 1000) (hi : i ≤ s.size) (hop : (0 ≤ op ∧ op ≤ 15) ∧ op ≠ 16) (hc : Rx.pk s.data.toList i = 40) (atm : Nat → Res Node) (HA : RAltOk s (op + 1) atm) (n : Node) (p : Nat) (hr : Rx.alt s.data.toList atm (i + 1) = .ok n p) (hp0 : p ≤ s.size) (h41 : Rx.pk s.data.toList p = 41) :
    Calls Tryd.prog 58 #[.string s, .int .i64 i, .int .i64 op] w (RetPN (.ok n (p + 1)) w) := by
  have HIS := hide (fun w => ris_any s p 41 w hs (by omega) (by decide))
  rw [decide_eq_true (show Rx.pk s.data.toList p = ((41 : Nat) : Int) from h41)] at HIS
  clear h41
  have h : i < s.size := by simpa using pk_in (l := s.data.toList) (i := i) (by rw [hc]; decide)
  have hx0 : ∃ x, s[i]'h = x := ⟨_, rfl⟩
  obtain ⟨x, hx0⟩ := hx0
  have hp : Rx.pk s.data.toList i = (x.toNat : Int) := by rw [pk_lt h, hx0]
  have hxl := x.toNat_lt
  have HAM := hide (fun w => ramong_any x.toNat ⟨#[41, 93, 123, 125, 124, 42, 43, 63]⟩ w hxl (by decide))
  rw [amongA _ hxl] at HAM
  have hxn : x.toNat = 40 := by rw [hp] at hc; omega
  have hwr : Rx.wrongAtom (x.toNat : Int) = false := by rw [hxn]; rfl
  rw [hwr] at HAM
  have f40 : ((x.toNat : Int) == 40) = true := by rw [hxn]; rfl
  clear hwr hxn hc hp
  have HAL := hide (fun w => HA (i + 1) h w)
  rw [hr] at HAL
  have g1 : (op == 16) = false := by simpa using hop.2
  have g2 := hop.1
  clear HA hr
  go_enter Tryd.func58, Tryd.ntmps58
  go_wp2_with fail
  refine (unhide HAM _).mono ?_
  rintro e w0 ⟨rfl, rfl⟩
  go_wp2_with fail
  refine (unhide HAL _).mono ?_
  rintro x w1 ⟨hb1, A, cap, rfl, hsl, hk⟩
  have hbx := fun T => res_box (T := T) (t := 56) hb1
  have HK := hid_mk (fun T ds => kids_box (T := T) (tt := 56) (hbx #[]).2.2 hk ds)
  clear hb1 hk
  go_wp2_with fail
  refine (unhide HIS _).mono ?_
  rintro x w2 ⟨rfl, rfl⟩
  go_wp2_with (first | (refine load_row 56 rfl _ rfl w1.heap.size _ 56 (hbx _).2.1 rfl _ Tryd.underlying56 rfl (by kernel_rfl) ?_) | (refine store_row 56 rfl _ _ rfl w.heap.size _ _ 56 (hbx _).1.1 rfl rfl (by kernel_rfl) rfl rfl ?_))
  refine ret_row rfl w.heap.size _ _ (hbx _).1.1.row rfl _ Tryd.underlying56 rfl ?_ rfl ?_
  · kernel_rfl
  · exact ⟨below_row (hbx _).1.2 (Nat.le_refl _) _, A, cap, rfl, hsl, HK.out _ _⟩
theorem ralt_any (s : ByteArray) (op : Int) (atm : Nat → Res Node) (hs : s.size ≤ 1000) (HA : RAtomOk s op atm) (hf : ∀ i, i ≤ s.data.toList.length → Fine s.data.toList i (atm i)) (hz : Rx.Lean2 s.data.toList atm) : RAltOk s op atm := by
  intro i hi w
  have HC : RCatOk s op atm := fun k hk w => rcat_any s op atm HA hf hz k w hs hk
  have hfc := fine_cat s.data.toList atm hf i (by simpa using hi)
  cases hit : Rx.cat s.data.toList atm i with
  | out => rw [hit] at hfc; exact hfc.elim
  | bad e q => exact ralt_bad s op atm HC i w hs hi e q hit
  | ok n p =>
    rw [hit] at hfc
    have hp : i ≤ p ∧ p ≤ s.size := by have := hfc.1; have := hfc.2; simp at *; omega
    by_cases hb : Rx.pk s.data.toList p = 124
    · exact ralt_bar s op atm HC hf hz i w hs hi n p hit hp.1 hp.2 hb
    · have e : Rx.alt s.data.toList atm i = .ok n p := (alt_of hit rfl).1 n p (cats_stop hb)
      rw [e]
      exact ralt_one s op atm HC i w hs hi n p hit hp.2 hb
theorem ratom_any (s : ByteArray) (hs : s.size ≤ 1000) : ∀ (d op : Nat), op + d = 16 → RAtomOk s (op : Int) (Rx.atom s.data.toList d) := by
  intro d
  induction d with
  | zero =>
    intro op hop w i hi
    obtain rfl : op = 16 := by omega
    by_cases h1 : Rx.wrongAtom (Rx.pk s.data.toList i) = true
    · have e : Rx.atom s.data.toList 0 i = Rx.other s.data.toList i := by rw [Rx.atom, if_pos h1]
      rw [e]
      by_cases h : i < s.size
      · exact ratom_wrong s _ i w hs hi h h1
      · exact ratom_end s _ i w hs hi (by omega)
    · have h : i < s.size := Decidable.byContradiction fun h => h1 (by rw [pk_ge (by omega)]; rfl)
      by_cases h2 : Rx.pk s.data.toList i = 40
      · have e : Rx.atom s.data.toList 0 i = .bad 3 i := by rw [Rx.atom, if_neg h1, if_pos h2]
        rw [e]; exact ratom_full s _ i w hs hi rfl h2
      · by_cases h3 : Rx.pk s.data.toList i = 46
        · have e : Rx.atom s.data.toList 0 i = .ok (.mk 1 (CSet.between 0 255) [] 0 0) (i + 1) := by rw [Rx.atom, if_neg h1, if_neg h2, if_pos h3]
          rw [e]; exact ratom_dot s _ i w hs hi h3
        · by_cases h4 : Rx.pk s.data.toList i = 91
          · rw [Rx.atom, if_neg h1, if_neg h2, if_neg h3, if_pos h4]
            have HCc := ratom_class s ((16 : Nat) : Int) i w hs hi h4
            cases hcr : Rx.cls s.data.toList (i + 1) <;> rw [hcr] at HCc <;> exact HCc
          · by_cases h5 : Rx.pk s.data.toList i = 92
            · rw [Rx.atom, if_neg h1, if_neg h2, if_neg h3, if_neg h4, if_pos h5]
              exact ratom_esc s _ i w hs hi h5
            · rw [Rx.atom, if_neg h1, if_neg h2, if_neg h3, if_neg h4, if_neg h5]
              exact ratom_else s _ i w hs hi h (by simpa using h1) h2 h3 h4 h5
  | succ d ih =>
    intro op hop w i hi
    by_cases h1 : Rx.wrongAtom (Rx.pk s.data.toList i) = true
    · have e : Rx.atom s.data.toList (d + 1) i = Rx.other s.data.toList i := by rw [Rx.atom, if_pos h1]
      rw [e]
      by_cases h : i < s.size
      · exact ratom_wrong s _ i w hs hi h h1
      · exact ratom_end s _ i w hs hi (by omega)
    · have h : i < s.size := Decidable.byContradiction fun h => h1 (by rw [pk_ge (by omega)]; rfl)
      by_cases h2 : Rx.pk s.data.toList i = 40
      · rw [Rx.atom, if_neg h1, if_pos h2]
        have HA : RAltOk s ((op : Int) + 1) (Rx.atom s.data.toList d) := ralt_any s _ _ hs (ih (op + 1) (by omega)) (fine_atom _ d) (Rx.size_atom _ d)
        have hfa := fine_alt s.data.toList (Rx.atom s.data.toList d) (fine_atom s.data.toList d) (i + 1) (by simp; omega)
        have hop2 : (0 ≤ (op : Int) ∧ (op : Int) ≤ 15) ∧ (op : Int) ≠ 16 := by omega
        cases hr : Rx.alt s.data.toList (Rx.atom s.data.toList d) (i + 1) with
        | out => rw [hr] at hfa; exact hfa.elim
        | bad e q => exact ratom_par_bad s _ i w hs hi hop2 h2 _ HA e q hr
        | ok n p =>
          rw [hr] at hfa
          have hp : p ≤ s.size := by have := hfa.2; simpa using this
          dsimp only
          by_cases h41 : Rx.pk s.data.toList p = 41
          · rw [if_pos h41]; exact ratom_par s _ i w hs hi hop2 h2 _ HA n p hr hp h41
          · rw [if_neg h41]; exact ratom_par_open s _ i w hs hi hop2 h2 _ HA n p hr hp h41
      · by_cases h3 : Rx.pk s.data.toList i = 46
        · have e : Rx.atom s.data.toList (d + 1) i = .ok (.mk 1 (CSet.between 0 255) [] 0 0) (i + 1) := by rw [Rx.atom, if_neg h1, if_neg h2, if_pos h3]
          rw [e]; exact ratom_dot s _ i w hs hi h3
        · by_cases h4 : Rx.pk s.data.toList i = 91
          · rw [Rx.atom, if_neg h1, if_neg h2, if_neg h3, if_pos h4]
            have HCc := ratom_class s (op : Int) i w hs hi h4
            cases hcr : Rx.cls s.data.toList (i + 1) <;> rw [hcr] at HCc <;> exact HCc
          · by_cases h5 : Rx.pk s.data.toList i = 92
            · rw [Rx.atom, if_neg h1, if_neg h2, if_neg h3, if_neg h4, if_pos h5]
              exact ratom_esc s _ i w hs hi h5
            · rw [Rx.atom, if_neg h1, if_neg h2, if_neg h3, if_neg h4, if_neg h5]
              exact ratom_else s _ i w hs hi h (by simpa using h1) h2 h3 h4 h5
/-- the world in which the reference starts -/
def startR (w : World) : World := (w.alloc (.cells #[.int .i64 0, .int .u64 0, .int .u64 0, .int .u64 0, .int .u64 0, .slice none 0 0, .int .i64 0, .int .i64 0] 28)).alloc (.cells #[.int .i64 0, .int .i64 0] 31)
theorem startR_size (w : World) : (startR w).heap.size = w.heap.size + 2 := by simp [startR]
theorem startR_n (w : World) : Blk (startR w) w.heap.size #[.int .i64 0, .int .u64 0, .int .u64 0, .int .u64 0, .int .u64 0, .slice none 0 0, .int .i64 0, .int .i64 0] 28 := Blk.alloc (Blk.new w _ _) _
theorem startR_f (w : World) : Blk (startR w) (w.heap.size + 1) #[.int .i64 0, .int .i64 0] 31 := Blk.newAt (by simp)
theorem startR_below (w : World) : Below w.heap.size w (startR w) := by unfold startR; exact (by repeat (first | with_reducible exact Below.refl _ _ | with_reducible assumption | with_reducible refine Below.setCell ?_ (by first | omega | (dsimp only; omega) | (simp <;> omega)) _ | with_reducible refine Below.alloc ?_ (by first | omega | (simp <;> omega)) _ | with_reducible refine below_drewN ?_ _ | with_reducible refine Below.drew ?_))
theorem rparse_long (s : ByteArray) (w : World) (hs : 256 < s.size) (hm : s.size ≤ maxLen) : Calls Tryd.prog 11 #[.string s] w (RetParse (Rx.parse s.data.toList) w) := by
  have HE : Hid (Rx.parse s.data.toList = (Rx.zero, 3, 256)) := hid_mk (by unfold Rx.parse; rw [if_pos (by simpa using hs)])
  unfold maxLen at hm
  rw [HE.out]
  clear HE
  go_enter Tryd.func11, Tryd.ntmps11
  go_wp2
  refine bodyPost_ret (v := .tuple #[.agg #[.int .i64 0, .int .u64 0, .int .u64 0, .int .u64 0, .int .u64 0, .slice none 0 0, .int .i64 0, .int .i64 0], .agg #[.int .i64 3, .int .i64 256]]) (by simp [results, Tryd.results11, go_sem]) rfl ?_
  exact retParse_bad (by repeat (first | with_reducible exact Below.refl _ _ | with_reducible assumption | with_reducible refine Below.setCell ?_ (by first | omega | (dsimp only; omega) | (simp <;> omega)) _ | with_reducible refine Below.alloc ?_ (by first | omega | (simp <;> omega)) _ | with_reducible refine below_drewN ?_ _ | with_reducible refine Below.drew ?_))
theorem rparse_bad (s : ByteArray) (w : World) (hs : s.size ≤ 256) (e : Int) (q : Nat) (hr : Rx.alt s.data.toList (Rx.atom s.data.toList 16) 0 = .bad e q) : Calls Tryd.prog 11 #[.string s] w (RetParse (Rx.parse s.data.toList) w) := by
  have HE : Hid (Rx.parse s.data.toList = (Rx.zero, e, q)) := hid_mk (by unfold Rx.parse; rw [if_neg (by simpa using hs), hr])
  have HA := hide (ralt_any s 0 _ (by omega) (ratom_any s (by omega) 16 0 rfl) (fine_atom _ 16) (Rx.size_atom _ 16) 0 (Nat.zero_le _) (startR w))
  rw [hr] at HA
  rw [HE.out]
  clear HE hr
  have hs2 : decide ((256 : Int) < (s.size : Int)) = false := by simp; omega
  go_enter Tryd.func11, Tryd.ntmps11
  go_wp2_with fail
  refine (unhide HA).mono ?_
  rintro x w1 ⟨hb1, hne, a, rfl⟩
  have hne2 : (e == 0) = false := by simpa using hne
  have hne3 : (e != 0) = true := by simpa using hne
  have hn1 := (startR_n w).call hb1
  have hf1 := (startR_f w).call hb1
  have hbw := (startR_below w).trans (hb1.mono (startR_below w).size)
  (have r0 : w1.cell? ⟨w.heap.size, 0, none⟩ = some (.int .i64 0) := hn1.cell 0; have r1 : w1.cell? ⟨w.heap.size, 1, none⟩ = some (.int .u64 0) := hn1.cell 1; have r2 : w1.cell? ⟨w.heap.size, 2, none⟩ = some (.int .u64 0) := hn1.cell 2; have r3 : w1.cell? ⟨w.heap.size, 3, none⟩ = some (.int .u64 0) := hn1.cell 3; have r4 : w1.cell? ⟨w.heap.size, 4, none⟩ = some (.int .u64 0) := hn1.cell 4; have r5 : w1.cell? ⟨w.heap.size, 5, none⟩ = some (.slice none 0 0) := hn1.cell 5; have r6 : w1.cell? ⟨w.heap.size, 6, none⟩ = some (.int .i64 0) := hn1.cell 6; have r7 : w1.cell? ⟨w.heap.size, 7, none⟩ = some (.int .i64 0) := hn1.cell 7; have rf : ∀ i, w1.frozen? ⟨w.heap.size, i, none⟩ = false := hn1.frozen)
  have s0 : w1.cell? ⟨w.heap.size + 1, 0, none⟩ = some (.int .i64 0) := hf1.cell 0
  have s1 : w1.cell? ⟨w.heap.size + 1, 1, none⟩ = some (.int .i64 0) := hf1.cell 1
  have sf : ∀ i, w1.frozen? ⟨w.heap.size + 1, i, none⟩ = false := hf1.frozen
  have hl1 : w.heap.size + 1 < w1.heap.size := hf1.lt
  have hl2 : w.heap.size < w1.heap.size := hn1.lt
  have HBW := hid_mk hbw
  clear hb1 hn1 hf1 hbw
  go_wp2
  go_region
  go_wp2
  refine bodyPost_ret (v := .tuple #[.agg #[.int .i64 0, .int .u64 0, .int .u64 0, .int .u64 0, .int .u64 0, .slice none 0 0, .int .i64 0, .int .i64 0], .agg #[.int .i64 e, .int .i64 (q : Nat)]]) (by simp [results, Tryd.results11, go_sem, r0, r1, r2, r3, r4, r5, r6, r7, s0, s1, hl1, hl2]) rfl ?_
  have hbw := HBW.out
  exact retParse_bad (by repeat (first | with_reducible exact Below.refl _ _ | with_reducible assumption | with_reducible refine Below.setCell ?_ (by first | omega | (dsimp only; omega) | (simp <;> omega)) _ | with_reducible refine Below.alloc ?_ (by first | omega | (simp <;> omega)) _ | with_reducible refine below_drewN ?_ _ | with_reducible refine Below.drew ?_))
theorem rparse_more (s : ByteArray) (w : World) (hs : s.size ≤ 256) (n : Node) (p : Nat) (hr : Rx.alt s.data.toList (Rx.atom s.data.toList 16) 0 = .ok n p) (hp : p < s.size) : Calls Tryd.prog 11 #[.string s] w (RetParse (Rx.parse s.data.toList) w) := by
  obtain ⟨e, q, he, hne⟩ := other_bad s.data.toList p
  have HE : Hid (Rx.parse s.data.toList = (Rx.zero, e, q)) := hid_mk (by unfold Rx.parse; rw [if_neg (by simpa using hs), hr]; dsimp only; rw [if_pos (by simpa using hp), he])
  have HA := hide (ralt_any s 0 _ (by omega) (ratom_any s (by omega) 16 0 rfl) (fine_atom _ 16) (Rx.size_atom _ 16) 0 (Nat.zero_le _) (startR w))
  have HB := hide (fun w => rother_q s p w (by omega) (by omega) e q he)
  rw [hr] at HA
  rw [HE.out]
  clear HE hr he
  have hs2 : decide ((256 : Int) < (s.size : Int)) = false := by simp; omega
  go_enter Tryd.func11, Tryd.ntmps11
  go_wp2_with fail
  refine (unhide HA).mono ?_
  rintro x w1 ⟨hb1, A, cap, rfl, hsl, hk⟩
  have hne3 : (e != 0) = true := by simpa using hne
  have hbox : Blk (w1.alloc (.cells #[.int .i64 (n.kind), .int .u64 ((n.set).a.toNat : Int), .int .u64 ((n.set).b.toNat : Int), .int .u64 ((n.set).c.toNat : Int), .int .u64 ((n.set).d.toNat : Int), .slice (A) (n.kids.length) (cap), .int .i64 (n.min), .int .i64 (n.max), .int .u64 0, .int .u64 0, .int .u64 0, .int .u64 0, .bool false, .int .i64 ((p : Nat)), .int .i64 0, .int .i64 0] 56)) w1.heap.size #[.int .i64 (n.kind), .int .u64 ((n.set).a.toNat : Int), .int .u64 ((n.set).b.toNat : Int), .int .u64 ((n.set).c.toNat : Int), .int .u64 ((n.set).d.toNat : Int), .slice (A) (n.kids.length) (cap), .int .i64 (n.min), .int .i64 (n.max), .int .u64 0, .int .u64 0, .int .u64 0, .int .u64 0, .bool false, .int .i64 ((p : Nat)), .int .i64 0, .int .i64 0] 56 := Blk.new _ _ _
  have hn1 := ((startR_n w).call hb1).alloc (.cells #[.int .i64 (n.kind), .int .u64 ((n.set).a.toNat : Int), .int .u64 ((n.set).b.toNat : Int), .int .u64 ((n.set).c.toNat : Int), .int .u64 ((n.set).d.toNat : Int), .slice (A) (n.kids.length) (cap), .int .i64 (n.min), .int .i64 (n.max), .int .u64 0, .int .u64 0, .int .u64 0, .int .u64 0, .bool false, .int .i64 ((p : Nat)), .int .i64 0, .int .i64 0] 56)
  have hf1 := ((startR_f w).call hb1).alloc (.cells #[.int .i64 (n.kind), .int .u64 ((n.set).a.toNat : Int), .int .u64 ((n.set).b.toNat : Int), .int .u64 ((n.set).c.toNat : Int), .int .u64 ((n.set).d.toNat : Int), .slice (A) (n.kids.length) (cap), .int .i64 (n.min), .int .i64 (n.max), .int .u64 0, .int .u64 0, .int .u64 0, .int .u64 0, .bool false, .int .i64 ((p : Nat)), .int .i64 0, .int .i64 0] 56)
  have hbw := ((startR_below w).trans (hb1.mono (startR_below w).size)).alloc (Nat.le_trans (startR_below w).size hb1.size) (.cells #[.int .i64 (n.kind), .int .u64 ((n.set).a.toNat : Int), .int .u64 ((n.set).b.toNat : Int), .int .u64 ((n.set).c.toNat : Int), .int .u64 ((n.set).d.toNat : Int), .slice (A) (n.kids.length) (cap), .int .i64 (n.min), .int .i64 (n.max), .int .u64 0, .int .u64 0, .int .u64 0, .int .u64 0, .bool false, .int .i64 ((p : Nat)), .int .i64 0, .int .i64 0] 56)
  have hlw1 : w.heap.size + 2 ≤ w1.heap.size := by have := hb1.size; rw [startR_size] at this; exact this
  clear hb1 hk
  go_wp2_with fail
  refine (unhide HB _).mono ?_
  rintro x w3 ⟨rfl, hb3⟩
  have hbox3 := hbox.call hb3
  have hn3 := hn1.call hb3
  have hf3 := hf1.call hb3
  have hbw3 := hbw.trans (hb3.mono hbw.size)
  have hbox4 : Blk (w3.setRow w1.heap.size #[.int .i64 0, .int .u64 0, .int .u64 0, .int .u64 0, .int .u64 0, .slice none 0 0, .int .i64 0, .int .i64 0, .int .u64 0, .int .u64 0, .int .u64 0, .int .u64 0, .bool false, .int .i64 (0), .int .i64 (e), .int .i64 ((q : Nat))]) w1.heap.size #[.int .i64 0, .int .u64 0, .int .u64 0, .int .u64 0, .int .u64 0, .slice none 0 0, .int .i64 0, .int .i64 0, .int .u64 0, .int .u64 0, .int .u64 0, .int .u64 0, .bool false, .int .i64 (0), .int .i64 (e), .int .i64 ((q : Nat))] 56 := hbox3.row
  have c14 : (w3.setRow w1.heap.size #[.int .i64 0, .int .u64 0, .int .u64 0, .int .u64 0, .int .u64 0, .slice none 0 0, .int .i64 0, .int .i64 0, .int .u64 0, .int .u64 0, .int .u64 0, .int .u64 0, .bool false, .int .i64 (0), .int .i64 (e), .int .i64 ((q : Nat))]).cell? ⟨w1.heap.size, 14, none⟩ = some (.int .i64 e) := hbox4.cell 14
  have c15 : (w3.setRow w1.heap.size #[.int .i64 0, .int .u64 0, .int .u64 0, .int .u64 0, .int .u64 0, .slice none 0 0, .int .i64 0, .int .i64 0, .int .u64 0, .int .u64 0, .int .u64 0, .int .u64 0, .bool false, .int .i64 (0), .int .i64 (e), .int .i64 ((q : Nat))]).cell? ⟨w1.heap.size, 15, none⟩ = some (.int .i64 (q : Nat)) := hbox4.cell 15
  have hn4 := hn3.rowFar (g' := w1.heap.size) (by omega) #[.int .i64 0, .int .u64 0, .int .u64 0, .int .u64 0, .int .u64 0, .slice none 0 0, .int .i64 0, .int .i64 0, .int .u64 0, .int .u64 0, .int .u64 0, .int .u64 0, .bool false, .int .i64 (0), .int .i64 (e), .int .i64 ((q : Nat))]
  have hf4 := hf3.rowFar (g' := w1.heap.size) (by omega) #[.int .i64 0, .int .u64 0, .int .u64 0, .int .u64 0, .int .u64 0, .slice none 0 0, .int .i64 0, .int .i64 0, .int .u64 0, .int .u64 0, .int .u64 0, .int .u64 0, .bool false, .int .i64 (0), .int .i64 (e), .int .i64 ((q : Nat))]
  have hbw4 := below_row hbw3 (g := w1.heap.size) (by omega) #[.int .i64 0, .int .u64 0, .int .u64 0, .int .u64 0, .int .u64 0, .slice none 0 0, .int .i64 0, .int .i64 0, .int .u64 0, .int .u64 0, .int .u64 0, .int .u64 0, .bool false, .int .i64 (0), .int .i64 (e), .int .i64 ((q : Nat))]
  have HB4 := hid_mk hbw4
  (have r0 : (w3.setRow w1.heap.size #[.int .i64 0, .int .u64 0, .int .u64 0, .int .u64 0, .int .u64 0, .slice none 0 0, .int .i64 0, .int .i64 0, .int .u64 0, .int .u64 0, .int .u64 0, .int .u64 0, .bool false, .int .i64 (0), .int .i64 (e), .int .i64 ((q : Nat))]).cell? ⟨w.heap.size, 0, none⟩ = some (.int .i64 0) := hn4.cell 0; have r1 : (w3.setRow w1.heap.size #[.int .i64 0, .int .u64 0, .int .u64 0, .int .u64 0, .int .u64 0, .slice none 0 0, .int .i64 0, .int .i64 0, .int .u64 0, .int .u64 0, .int .u64 0, .int .u64 0, .bool false, .int .i64 (0), .int .i64 (e), .int .i64 ((q : Nat))]).cell? ⟨w.heap.size, 1, none⟩ = some (.int .u64 0) := hn4.cell 1; have r2 : (w3.setRow w1.heap.size #[.int .i64 0, .int .u64 0, .int .u64 0, .int .u64 0, .int .u64 0, .slice none 0 0, .int .i64 0, .int .i64 0, .int .u64 0, .int .u64 0, .int .u64 0, .int .u64 0, .bool false, .int .i64 (0), .int .i64 (e), .int .i64 ((q : Nat))]).cell? ⟨w.heap.size, 2, none⟩ = some (.int .u64 0) := hn4.cell 2; have r3 : (w3.setRow w1.heap.size #[.int .i64 0, .int .u64 0, .int .u64 0, .int .u64 0, .int .u64 0, .slice none 0 0, .int .i64 0, .int .i64 0, .int .u64 0, .int .u64 0, .int .u64 0, .int .u64 0, .bool false, .int .i64 (0), .int .i64 (e), .int .i64 ((q : Nat))]).cell? ⟨w.heap.size, 3, none⟩ = some (.int .u64 0) := hn4.cell 3; have r4 : (w3.setRow w1.heap.size #[.int .i64 0, .int .u64 0, .int .u64 0, .int .u64 0, .int .u64 0, .slice none 0 0, .int .i64 0, .int .i64 0, .int .u64 0, .int .u64 0, .int .u64 0, .int .u64 0, .bool false, .int .i64 (0), .int .i64 (e), .int .i64 ((q : Nat))]).cell? ⟨w.heap.size, 4, none⟩ = some (.int .u64 0) := hn4.cell 4; have r5 : (w3.setRow w1.heap.size #[.int .i64 0, .int .u64 0, .int .u64 0, .int .u64 0, .int .u64 0, .slice none 0 0, .int .i64 0, .int .i64 0, .int .u64 0, .int .u64 0, .int .u64 0, .int .u64 0, .bool false, .int .i64 (0), .int .i64 (e), .int .i64 ((q : Nat))]).cell? ⟨w.heap.size, 5, none⟩ = some (.slice none 0 0) := hn4.cell 5; have r6 : (w3.setRow w1.heap.size #[.int .i64 0, .int .u64 0, .int .u64 0, .int .u64 0, .int .u64 0, .slice none 0 0, .int .i64 0, .int .i64 0, .int .u64 0, .int .u64 0, .int .u64 0, .int .u64 0, .bool false, .int .i64 (0), .int .i64 (e), .int .i64 ((q : Nat))]).cell? ⟨w.heap.size, 6, none⟩ = some (.int .i64 0) := hn4.cell 6; have r7 : (w3.setRow w1.heap.size #[.int .i64 0, .int .u64 0, .int .u64 0, .int .u64 0, .int .u64 0, .slice none 0 0, .int .i64 0, .int .i64 0, .int .u64 0, .int .u64 0, .int .u64 0, .int .u64 0, .bool false, .int .i64 (0), .int .i64 (e), .int .i64 ((q : Nat))]).cell? ⟨w.heap.size, 7, none⟩ = some (.int .i64 0) := hn4.cell 7; have rf : ∀ i, (w3.setRow w1.heap.size #[.int .i64 0, .int .u64 0, .int .u64 0, .int .u64 0, .int .u64 0, .slice none 0 0, .int .i64 0, .int .i64 0, .int .u64 0, .int .u64 0, .int .u64 0, .int .u64 0, .bool false, .int .i64 (0), .int .i64 (e), .int .i64 ((q : Nat))]).frozen? ⟨w.heap.size, i, none⟩ = false := hn4.frozen)
  have s0 : (w3.setRow w1.heap.size #[.int .i64 0, .int .u64 0, .int .u64 0, .int .u64 0, .int .u64 0, .slice none 0 0, .int .i64 0, .int .i64 0, .int .u64 0, .int .u64 0, .int .u64 0, .int .u64 0, .bool false, .int .i64 (0), .int .i64 (e), .int .i64 ((q : Nat))]).cell? ⟨w.heap.size + 1, 0, none⟩ = some (.int .i64 0) := hf4.cell 0
  have s1 : (w3.setRow w1.heap.size #[.int .i64 0, .int .u64 0, .int .u64 0, .int .u64 0, .int .u64 0, .slice none 0 0, .int .i64 0, .int .i64 0, .int .u64 0, .int .u64 0, .int .u64 0, .int .u64 0, .bool false, .int .i64 (0), .int .i64 (e), .int .i64 ((q : Nat))]).cell? ⟨w.heap.size + 1, 1, none⟩ = some (.int .i64 0) := hf4.cell 1
  have sf : ∀ i, (w3.setRow w1.heap.size #[.int .i64 0, .int .u64 0, .int .u64 0, .int .u64 0, .int .u64 0, .slice none 0 0, .int .i64 0, .int .i64 0, .int .u64 0, .int .u64 0, .int .u64 0, .int .u64 0, .bool false, .int .i64 (0), .int .i64 (e), .int .i64 ((q : Nat))]).frozen? ⟨w.heap.size + 1, i, none⟩ = false := hf4.frozen
  have hl1 : w.heap.size + 1 < (w3.setRow w1.heap.size #[.int .i64 0, .int .u64 0, .int .u64 0, .int .u64 0, .int .u64 0, .slice none 0 0, .int .i64 0, .int .i64 0, .int .u64 0, .int .u64 0, .int .u64 0, .int .u64 0, .bool false, .int .i64 (0), .int .i64 (e), .int .i64 ((q : Nat))]).heap.size := hf4.lt
  have hl2 : w.heap.size < (w3.setRow w1.heap.size #[.int .i64 0, .int .u64 0, .int .u64 0, .int .u64 0, .int .u64 0, .slice none 0 0, .int .i64 0, .int .i64 0, .int .u64 0, .int .u64 0, .int .u64 0, .int .u64 0, .bool false, .int .i64 (0), .int .i64 (e), .int .i64 ((q : Nat))]).heap.size := hn4.lt
  clear hb3 hn4 hf4 hbw4 hbox hbox4 hn1 hf1 hbw hn3 hf3 hbw3
  go_wp2_with (refine store_row 56 rfl _ _ rfl w1.heap.size _ _ 56 hbox3 rfl rfl (by kernel_rfl) rfl rfl ?_)
  go_region
  go_wp2
  refine bodyPost_ret (v := .tuple #[.agg #[.int .i64 0, .int .u64 0, .int .u64 0, .int .u64 0, .int .u64 0, .slice none 0 0, .int .i64 0, .int .i64 0], .agg #[.int .i64 e, .int .i64 (q : Nat)]]) (by simp [results, Tryd.results11, go_sem, r0, r1, r2, r3, r4, r5, r6, r7, s0, s1, hl1, hl2]) rfl ?_
  have hbw := HB4.out
  exact retParse_bad (by repeat (first | with_reducible exact Below.refl _ _ | with_reducible assumption | with_reducible refine Below.setCell ?_ (by first | omega | (dsimp only; omega) | (simp <;> omega)) _ | with_reducible refine Below.alloc ?_ (by first | omega | (simp <;> omega)) _ | with_reducible refine below_drewN ?_ _ | with_reducible refine Below.drew ?_))
theorem rparse_good (s : ByteArray) (w : World) (hs : s.size ≤ 256) (n : Node) (hr : Rx.alt s.data.toList (Rx.atom s.data.toList 16) 0 = .ok n s.size) : Calls Tryd.prog 11 #[.string s] w (RetParse (Rx.parse s.data.toList) w) := by
  have HE : Hid (Rx.parse s.data.toList = (n, 0, 0)) := hid_mk (by unfold Rx.parse; rw [if_neg (by simpa using hs), hr]; dsimp only; rw [if_neg (by simp)])
  have HA := hide (ralt_any s 0 _ (by omega) (ratom_any s (by omega) 16 0 rfl) (fine_atom _ 16) (Rx.size_atom _ 16) 0 (Nat.zero_le _) (startR w))
  rw [hr] at HA
  rw [HE.out]
  clear HE hr
  have hs2 : decide ((256 : Int) < (s.size : Int)) = false := by simp; omega
  have hqq : decide ((s.size : Int) < (s.size : Int)) = false := by simp
  go_enter Tryd.func11, Tryd.ntmps11
  go_wp2_with fail
  refine (unhide HA).mono ?_
  rintro x w1 ⟨hb1, A, cap, rfl, hsl, hk⟩
  obtain ⟨W, hW⟩ : ∃ W, W = w1.alloc (.cells #[.int .i64 (n.kind), .int .u64 ((n.set).a.toNat : Int), .int .u64 ((n.set).b.toNat : Int), .int .u64 ((n.set).c.toNat : Int), .int .u64 ((n.set).d.toNat : Int), .slice (A) (n.kids.length) (cap), .int .i64 (n.min), .int .i64 (n.max), .int .u64 0, .int .u64 0, .int .u64 0, .int .u64 0, .bool false, .int .i64 ((s.size : Nat)), .int .i64 0, .int .i64 0] 56) := ⟨_, rfl⟩
  have hw1W : Below w1.heap.size w1 W := by rw [hW]; exact (Below.refl _ _).alloc (Nat.le_refl _) _
  have hn1 := (((startR_n w).call hb1).alloc (.cells #[.int .i64 (n.kind), .int .u64 ((n.set).a.toNat : Int), .int .u64 ((n.set).b.toNat : Int), .int .u64 ((n.set).c.toNat : Int), .int .u64 ((n.set).d.toNat : Int), .slice (A) (n.kids.length) (cap), .int .i64 (n.min), .int .i64 (n.max), .int .u64 0, .int .u64 0, .int .u64 0, .int .u64 0, .bool false, .int .i64 ((s.size : Nat)), .int .i64 0, .int .i64 0] 56))
  have hf1 := (((startR_f w).call hb1).alloc (.cells #[.int .i64 (n.kind), .int .u64 ((n.set).a.toNat : Int), .int .u64 ((n.set).b.toNat : Int), .int .u64 ((n.set).c.toNat : Int), .int .u64 ((n.set).d.toNat : Int), .slice (A) (n.kids.length) (cap), .int .i64 (n.min), .int .i64 (n.max), .int .u64 0, .int .u64 0, .int .u64 0, .int .u64 0, .bool false, .int .i64 ((s.size : Nat)), .int .i64 0, .int .i64 0] 56)).rowFar (g' := w.heap.size) (by omega) #[.int .i64 (n.kind), .int .u64 ((n.set).a.toNat : Int), .int .u64 ((n.set).b.toNat : Int), .int .u64 ((n.set).c.toNat : Int), .int .u64 ((n.set).d.toNat : Int), .slice (A) (n.kids.length) (cap), .int .i64 (n.min), .int .i64 (n.max)]
  have hlw1 : w.heap.size + 2 ≤ w1.heap.size := by have := hb1.size; rw [startR_size] at this; exact this
  have hbW : Below w.heap.size w W := ((startR_below w).trans (hb1.mono (startR_below w).size)).trans (hw1W.mono (by omega))
  have hV : ∀ ds es, Blk ((W.setRow w.heap.size ds).setRow (w.heap.size + 1) es) w.heap.size ds 28 ∧ Blk ((W.setRow w.heap.size ds).setRow (w.heap.size + 1) es) (w.heap.size + 1) es 31 ∧ RetParse (n, 0, 0) w (.returned (.tuple #[.agg #[.int .i64 (n.kind), .int .u64 ((n.set).a.toNat : Int), .int .u64 ((n.set).b.toNat : Int), .int .u64 ((n.set).c.toNat : Int), .int .u64 ((n.set).d.toNat : Int), .slice (A) (n.kids.length) (cap), .int .i64 (n.min), .int .i64 (n.max)], .agg #[.int .i64 0, .int .i64 0]])) ((W.setRow w.heap.size ds).setRow (w.heap.size + 1) es) := fun ds es =>
    ⟨(((startR_n w).call hb1).call hw1W).row.rowFar (by omega) _, ((((startR_f w).call hb1).call hw1W).rowFar (by omega) _).row, below_row (below_row hbW (Nat.le_refl _) _) (by omega) _, A, cap, rfl, hsl, kidsAt_keep (fun b hb => by
      have h1 := hb.1; rw [startR_size] at h1
      rw [setRow_other _ _ _ (by omega), setRow_other _ _ _ (by omega)]
      exact hw1W.block b hb.2) (fun b hb => by
      have h1 := hb.1; rw [startR_size] at h1
      refine ⟨by omega, ?_⟩
      rw [setRow_size, setRow_size]
      exact Nat.lt_of_lt_of_le hb.2 hw1W.size) hk⟩
  have HV := hid_mk hV
  have HW := hid_mk hW
  clear hb1 hk hV hbW hw1W hW
  go_wp2_with (first | (refine store_row 28 rfl _ _ rfl w.heap.size _ _ 28 hn1 rfl rfl (by kernel_rfl) rfl rfl ?_) | (refine store_row 31 rfl _ _ rfl (w.heap.size + 1) _ _ 31 hf1 rfl rfl (by kernel_rfl) rfl rfl ?_))
  rw [← HW.out]
  obtain ⟨h1, h2, h3⟩ := HV.out #[.int .i64 (n.kind), .int .u64 ((n.set).a.toNat : Int), .int .u64 ((n.set).b.toNat : Int), .int .u64 ((n.set).c.toNat : Int), .int .u64 ((n.set).d.toNat : Int), .slice (A) (n.kids.length) (cap), .int .i64 (n.min), .int .i64 (n.max)] #[.int .i64 0, .int .i64 0]
  generalize (W.setRow w.heap.size #[.int .i64 (n.kind), .int .u64 ((n.set).a.toNat : Int), .int .u64 ((n.set).b.toNat : Int), .int .u64 ((n.set).c.toNat : Int), .int .u64 ((n.set).d.toNat : Int), .slice (A) (n.kids.length) (cap), .int .i64 (n.min), .int .i64 (n.max)]).setRow (w.heap.size + 1) #[.int .i64 0, .int .i64 0] = V at *
  (have y0 : V.cell? ⟨w.heap.size, 0, none⟩ = some (.int .i64 (n.kind)) := h1.cell 0; have y1 : V.cell? ⟨w.heap.size, 1, none⟩ = some (.int .u64 ((n.set).a.toNat : Int)) := h1.cell 1; have y2 : V.cell? ⟨w.heap.size, 2, none⟩ = some (.int .u64 ((n.set).b.toNat : Int)) := h1.cell 2; have y3 : V.cell? ⟨w.heap.size, 3, none⟩ = some (.int .u64 ((n.set).c.toNat : Int)) := h1.cell 3; have y4 : V.cell? ⟨w.heap.size, 4, none⟩ = some (.int .u64 ((n.set).d.toNat : Int)) := h1.cell 4; have y5 : V.cell? ⟨w.heap.size, 5, none⟩ = some (.slice (A) (n.kids.length) (cap)) := h1.cell 5; have y6 : V.cell? ⟨w.heap.size, 6, none⟩ = some (.int .i64 (n.min)) := h1.cell 6; have y7 : V.cell? ⟨w.heap.size, 7, none⟩ = some (.int .i64 (n.max)) := h1.cell 7; have yf : ∀ i, V.frozen? ⟨w.heap.size, i, none⟩ = false := h1.frozen)
  have t0 : V.cell? ⟨w.heap.size + 1, 0, none⟩ = some (.int .i64 0) := h2.cell 0
  have t1 : V.cell? ⟨w.heap.size + 1, 1, none⟩ = some (.int .i64 0) := h2.cell 1
  exact bodyPost_ret (v := .tuple #[.agg #[.int .i64 (n.kind), .int .u64 ((n.set).a.toNat : Int), .int .u64 ((n.set).b.toNat : Int), .int .u64 ((n.set).c.toNat : Int), .int .u64 ((n.set).d.toNat : Int), .slice (A) (n.kids.length) (cap), .int .i64 (n.min), .int .i64 (n.max)], .agg #[.int .i64 0, .int .i64 0]]) (by simp [results, Tryd.results11, go_sem, y0, y1, y2, y3, y4, y5, y6, y7, t0, t1]) rfl h3
theorem rparse_any (s : ByteArray) (w : World) (hm : s.size ≤ maxLen) : Calls Tryd.prog 11 #[.string s] w (RetParse (Rx.parse s.data.toList) w) := by
  by_cases hs : 256 < s.size
  · exact rparse_long s w hs hm
  · have hfi := fine_alt s.data.toList (Rx.atom s.data.toList 16) (fine_atom s.data.toList 16) 0 (Nat.zero_le _)
    cases hr : Rx.alt s.data.toList (Rx.atom s.data.toList 16) 0 with
    | out => rw [hr] at hfi; exact hfi.elim
    | bad e q => exact rparse_bad s w (by omega) e q hr
    | ok n q =>
      rw [hr] at hfi
      have hq0 : q ≤ s.size := by have := hfi.2; simpa using this
      by_cases hq : q < s.size
      · exact rparse_more s w (by omega) n q hr hq
      · obtain rfl : q = s.size := by omega
        exact rparse_good s w (by omega) n hr
end Go.Proofs.YthgcefppeaopkaaDoor
