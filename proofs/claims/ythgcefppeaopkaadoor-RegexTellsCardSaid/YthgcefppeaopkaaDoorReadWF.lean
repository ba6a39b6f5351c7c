/- Walks over the pattern reader: atoms in round brackets; every atom. -/
import Derived.Test.YthgcefppeaopkaaDoorReadWE
namespace Go.Proofs.YthgcefppeaopkaaDoor
open Go Go.RowKit Go.Sort
set_option maxRecDepth 100000
set_option linter.unusedSimpArgs false
set_option linter.unusedVariables false
set_option maxHeartbeats 1000000
theorem PieceAt.step2 {s : ByteArray} {rb op op' q q' : Nat} {w w0 V V' : World} {n : Node} {A : Option Addr} {cap g : Nat} (h : PieceAt s rb op q w w0 V n A cap g) (ho : Only rb V V') (hd : RD s rb q' op' V') : PieceAt s rb op' q' w w0 V' n A cap g :=
  ⟨h.only.step ho, hd, ho.blk (by have := h.rb; omega) h.res, ho.blk (by have := h.rb; have := h.old; have := h.new; omega) h.box, h.sl, kids_only ho (by have := h.rb; have := h.old; omega) h.kids, h.rb, h.old, h.new⟩
/-- behind the opening bracket -/
def atomO (w : World) (rb i op m : Nat) : World := (((w.setCell ⟨rb, 2, none⟩ (.int .i64 ((op : Int) + 1))).setCell ⟨rb, 1, none⟩ (.int .i64 ((i : Int) + 1))).alloc (.cells #[.int .i64 0, .int .u64 0, .int .u64 0, .int .u64 0, .int .u64 0, .slice none 0 0, .int .i64 0, .int .i64 0] 28)).drewN m
theorem atomO_only (w : World) (rb i op m : Nat) : Only rb w (atomO w rb i op m) := ((((Only.refl rb w).set (Or.inl rfl) _).set (Or.inl rfl) _).alloc _).drewN m
theorem atomO_rd {s : ByteArray} {rb i op : Nat} {w : World} (h : RD s rb i op w) (m : Nat) : RD s rb (i + 1) (op + 1) (atomO w rb i op m) := Blk.drewN (Blk.alloc (Blk.put (Blk.put h 2 (.int .i64 ((op : Int) + 1))) 1 (.int .i64 ((i : Int) + 1))) _) m
theorem atomO_blk (w : World) (rb i op m : Nat) : Blk (atomO w rb i op m) w.heap.size #[.int .i64 0, .int .u64 0, .int .u64 0, .int .u64 0, .int .u64 0, .slice none 0 0, .int .i64 0, .int .i64 0] 28 := Blk.drewN (Blk.newAt (by simp [World.setCell])) m
theorem atomO_size (w : World) (rb i op m : Nat) : (atomO w rb i op m).heap.size = w.heap.size + 1 := by simp [atomO, World.setCell]
theorem atom_full (s : ByteArray) (rb i : Nat) (w : World) (h : AtomIn s rb 16 i w) (hc : Rx.pk s.data.toList i = 40) :
    Calls Tryd.prog 55 #[.pointer (some ⟨rb, 0, none⟩)] w (RetNd s rb 16 (.bad 3 i) w) := by
  have hl : rb < w.heap.size := h.rd.lt
  have HP := hide (h.peek 0)
  have hA : RD s rb i 16 (w.alloc (.cells #[.int .i64 0, .int .u64 0, .int .u64 0, .int .u64 0, .int .u64 0, .slice none 0 0, .int .i64 0, .int .i64 0] 28)) := Blk.alloc h.rd _
  have h0 : (w.alloc (.cells #[.int .i64 0, .int .u64 0, .int .u64 0, .int .u64 0, .int .u64 0, .slice none 0 0, .int .i64 0, .int .i64 0] 28)).cell? ⟨rb, 0, none⟩ = some (.string s) := hA.cell 0
  have h1 : (w.alloc (.cells #[.int .i64 0, .int .u64 0, .int .u64 0, .int .u64 0, .int .u64 0, .slice none 0 0, .int .i64 0, .int .i64 0] 28)).cell? ⟨rb, 1, none⟩ = some (.int .i64 ((i : Nat) : Int)) := hA.cell 1
  have h2 : (w.alloc (.cells #[.int .i64 0, .int .u64 0, .int .u64 0, .int .u64 0, .int .u64 0, .slice none 0 0, .int .i64 0, .int .i64 0] 28)).cell? ⟨rb, 2, none⟩ = some (.int .i64 16) := hA.cell 2
  have hf : ∀ i, (w.alloc (.cells #[.int .i64 0, .int .u64 0, .int .u64 0, .int .u64 0, .int .u64 0, .slice none 0 0, .int .i64 0, .int .i64 0] 28)).frozen? ⟨rb, i, none⟩ = false := hA.frozen
  have k0 : w.cell? ⟨rb, 0, none⟩ = some (.string s) := h.rd.cell 0
  have k1 : w.cell? ⟨rb, 1, none⟩ = some (.int .i64 ((i : Nat) : Int)) := h.rd.cell 1
  have k2 : w.cell? ⟨rb, 2, none⟩ = some (.int .i64 16) := h.rd.cell 2
  have kf : ∀ i, w.frozen? ⟨rb, i, none⟩ = false := h.rd.frozen
  rw [hc] at HP
  clear hA h hc
  go_enter Tryd.func55, Tryd.ntmps55
  go_wp2_with fail
  refine (unhide HP).mono ?_
  rintro x w1 ⟨rfl, m, rfl⟩
  go_wp2_with fail
  refine (fail_any _ _ _).mono ?_
  rintro x w2 ⟨rfl, rfl⟩
  exact ⟨rfl, RetNd.bad ((((Only.refl rb w).set (Or.inl rfl) _).alloc _).drewN _)⟩
def parenOf (l : List UInt8) : Res Node → Res Node
  | .ok n p => if Rx.pk l p = 41 then .ok n (p + 1) else Rx.other l p
  | .bad e p => .bad e p
  | .out => .out
theorem atom_paren (s : ByteArray) (rb op d i : Nat) (w : World) (h : AtomIn s rb op i w) (hop : op + 1 ≤ 16) (HA : AtomOk s rb (op + 1) (Rx.atom s.data.toList d)) (hc : Rx.pk s.data.toList i = 40) (R : Res Node) (hR : parenOf s.data.toList (Rx.alt s.data.toList (Rx.atom s.data.toList d) (i + 1)) = R) :
    Calls Tryd.prog 55 #[.pointer (some ⟨rb, 0, none⟩)] w (RetNd s rb op R w) := by
  have hl : rb < w.heap.size := h.rd.lt
  have HP := hide (h.peek 0)
  have hA : RD s rb i op (w.alloc (.cells #[.int .i64 0, .int .u64 0, .int .u64 0, .int .u64 0, .int .u64 0, .slice none 0 0, .int .i64 0, .int .i64 0] 28)) := Blk.alloc h.rd _
  (have h0 : (w.alloc (.cells #[.int .i64 0, .int .u64 0, .int .u64 0, .int .u64 0, .int .u64 0, .slice none 0 0, .int .i64 0, .int .i64 0] 28)).cell? ⟨rb, 0, none⟩ = some (.string s) := hA.cell 0; have h1 : (w.alloc (.cells #[.int .i64 0, .int .u64 0, .int .u64 0, .int .u64 0, .int .u64 0, .slice none 0 0, .int .i64 0, .int .i64 0] 28)).cell? ⟨rb, 1, none⟩ = some (.int .i64 ((i : Nat) : Int)) := hA.cell 1; have h2 : (w.alloc (.cells #[.int .i64 0, .int .u64 0, .int .u64 0, .int .u64 0, .int .u64 0, .slice none 0 0, .int .i64 0, .int .i64 0] 28)).cell? ⟨rb, 2, none⟩ = some (.int .i64 ((op : Nat) : Int)) := hA.cell 2; have hf : ∀ i, (w.alloc (.cells #[.int .i64 0, .int .u64 0, .int .u64 0, .int .u64 0, .int .u64 0, .slice none 0 0, .int .i64 0, .int .i64 0] 28)).frozen? ⟨rb, i, none⟩ = false := hA.frozen)
  (have k0 : w.cell? ⟨rb, 0, none⟩ = some (.string s) := h.rd.cell 0; have k1 : w.cell? ⟨rb, 1, none⟩ = some (.int .i64 ((i : Nat) : Int)) := h.rd.cell 1; have k2 : w.cell? ⟨rb, 2, none⟩ = some (.int .i64 ((op : Nat) : Int)) := h.rd.cell 2; have kf : ∀ i, w.frozen? ⟨rb, i, none⟩ = false := h.rd.frozen)
  have hlt : i < s.size := by simpa using pk_in (l := s.data.toList) (i := i) (by rw [hc]; decide)
  have HAL := hide (fun m => alt_any s rb (i + 1) (op + 1) (Rx.atom s.data.toList d) HA (fine_atom s.data.toList d) (Rx.size_atom s.data.toList d) _ (atomO_rd h.rd m) h.len hlt (h.tab.only (atomO_only w rb i op m) h.ne) h.ne)
  have hfi := fine_alt s.data.toList (Rx.atom s.data.toList d) (fine_atom s.data.toList d) (i + 1) (by simp; omega)
  have hlen := h.len
  rw [hc] at HP
  have HRR := hid_mk hR
  clear hA h hc HA hR
  cases hr : Rx.alt s.data.toList (Rx.atom s.data.toList d) (i + 1) with
  | out => rw [hr] at hfi; exact hfi.elim
  | bad e q =>
    rw [hr] at HAL HRR
    have HE : Hid (R = .bad e q) := hid_mk HRR.out.symm
    rw [HE.out]
    clear hr hfi
    go_enter Tryd.func55, Tryd.ntmps55
    go_wp2_with fail
    refine (unhide HP).mono ?_
    rintro x w1 ⟨rfl, m, rfl⟩
    go_wp2_with fail
    refine (unhide HAL m).mono ?_
    rintro x w3 ⟨ho3, rfl⟩
    exact ⟨rfl, RetNd.bad ((atomO_only w rb i op m).step ho3)⟩
  | ok n p =>
    rw [hr] at HAL hfi HRR
    have hp : p ≤ s.size := by have := hfi.2; simpa using this
    have hic : i + 1 ≤ p := hfi.1
    clear hr hfi
    go_enter Tryd.func55, Tryd.ntmps55
    go_wp2_with fail
    refine (unhide HP).mono ?_
    rintro x w1 ⟨rfl, m, rfl⟩
    go_wp2_with fail
    refine (unhide HAL m).mono ?_
    rintro x w3 ⟨ho3, hd3, A, cap, rfl, hsl, hkk⟩
    have HV : Hid (PieceAt s rb (op + 1) p w (atomO w rb i op m) (w3.alloc (.cells #[.int .i64 (n.kind), .int .u64 ((n.set).a.toNat : Int), .int .u64 ((n.set).b.toNat : Int), .int .u64 ((n.set).c.toNat : Int), .int .u64 ((n.set).d.toNat : Int), .slice (A) (n.kids.length) (cap), .int .i64 (n.min), .int .i64 (n.max)] 28)) n A cap w3.heap.size) := hid_mk
      ⟨((atomO_only w rb i op m).step ho3).alloc _, Blk.alloc hd3 _, Blk.alloc (ho3.blk (by omega) (atomO_blk w rb i op m)) _, Blk.new w3 _ _, hsl, kids_only ((Only.refl rb w3).alloc _) (by rw [atomO_size]; omega) hkk, hl, by rw [atomO_size]; omega, ho3.size⟩
    have hz3 : w.heap.size < w3.heap.size := by have := ho3.size; rw [atomO_size] at this; omega
    have hl3 : rb < w3.heap.size := by omega
    have HND := hide (fun a h => need_any s rb p (op + 1) 41 a h hlen (by omega) (by decide))
    clear ho3 hd3 hsl hkk h0 h1 h2 hf k0 k1 k2 kf
    go_wp2_with fail
    refine (unhide HND _ HV.out.rd).mono ?_
    rintro x w4 ⟨ho4, h4⟩
    by_cases hc5 : Rx.pk s.data.toList p = 41
    · rw [if_pos (show Rx.pk s.data.toList p = ((41 : Nat) : Int) from hc5)] at h4
      obtain ⟨rfl, hd4⟩ := h4
      have HE : Hid (R = .ok n (p + 1)) := hid_mk (by rw [← HRR.out]; exact if_pos hc5)
      have HV4 := hid_mk (HV.out.step2 ho4 hd4)
      (have y0 : w4.cell? ⟨w3.heap.size, 0, none⟩ = some (.int .i64 (n.kind)) := HV4.out.box.cell 0; have y1 : w4.cell? ⟨w3.heap.size, 1, none⟩ = some (.int .u64 ((n.set).a.toNat : Int)) := HV4.out.box.cell 1; have y2 : w4.cell? ⟨w3.heap.size, 2, none⟩ = some (.int .u64 ((n.set).b.toNat : Int)) := HV4.out.box.cell 2; have y3 : w4.cell? ⟨w3.heap.size, 3, none⟩ = some (.int .u64 ((n.set).c.toNat : Int)) := HV4.out.box.cell 3; have y4 : w4.cell? ⟨w3.heap.size, 4, none⟩ = some (.int .u64 ((n.set).d.toNat : Int)) := HV4.out.box.cell 4; have y5 : w4.cell? ⟨w3.heap.size, 5, none⟩ = some (.slice (A) (n.kids.length) (cap)) := HV4.out.box.cell 5; have y6 : w4.cell? ⟨w3.heap.size, 6, none⟩ = some (.int .i64 (n.min)) := HV4.out.box.cell 6; have y7 : w4.cell? ⟨w3.heap.size, 7, none⟩ = some (.int .i64 (n.max)) := HV4.out.box.cell 7; have yf : ∀ i, w4.frozen? ⟨w3.heap.size, i, none⟩ = false := HV4.out.box.frozen)
      (have r0 : w4.cell? ⟨w.heap.size, 0, none⟩ = some (.int .i64 0) := HV4.out.res.cell 0; have r1 : w4.cell? ⟨w.heap.size, 1, none⟩ = some (.int .u64 0) := HV4.out.res.cell 1; have r2 : w4.cell? ⟨w.heap.size, 2, none⟩ = some (.int .u64 0) := HV4.out.res.cell 2; have r3 : w4.cell? ⟨w.heap.size, 3, none⟩ = some (.int .u64 0) := HV4.out.res.cell 3; have r4 : w4.cell? ⟨w.heap.size, 4, none⟩ = some (.int .u64 0) := HV4.out.res.cell 4; have r5 : w4.cell? ⟨w.heap.size, 5, none⟩ = some (.slice none 0 0) := HV4.out.res.cell 5; have r6 : w4.cell? ⟨w.heap.size, 6, none⟩ = some (.int .i64 0) := HV4.out.res.cell 6; have r7 : w4.cell? ⟨w.heap.size, 7, none⟩ = some (.int .i64 0) := HV4.out.res.cell 7; have rf : ∀ i, w4.frozen? ⟨w.heap.size, i, none⟩ = false := HV4.out.res.frozen)
      (have g0 : w4.cell? ⟨rb, 0, none⟩ = some (.string s) := hd4.cell 0; have g1 : w4.cell? ⟨rb, 1, none⟩ = some (.int .i64 (((p + 1) : Nat) : Int)) := hd4.cell 1; have g2 : w4.cell? ⟨rb, 2, none⟩ = some (.int .i64 (((op + 1) : Nat) : Int)) := hd4.cell 2; have gf : ∀ i, w4.frozen? ⟨rb, i, none⟩ = false := hd4.frozen)
      have hz4 : w3.heap.size < w4.heap.size := HV4.out.box.lt
      have hz5 : w.heap.size < w4.heap.size := HV4.out.res.lt
      clear hc5 ho4 hd4 HV HND HP HAL
      go_wp2
      refine bodyPost_ret (v := .agg #[.int .i64 (n.kind), .int .u64 ((n.set).a.toNat : Int), .int .u64 ((n.set).b.toNat : Int), .int .u64 ((n.set).c.toNat : Int), .int .u64 ((n.set).d.toNat : Int), .slice (A) (n.kids.length) (cap), .int .i64 (n.min), .int .i64 (n.max)]) (by simp [results, Tryd.results55, go_sem, r0, r1, r2, r3, r4, r5, r6, r7, hz3, hz4, hz5]) rfl ?_
      rw [HE.out]
      have hd5 : RD s rb (p + 1) op (w4.setCell ⟨rb, 2, none⟩ (.int .i64 (op : Int))) := Blk.put HV4.out.rd 2 (.int .i64 (op : Int))
      exact own_final (HV4.out.step2 ((Only.refl rb w4).set (Or.inl rfl) _) hd5) (set8_only w.heap.size _ _ _ _ _ _ _ _ _)
    · rw [if_neg (show ¬ Rx.pk s.data.toList p = ((41 : Nat) : Int) from hc5)] at h4
      rw [other_eq] at h4
      obtain rfl := h4
      refine ⟨rfl, ?_⟩
      have HE : Hid (R = Rx.other s.data.toList p) := hid_mk (by rw [← HRR.out]; exact if_neg hc5)
      rw [HE.out, other_eq]
      exact RetNd.bad (HV.out.only.step ho4)
/-- every atom -/
theorem atom_any (s : ByteArray) (rb : Nat) (hs : s.size ≤ 1000) (hr : 0 ≠ rb) : ∀ (d op : Nat), op + d = 16 → AtomOk s rb op (Rx.atom s.data.toList d) := by
  intro d
  induction d with
  | zero =>
    intro op hop w i h hT hi
    obtain rfl : op = 16 := by omega
    have H : AtomIn s rb 16 i w := ⟨h, hT, hs, hi, hr⟩
    by_cases h1 : Rx.wrongAtom (Rx.pk s.data.toList i) = true
    · have e : Rx.atom s.data.toList 0 i = Rx.other s.data.toList i := by rw [Rx.atom, if_pos h1]
      rw [e]; exact atom_wrong s rb 16 i w H h1
    · by_cases h2 : Rx.pk s.data.toList i = 40
      · have e : Rx.atom s.data.toList 0 i = .bad 3 i := by rw [Rx.atom, if_neg h1, if_pos h2]
        rw [e]; exact atom_full s rb i w H h2
      · by_cases h3 : Rx.pk s.data.toList i = 46
        · have e : Rx.atom s.data.toList 0 i = .ok (.mk 1 (CSet.between 0 255) [] 0 0) (i + 1) := by rw [Rx.atom, if_neg h1, if_neg h2, if_pos h3]
          rw [e]; exact atom_dot s rb 16 i w H h3
        · by_cases h4 : Rx.pk s.data.toList i = 91
          · rw [Rx.atom, if_neg h1, if_neg h2, if_neg h3, if_pos h4]
            exact atom_class s rb 16 i w H h4
          · by_cases h5 : Rx.pk s.data.toList i = 92
            · rw [Rx.atom, if_neg h1, if_neg h2, if_neg h3, if_neg h4, if_pos h5]
              exact atom_esc s rb 16 i w H h5
            · rw [Rx.atom, if_neg h1, if_neg h2, if_neg h3, if_neg h4, if_neg h5]
              exact atom_else s rb 16 i w H (by simpa using h1) h2 h3 h4 h5
  | succ d ih =>
    intro op hop w i h hT hi
    have H : AtomIn s rb op i w := ⟨h, hT, hs, hi, hr⟩
    by_cases h1 : Rx.wrongAtom (Rx.pk s.data.toList i) = true
    · have e : Rx.atom s.data.toList (d + 1) i = Rx.other s.data.toList i := by rw [Rx.atom, if_pos h1]
      rw [e]; exact atom_wrong s rb op i w H h1
    · by_cases h2 : Rx.pk s.data.toList i = 40
      · rw [Rx.atom, if_neg h1, if_pos h2]
        refine atom_paren s rb op d i w H (by omega) (ih (op + 1) (by omega)) h2 _ ?_
        cases Rx.alt s.data.toList (Rx.atom s.data.toList d) (i + 1) <;> rfl
      · by_cases h3 : Rx.pk s.data.toList i = 46
        · have e : Rx.atom s.data.toList (d + 1) i = .ok (.mk 1 (CSet.between 0 255) [] 0 0) (i + 1) := by rw [Rx.atom, if_neg h1, if_neg h2, if_pos h3]
          rw [e]; exact atom_dot s rb op i w H h3
        · by_cases h4 : Rx.pk s.data.toList i = 91
          · rw [Rx.atom, if_neg h1, if_neg h2, if_neg h3, if_pos h4]
            exact atom_class s rb op i w H h4
          · by_cases h5 : Rx.pk s.data.toList i = 92
            · rw [Rx.atom, if_neg h1, if_neg h2, if_neg h3, if_neg h4, if_pos h5]
              exact atom_esc s rb op i w H h5
            · rw [Rx.atom, if_neg h1, if_neg h2, if_neg h3, if_neg h4, if_neg h5]
              exact atom_else s rb op i w H (by simpa using h1) h2 h3 h4 h5
end Go.Proofs.YthgcefppeaopkaaDoor
