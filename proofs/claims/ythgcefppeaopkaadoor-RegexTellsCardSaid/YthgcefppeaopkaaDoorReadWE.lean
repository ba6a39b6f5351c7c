/- Walks over the pattern reader: atoms. -/
import Derived.Test.YthgcefppeaopkaaDoorReadWD
namespace Go.Proofs.YthgcefppeaopkaaDoor
open Go Go.RowKit Go.Sort
set_option maxRecDepth 100000
set_option linter.unusedSimpArgs false
set_option linter.unusedVariables false
set_option maxHeartbeats 1000000
theorem RD.opened {s : ByteArray} {rb i op : Nat} {w : World} (h : RD s rb i op w) (op' : Nat) (m : Nat) : RD s rb i op' ((w.setCell ⟨rb, 2, none⟩ (.int .i64 (op' : Int))).drewN m) := Blk.drewN (Blk.put h 2 (.int .i64 (op' : Int))) m
theorem set_final {s : ByteArray} {rb op q : Nat} {w W V : World} {S : CSet} (ho : Only rb w W) (hd : RD s rb q op W) (hrb : rb < w.heap.size) (hv : Only w.heap.size W V) :
    RetNd s rb op (.ok (.mk 1 S [] 0 0) q) w (.returned (.agg #[.int .i64 1, .int .u64 ((S).a.toNat : Int), .int .u64 ((S).b.toNat : Int), .int .u64 ((S).c.toNat : Int), .int .u64 ((S).d.toNat : Int), .slice none 0 0, .int .i64 0, .int .i64 0])) V :=
  RetNd.ok (n := .mk 1 S [] 0 0) ⟨hv.os.trans ho.os, hv.tape.trans ho.tape, hv.output.trans ho.output, Nat.le_trans ho.size hv.size, fun k hk' hne => (hv.block k (Nat.lt_of_lt_of_le hk' ho.size) (by omega)).trans (ho.block k hk' hne)⟩ (hv.blk (by omega) hd) SlOk.none_ (fun h => absurd h (by simp [Node.kids]))
/-- what the walk of an atom begins with -/
structure AtomIn (s : ByteArray) (rb op i : Nat) (w : World) : Prop where
  rd : RD s rb i op w
  tab : TabW w
  len : s.size ≤ 1000
  pos : i ≤ s.size
  ne : 0 ≠ rb
theorem AtomIn.peek {s : ByteArray} {rb op i : Nat} {w : World} (h : AtomIn s rb op i w) (m : Nat) : Calls Tryd.prog 38 #[.pointer (some ⟨rb, 0, none⟩)] ((w.alloc (.cells #[.int .i64 0, .int .u64 0, .int .u64 0, .int .u64 0, .int .u64 0, .slice none 0 0, .int .i64 0, .int .i64 0] 28)).drewN m) (RetN (.int .i64 (Rx.pk s.data.toList i)) ((w.alloc (.cells #[.int .i64 0, .int .u64 0, .int .u64 0, .int .u64 0, .int .u64 0, .slice none 0 0, .int .i64 0, .int .i64 0] 28)).drewN m)) :=
  peek_any s rb i op _ (Blk.drewN (Blk.alloc h.rd _) m) h.len (by have := h.pos; have := h.len; omega)
theorem atom_wrong (s : ByteArray) (rb op i : Nat) (w : World) (h : AtomIn s rb op i w) (hw : Rx.wrongAtom (Rx.pk s.data.toList i) = true) :
    Calls Tryd.prog 55 #[.pointer (some ⟨rb, 0, none⟩)] w (RetNd s rb op (Rx.other s.data.toList i) w) := by
  have HP := hide (h.peek 0)
  have HW := hide (fun m => wrong_any s rb i op ((w.alloc (.cells #[.int .i64 0, .int .u64 0, .int .u64 0, .int .u64 0, .int .u64 0, .slice none 0 0, .int .i64 0, .int .i64 0] 28)).drewN m) (Blk.drewN (Blk.alloc h.rd _) m) h.len (by have := h.pos; have := h.len; omega))
  have HO := hid_mk (other_eq (α := Node) s i)
  clear h
  generalize Rx.pk s.data.toList i = c at *
  have hcs : c = -1 ∨ c = 41 ∨ c = 93 ∨ c = 123 ∨ c = 125 ∨ c = 124 ∨ c = 42 ∨ c = 43 ∨ c = 63 := by simpa [Rx.wrongAtom] using hw
  clear hw
  rcases hcs with rfl | rfl | rfl | rfl | rfl | rfl | rfl | rfl | rfl
  all_goals
    go_enter Tryd.func55, Tryd.ntmps55
    go_wp2_with fail
    refine (unhide HP).mono ?_
    rintro x w1 ⟨rfl, m, rfl⟩
    go_wp2_with fail
    refine (unhide HW _).mono ?_
    rintro x w2 ⟨rfl, ho⟩
    refine ⟨rfl, ?_⟩
    rw [HO.out]
    exact RetNd.bad (((Only.refl rb w).alloc _).step (((Only.refl _ _).drewN _).step ho))
/-- behind the step over a byte -/
def atomW (w : World) (rb i m : Nat) : World := ((w.setCell ⟨rb, 1, none⟩ (.int .i64 ((i : Int) + 1))).alloc (.cells #[.int .i64 0, .int .u64 0, .int .u64 0, .int .u64 0, .int .u64 0, .slice none 0 0, .int .i64 0, .int .i64 0] 28)).drewN m
theorem atomW_only (w : World) (rb i m : Nat) : Only rb w (atomW w rb i m) := (((Only.refl rb w).set (Or.inl rfl) _).alloc _).drewN m
theorem atomW_rd {s : ByteArray} {rb i op : Nat} {w : World} (h : RD s rb i op w) (m : Nat) : RD s rb (i + 1) op (atomW w rb i m) := Blk.drewN (Blk.alloc (RD.next h) _) m
theorem atomW_blk (w : World) (rb i m : Nat) : Blk (atomW w rb i m) w.heap.size #[.int .i64 0, .int .u64 0, .int .u64 0, .int .u64 0, .int .u64 0, .slice none 0 0, .int .i64 0, .int .i64 0] 28 := Blk.drewN (Blk.newAt (by simp [World.setCell])) m
theorem pkn {l : List UInt8} {i : Nat} (h : Rx.pk l i ≠ -1) : ∃ n : Nat, n < 256 ∧ Rx.pk l i = (n : Int) := by
  have := pkb l i
  exact ⟨(Rx.pk l i).toNat, by omega, by omega⟩
theorem atom_dot (s : ByteArray) (rb op i : Nat) (w : World) (h : AtomIn s rb op i w) (hc : Rx.pk s.data.toList i = 46) :
    Calls Tryd.prog 55 #[.pointer (some ⟨rb, 0, none⟩)] w (RetNd s rb op (.ok (.mk 1 (CSet.between 0 255) [] 0 0) (i + 1)) w) := by
  have hl : rb < w.heap.size := h.rd.lt
  have HP := hide (h.peek 0)
  have hA : RD s rb i op (w.alloc (.cells #[.int .i64 0, .int .u64 0, .int .u64 0, .int .u64 0, .int .u64 0, .slice none 0 0, .int .i64 0, .int .i64 0] 28)) := Blk.alloc h.rd _
  (have h0 : (w.alloc (.cells #[.int .i64 0, .int .u64 0, .int .u64 0, .int .u64 0, .int .u64 0, .slice none 0 0, .int .i64 0, .int .i64 0] 28)).cell? ⟨rb, 0, none⟩ = some (.string s) := hA.cell 0; have h1 : (w.alloc (.cells #[.int .i64 0, .int .u64 0, .int .u64 0, .int .u64 0, .int .u64 0, .slice none 0 0, .int .i64 0, .int .i64 0] 28)).cell? ⟨rb, 1, none⟩ = some (.int .i64 ((i : Nat) : Int)) := hA.cell 1; have h2 : (w.alloc (.cells #[.int .i64 0, .int .u64 0, .int .u64 0, .int .u64 0, .int .u64 0, .slice none 0 0, .int .i64 0, .int .i64 0] 28)).cell? ⟨rb, 2, none⟩ = some (.int .i64 ((op : Nat) : Int)) := hA.cell 2; have hf : ∀ i, (w.alloc (.cells #[.int .i64 0, .int .u64 0, .int .u64 0, .int .u64 0, .int .u64 0, .slice none 0 0, .int .i64 0, .int .i64 0] 28)).frozen? ⟨rb, i, none⟩ = false := hA.frozen)
  have HI := hid_mk h
  clear hA h
  rw [hc] at HP
  clear hc
  have hpos := HI.out.pos
  have hlen := HI.out.len
  go_enter Tryd.func55, Tryd.ntmps55
  go_wp2_with fail
  refine (unhide HP).mono ?_
  rintro x w1 ⟨rfl, m, rfl⟩
  go_wp2_with fail
  refine (of_any 0 255 (by decide) (by decide) _).mono ?_
  rintro x w3 ⟨rfl, hb3⟩
  have hb3' : Below (atomW w rb i m).heap.size (atomW w rb i m) w3 := by first | exact hb3 | (simpa [atomW] using hb3)
  have HO3 := hid_mk ((atomW_only w rb i m).call hb3')
  have HD3 := hid_mk (Blk.call (atomW_rd HI.out.rd m) hb3')
  have HB3 := hid_mk ((atomW_blk w rb i m).call hb3')
  clear hb3 hb3' h0 h1 h2 hf
  have hr3 := HB3.out
  (have r0 : w3.cell? ⟨w.heap.size, 0, none⟩ = some (.int .i64 0) := hr3.cell 0; have r1 : w3.cell? ⟨w.heap.size, 1, none⟩ = some (.int .u64 0) := hr3.cell 1; have r2 : w3.cell? ⟨w.heap.size, 2, none⟩ = some (.int .u64 0) := hr3.cell 2; have r3 : w3.cell? ⟨w.heap.size, 3, none⟩ = some (.int .u64 0) := hr3.cell 3; have r4 : w3.cell? ⟨w.heap.size, 4, none⟩ = some (.int .u64 0) := hr3.cell 4; have r5 : w3.cell? ⟨w.heap.size, 5, none⟩ = some (.slice none 0 0) := hr3.cell 5; have r6 : w3.cell? ⟨w.heap.size, 6, none⟩ = some (.int .i64 0) := hr3.cell 6; have r7 : w3.cell? ⟨w.heap.size, 7, none⟩ = some (.int .i64 0) := hr3.cell 7; have rf : ∀ i, w3.frozen? ⟨w.heap.size, i, none⟩ = false := hr3.frozen)
  have hz3 : w.heap.size < w3.heap.size := hr3.lt
  clear hr3
  go_wp2
  refine bodyPost_ret (v := .agg #[.int .i64 1, .int .u64 ((CSet.between 0 255).a.toNat : Int), .int .u64 ((CSet.between 0 255).b.toNat : Int), .int .u64 ((CSet.between 0 255).c.toNat : Int), .int .u64 ((CSet.between 0 255).d.toNat : Int), .slice none 0 0, .int .i64 0, .int .i64 0]) (by simp [results, Tryd.results55, go_sem, r0, r1, r2, r3, r4, r5, r6, r7, hz3]) rfl ?_
  exact set_final HO3.out HD3.out hl (set8_only w.heap.size w3 _ _ _ _ _ _ _ _)
theorem atom_else (s : ByteArray) (rb op i : Nat) (w : World) (h : AtomIn s rb op i w) (h1 : Rx.wrongAtom (Rx.pk s.data.toList i) = false) (h2 : ¬ Rx.pk s.data.toList i = 40) (h3 : ¬ Rx.pk s.data.toList i = 46) (h4 : ¬ Rx.pk s.data.toList i = 91) (h5 : ¬ Rx.pk s.data.toList i = 92) :
    Calls Tryd.prog 55 #[.pointer (some ⟨rb, 0, none⟩)] w (RetNd s rb op (.ok (.mk 1 (Rx.one (Rx.pk s.data.toList i)) [] 0 0) (i + 1)) w) := by
  have hl : rb < w.heap.size := h.rd.lt
  have HP := hide (h.peek 0)
  have hA : RD s rb i op (w.alloc (.cells #[.int .i64 0, .int .u64 0, .int .u64 0, .int .u64 0, .int .u64 0, .slice none 0 0, .int .i64 0, .int .i64 0] 28)) := Blk.alloc h.rd _
  (have g0 : (w.alloc (.cells #[.int .i64 0, .int .u64 0, .int .u64 0, .int .u64 0, .int .u64 0, .slice none 0 0, .int .i64 0, .int .i64 0] 28)).cell? ⟨rb, 0, none⟩ = some (.string s) := hA.cell 0; have g1 : (w.alloc (.cells #[.int .i64 0, .int .u64 0, .int .u64 0, .int .u64 0, .int .u64 0, .slice none 0 0, .int .i64 0, .int .i64 0] 28)).cell? ⟨rb, 1, none⟩ = some (.int .i64 ((i : Nat) : Int)) := hA.cell 1; have g2 : (w.alloc (.cells #[.int .i64 0, .int .u64 0, .int .u64 0, .int .u64 0, .int .u64 0, .slice none 0 0, .int .i64 0, .int .i64 0] 28)).cell? ⟨rb, 2, none⟩ = some (.int .i64 ((op : Nat) : Int)) := hA.cell 2; have gf : ∀ i, (w.alloc (.cells #[.int .i64 0, .int .u64 0, .int .u64 0, .int .u64 0, .int .u64 0, .slice none 0 0, .int .i64 0, .int .i64 0] 28)).frozen? ⟨rb, i, none⟩ = false := hA.frozen)
  have HI := hid_mk h
  clear hA h
  obtain ⟨n, hn, hpn⟩ := pkn (l := s.data.toList) (i := i) (by intro e; rw [e] at h1; simp [Rx.wrongAtom] at h1)
  rw [hpn] at h1 h2 h3 h4 h5 HP ⊢
  have hone : Rx.one (n : Int) = CSet.between n n := by simp [Rx.one]
  rw [hone]
  have e := h1
  simp [Rx.wrongAtom] at e
  have e1 : ((n : Int) == -1) = false := beq_eq_false_iff_ne.2 (by omega)
  have e2 : ((n : Int) == 41) = false := beq_eq_false_iff_ne.2 (by omega)
  have e3 : ((n : Int) == 93) = false := beq_eq_false_iff_ne.2 (by omega)
  have e4 : ((n : Int) == 123) = false := beq_eq_false_iff_ne.2 (by omega)
  have e5 : ((n : Int) == 125) = false := beq_eq_false_iff_ne.2 (by omega)
  have e6 : ((n : Int) == 124) = false := beq_eq_false_iff_ne.2 (by omega)
  have e7 : ((n : Int) == 42) = false := beq_eq_false_iff_ne.2 (by omega)
  have e8 : ((n : Int) == 43) = false := beq_eq_false_iff_ne.2 (by omega)
  have e9 : ((n : Int) == 63) = false := beq_eq_false_iff_ne.2 (by omega)
  have f1 : ((n : Int) == 40) = false := by simpa using h2
  have f2 : ((n : Int) == 46) = false := by simpa using h3
  have f3 : ((n : Int) == 91) = false := by simpa using h4
  have f4 : ((n : Int) == 92) = false := by simpa using h5
  have hw : IntKind.u8.wrap (n : Int) = (n : Int) := IntWalk.u8_in _ (by omega)
  clear hpn hone h1 h2 h3 h4 h5 e
  have hpos := HI.out.pos
  have hlen := HI.out.len
  go_enter Tryd.func55, Tryd.ntmps55
  go_wp2_with fail
  refine (unhide HP).mono ?_
  rintro x w1 ⟨rfl, m, rfl⟩
  go_wp2_with fail
  refine (of_any n n hn hn _).mono ?_
  rintro x w3 ⟨rfl, hb3⟩
  have hb3' : Below (atomW w rb i m).heap.size (atomW w rb i m) w3 := by first | exact hb3 | (simpa [atomW] using hb3)
  have HO3 := hid_mk ((atomW_only w rb i m).call hb3')
  have HD3 := hid_mk (Blk.call (atomW_rd HI.out.rd m) hb3')
  have HB3 := hid_mk ((atomW_blk w rb i m).call hb3')
  clear hb3 hb3' g0 g1 g2 gf
  have hr3 := HB3.out
  (have r0 : w3.cell? ⟨w.heap.size, 0, none⟩ = some (.int .i64 0) := hr3.cell 0; have r1 : w3.cell? ⟨w.heap.size, 1, none⟩ = some (.int .u64 0) := hr3.cell 1; have r2 : w3.cell? ⟨w.heap.size, 2, none⟩ = some (.int .u64 0) := hr3.cell 2; have r3 : w3.cell? ⟨w.heap.size, 3, none⟩ = some (.int .u64 0) := hr3.cell 3; have r4 : w3.cell? ⟨w.heap.size, 4, none⟩ = some (.int .u64 0) := hr3.cell 4; have r5 : w3.cell? ⟨w.heap.size, 5, none⟩ = some (.slice none 0 0) := hr3.cell 5; have r6 : w3.cell? ⟨w.heap.size, 6, none⟩ = some (.int .i64 0) := hr3.cell 6; have r7 : w3.cell? ⟨w.heap.size, 7, none⟩ = some (.int .i64 0) := hr3.cell 7; have rf : ∀ i, w3.frozen? ⟨w.heap.size, i, none⟩ = false := hr3.frozen)
  have hz3 : w.heap.size < w3.heap.size := hr3.lt
  clear hr3
  go_wp2
  refine bodyPost_ret (v := .agg #[.int .i64 1, .int .u64 ((CSet.between n n).a.toNat : Int), .int .u64 ((CSet.between n n).b.toNat : Int), .int .u64 ((CSet.between n n).c.toNat : Int), .int .u64 ((CSet.between n n).d.toNat : Int), .slice none 0 0, .int .i64 0, .int .i64 0]) (by simp [results, Tryd.results55, go_sem, r0, r1, r2, r3, r4, r5, r6, r7, hz3]) rfl ?_
  exact set_final HO3.out HD3.out hl (set8_only w.heap.size w3 _ _ _ _ _ _ _ _)
theorem atom_class (s : ByteArray) (rb op i : Nat) (w : World) (h : AtomIn s rb op i w) (hc : Rx.pk s.data.toList i = 91) :
    Calls Tryd.prog 55 #[.pointer (some ⟨rb, 0, none⟩)] w (RetNd s rb op (match Rx.cls s.data.toList (i + 1) with | .ok S p => .ok (.mk 1 S [] 0 0) p | .bad e p => .bad e p | .out => .out) w) := by
  have hl : rb < w.heap.size := h.rd.lt
  have HP := hide (h.peek 0)
  have hA : RD s rb i op (w.alloc (.cells #[.int .i64 0, .int .u64 0, .int .u64 0, .int .u64 0, .int .u64 0, .slice none 0 0, .int .i64 0, .int .i64 0] 28)) := Blk.alloc h.rd _
  (have h0 : (w.alloc (.cells #[.int .i64 0, .int .u64 0, .int .u64 0, .int .u64 0, .int .u64 0, .slice none 0 0, .int .i64 0, .int .i64 0] 28)).cell? ⟨rb, 0, none⟩ = some (.string s) := hA.cell 0; have h1 : (w.alloc (.cells #[.int .i64 0, .int .u64 0, .int .u64 0, .int .u64 0, .int .u64 0, .slice none 0 0, .int .i64 0, .int .i64 0] 28)).cell? ⟨rb, 1, none⟩ = some (.int .i64 ((i : Nat) : Int)) := hA.cell 1; have h2 : (w.alloc (.cells #[.int .i64 0, .int .u64 0, .int .u64 0, .int .u64 0, .int .u64 0, .slice none 0 0, .int .i64 0, .int .i64 0] 28)).cell? ⟨rb, 2, none⟩ = some (.int .i64 ((op : Nat) : Int)) := hA.cell 2; have hf : ∀ i, (w.alloc (.cells #[.int .i64 0, .int .u64 0, .int .u64 0, .int .u64 0, .int .u64 0, .slice none 0 0, .int .i64 0, .int .i64 0] 28)).frozen? ⟨rb, i, none⟩ = false := hA.frozen)
  have HI := hid_mk h
  clear hA h
  have hlt : i < s.size := by simpa using pk_in (l := s.data.toList) (i := i) (by rw [hc]; decide)
  have HCL := hide (fun m => class_any s rb (i + 1) op _ (atomW_rd HI.out.rd m) HI.out.len hlt (HI.out.tab.only (atomW_only w rb i m) HI.out.ne) HI.out.ne)
  have hfi := fine_cls s.data.toList (i + 1) (by simp; omega)
  rw [hc] at HP
  clear hc
  have hpos := HI.out.pos
  have hlen := HI.out.len
  cases hr : Rx.cls s.data.toList (i + 1) with
  | out => rw [hr] at hfi; exact hfi.elim
  | bad e q =>
    rw [hr] at HCL
    clear hr hfi
    go_enter Tryd.func55, Tryd.ntmps55
    go_wp2_with fail
    refine (unhide HP).mono ?_
    rintro x w1 ⟨rfl, m, rfl⟩
    go_wp2_with fail
    refine (unhide HCL m).mono ?_
    rintro x w3 ⟨ho3, rfl⟩
    exact ⟨rfl, RetNd.bad ((atomW_only w rb i m).step ho3)⟩
  | ok S q =>
    rw [hr] at HCL
    clear hr hfi
    go_enter Tryd.func55, Tryd.ntmps55
    go_wp2_with fail
    refine (unhide HP).mono ?_
    rintro x w1 ⟨rfl, m, rfl⟩
    go_wp2_with fail
    refine (unhide HCL m).mono ?_
    rintro x w3 ⟨ho3, rfl, hd3⟩
    have HO3 := hid_mk ((atomW_only w rb i m).step ho3)
    have HD3 := hid_mk hd3
    have HB3 := hid_mk (ho3.blk (by omega) (atomW_blk w rb i m))
    clear ho3 hd3 h0 h1 h2 hf
    have hr3 := HB3.out
    (have r0 : w3.cell? ⟨w.heap.size, 0, none⟩ = some (.int .i64 0) := hr3.cell 0; have r1 : w3.cell? ⟨w.heap.size, 1, none⟩ = some (.int .u64 0) := hr3.cell 1; have r2 : w3.cell? ⟨w.heap.size, 2, none⟩ = some (.int .u64 0) := hr3.cell 2; have r3 : w3.cell? ⟨w.heap.size, 3, none⟩ = some (.int .u64 0) := hr3.cell 3; have r4 : w3.cell? ⟨w.heap.size, 4, none⟩ = some (.int .u64 0) := hr3.cell 4; have r5 : w3.cell? ⟨w.heap.size, 5, none⟩ = some (.slice none 0 0) := hr3.cell 5; have r6 : w3.cell? ⟨w.heap.size, 6, none⟩ = some (.int .i64 0) := hr3.cell 6; have r7 : w3.cell? ⟨w.heap.size, 7, none⟩ = some (.int .i64 0) := hr3.cell 7; have rf : ∀ i, w3.frozen? ⟨w.heap.size, i, none⟩ = false := hr3.frozen)
    have hz3 : w.heap.size < w3.heap.size := hr3.lt
    clear hr3
    go_wp2
    refine bodyPost_ret (v := .agg #[.int .i64 1, .int .u64 ((S).a.toNat : Int), .int .u64 ((S).b.toNat : Int), .int .u64 ((S).c.toNat : Int), .int .u64 ((S).d.toNat : Int), .slice none 0 0, .int .i64 0, .int .i64 0]) (by simp [results, Tryd.results55, go_sem, r0, r1, r2, r3, r4, r5, r6, r7, hz3]) rfl ?_
    exact set_final HO3.out HD3.out hl (set8_only w.heap.size w3 _ _ _ _ _ _ _ _)

theorem atom_esc (s : ByteArray) (rb op i : Nat) (w : World) (h : AtomIn s rb op i w) (hc : Rx.pk s.data.toList i = 92) :
    Calls Tryd.prog 55 #[.pointer (some ⟨rb, 0, none⟩)] w (RetNd s rb op (match Rx.esc s.data.toList i with | .ok (S, _) p => .ok (.mk 1 S [] 0 0) p | .bad e p => .bad e p | .out => .out) w) := by
  have hl : rb < w.heap.size := h.rd.lt
  have HP := hide (h.peek 0)
  have hA : RD s rb i op (w.alloc (.cells #[.int .i64 0, .int .u64 0, .int .u64 0, .int .u64 0, .int .u64 0, .slice none 0 0, .int .i64 0, .int .i64 0] 28)) := Blk.alloc h.rd _
  (have h0 : (w.alloc (.cells #[.int .i64 0, .int .u64 0, .int .u64 0, .int .u64 0, .int .u64 0, .slice none 0 0, .int .i64 0, .int .i64 0] 28)).cell? ⟨rb, 0, none⟩ = some (.string s) := hA.cell 0; have h1 : (w.alloc (.cells #[.int .i64 0, .int .u64 0, .int .u64 0, .int .u64 0, .int .u64 0, .slice none 0 0, .int .i64 0, .int .i64 0] 28)).cell? ⟨rb, 1, none⟩ = some (.int .i64 ((i : Nat) : Int)) := hA.cell 1; have h2 : (w.alloc (.cells #[.int .i64 0, .int .u64 0, .int .u64 0, .int .u64 0, .int .u64 0, .slice none 0 0, .int .i64 0, .int .i64 0] 28)).cell? ⟨rb, 2, none⟩ = some (.int .i64 ((op : Nat) : Int)) := hA.cell 2; have hf : ∀ i, (w.alloc (.cells #[.int .i64 0, .int .u64 0, .int .u64 0, .int .u64 0, .int .u64 0, .slice none 0 0, .int .i64 0, .int .i64 0] 28)).frozen? ⟨rb, i, none⟩ = false := hA.frozen)
  have HI := hid_mk h
  clear hA h
  have HES := hide (fun m => escape_any s rb i op ((w.alloc (.cells #[.int .i64 0, .int .u64 0, .int .u64 0, .int .u64 0, .int .u64 0, .slice none 0 0, .int .i64 0, .int .i64 0] 28)).drewN m) (Blk.drewN (Blk.alloc HI.out.rd _) m) HI.out.len HI.out.pos)
  have hfi := fine_esc s.data.toList i
  rw [hc] at HP
  clear hc h0 h1 h2 hf
  cases hr : Rx.esc s.data.toList i with
  | out => rw [hr] at hfi; exact hfi.elim
  | bad e q =>
    rw [hr] at HES
    clear hr hfi
    go_enter Tryd.func55, Tryd.ntmps55
    go_wp2_with fail
    refine (unhide HP).mono ?_
    rintro x w1 ⟨rfl, m, rfl⟩
    go_wp2_with fail
    refine (unhide HES m).mono ?_
    rintro x w3 ⟨ho3, rfl⟩
    exact ⟨rfl, RetNd.bad ((((Only.refl rb w).alloc _).drewN m).step ho3)⟩
  | ok a q =>
    obtain ⟨S, many⟩ := a
    rw [hr] at HES
    clear hr hfi
    go_enter Tryd.func55, Tryd.ntmps55
    go_wp2_with fail
    refine (unhide HP).mono ?_
    rintro x w1 ⟨rfl, m, rfl⟩
    go_wp2_with fail
    refine (unhide HES m).mono ?_
    rintro x w3 ⟨ho3, rfl, hd3⟩
    have HO3 := hid_mk ((((Only.refl rb w).alloc (.cells #[.int .i64 0, .int .u64 0, .int .u64 0, .int .u64 0, .int .u64 0, .slice none 0 0, .int .i64 0, .int .i64 0] 28)).drewN m).step ho3)
    have HD3 := hid_mk hd3
    have hr3 := ho3.blk (by omega) (Blk.drewN (Blk.new w #[.int .i64 0, .int .u64 0, .int .u64 0, .int .u64 0, .int .u64 0, .slice none 0 0, .int .i64 0, .int .i64 0] 28) m)
    (have r0 : w3.cell? ⟨w.heap.size, 0, none⟩ = some (.int .i64 0) := hr3.cell 0; have r1 : w3.cell? ⟨w.heap.size, 1, none⟩ = some (.int .u64 0) := hr3.cell 1; have r2 : w3.cell? ⟨w.heap.size, 2, none⟩ = some (.int .u64 0) := hr3.cell 2; have r3 : w3.cell? ⟨w.heap.size, 3, none⟩ = some (.int .u64 0) := hr3.cell 3; have r4 : w3.cell? ⟨w.heap.size, 4, none⟩ = some (.int .u64 0) := hr3.cell 4; have r5 : w3.cell? ⟨w.heap.size, 5, none⟩ = some (.slice none 0 0) := hr3.cell 5; have r6 : w3.cell? ⟨w.heap.size, 6, none⟩ = some (.int .i64 0) := hr3.cell 6; have r7 : w3.cell? ⟨w.heap.size, 7, none⟩ = some (.int .i64 0) := hr3.cell 7; have rf : ∀ i, w3.frozen? ⟨w.heap.size, i, none⟩ = false := hr3.frozen)
    have hz3 : w.heap.size < w3.heap.size := hr3.lt
    clear ho3 hd3 hr3
    go_wp2
    refine bodyPost_ret (v := .agg #[.int .i64 1, .int .u64 ((S).a.toNat : Int), .int .u64 ((S).b.toNat : Int), .int .u64 ((S).c.toNat : Int), .int .u64 ((S).d.toNat : Int), .slice none 0 0, .int .i64 0, .int .i64 0]) (by simp [results, Tryd.results55, go_sem, r0, r1, r2, r3, r4, r5, r6, r7, hz3]) rfl ?_
    exact set_final HO3.out HD3.out hl ((set8_only w.heap.size w3 _ _ _ _ _ _ _ _).alloc _)
end Go.Proofs.YthgcefppeaopkaaDoor
