/- Walks over the pattern reader: what the whole catches. -/
import Derived.Test.YthgcefppeaopkaaDoorReadWC
import Derived.Defers
import Derived.Recover
import Derived.Laws.Pointers
namespace Go.Proofs.YthgcefppeaopkaaDoor
open Go Go.RowKit Go.Sort
set_option maxRecDepth 100000
set_option linter.unusedSimpArgs false
set_option linter.unusedVariables false
set_option maxHeartbeats 1000000
theorem catch_idle (g h : Nat) (w : World) :
    CallsD Tryd.prog 26 #[.pointer (some ⟨g, 0, none⟩), .pointer (some ⟨h, 0, none⟩)] .returning w fun e u' w' => e = .returned (.tuple #[]) ∧ u' = .returning ∧ w' = w := by
  refine callsD_of_wpS Tryd.func26 rfl fun c₀ cs hu => ?_
  apply wpS_seq
  apply wpS_region
  simp [wpOpsS, go_sem, recoverD, hu, Tryd.ntmps26, Exit.thenS]
  refine wpS_of_wp ?_
  go_wp2
  cases c₀
  simp_all [bodyPostS, results, Tryd.results26]
theorem catch_fault (g h : Nat) (e p : Int) (older : List PanicEntry) (w : World) (B : Nat) (c0 c1 c2 c3 c4 c5 c6 c7 d0 d1 : Value) (hg : Blk w g #[c0, c1, c2, c3, c4, c5, c6, c7] 28) (hh : Blk w h #[d0, d1] 31) (hgB : B ≤ g) (hhB : B ≤ h) (hne : g ≠ h) :
    CallsD Tryd.prog 26 #[.pointer (some ⟨g, 0, none⟩), .pointer (some ⟨h, 0, none⟩)] (.panicking ({ v := .iface 50 (.agg #[.int .i64 e, .int .i64 p]), recovered := false } :: older)) w fun x u' w' =>
      x = .returned (.tuple #[]) ∧ u' = .panicking ({ v := .iface 50 (.agg #[.int .i64 e, .int .i64 p]), recovered := true } :: older) ∧ Blk w' g #[.int .i64 0, .int .u64 0, .int .u64 0, .int .u64 0, .int .u64 0, .slice none 0 0, .int .i64 0, .int .i64 0] 28 ∧ Blk w' h #[.int .i64 e, .int .i64 p] 31 ∧ Below B w w' := by
  have g0 : w.cell? ⟨g, 0, none⟩ = some c0 := hg.cell 0
  have g1 : w.cell? ⟨g, 1, none⟩ = some c1 := hg.cell 1
  have g2 : w.cell? ⟨g, 2, none⟩ = some c2 := hg.cell 2
  have g3 : w.cell? ⟨g, 3, none⟩ = some c3 := hg.cell 3
  have g4 : w.cell? ⟨g, 4, none⟩ = some c4 := hg.cell 4
  have g5 : w.cell? ⟨g, 5, none⟩ = some c5 := hg.cell 5
  have g6 : w.cell? ⟨g, 6, none⟩ = some c6 := hg.cell 6
  have g7 : w.cell? ⟨g, 7, none⟩ = some c7 := hg.cell 7
  have gf : ∀ i, w.frozen? ⟨g, i, none⟩ = false := hg.frozen
  have h0 : w.cell? ⟨h, 0, none⟩ = some d0 := hh.cell 0
  have h1 : w.cell? ⟨h, 1, none⟩ = some d1 := hh.cell 1
  have hf : ∀ i, w.frozen? ⟨h, i, none⟩ = false := hh.frozen
  have hgl : g < w.heap.size := hg.lt
  have hhl : h < w.heap.size := hh.lt
  have hne2 : ¬ h = g := fun e => hne e.symm
  have HG := hid_mk hg
  have HH := hid_mk hh
  clear hg hh
  refine callsD_of_wpS Tryd.func26 rfl fun c₀ cs hu => ?_
  apply wpS_seq
  apply wpS_region
  simp [wpOpsS, go_sem, recoverD, hu, Tryd.ntmps26, Exit.thenS, Array.replicate, List.replicate]
  refine wpS_of_wp ?_
  have HU := hid_mk hu
  have hta : ∀ w, (Instr.typeAssert (.iface 50 (.agg #[.int .i64 e, .int .i64 p])) 20 50 true).run Tryd.prog w = .ok (.tuple #[.agg #[.int .i64 e, .int .i64 p], .bool true]) w := fun _ => by kernel_rfl
  clear hu
  go_wp2
  go_region
  go_wp2
  have hu := HU.out
  simp [bodyPostS, results, Tryd.results26, go_sem]
  have k1 := HG.out.put8 rfl (.int .i64 0) (.int .u64 0) (.int .u64 0) (.int .u64 0) (.int .u64 0) (.slice none 0 0) (.int .i64 0) (.int .i64 0)
  have k2 := (set8_only g w (.int .i64 0) (.int .u64 0) (.int .u64 0) (.int .u64 0) (.int .u64 0) (.slice none 0 0) (.int .i64 0) (.int .i64 0)).blk hne2 HH.out
  have k3 := (set8_only g w (.int .i64 0) (.int .u64 0) (.int .u64 0) (.int .u64 0) (.int .u64 0) (.slice none 0 0) (.int .i64 0) (.int .i64 0)).below hgB (by omega)
  refine ⟨?_, ?_, ?_⟩
  · exact Blk.drewN (Blk.alloc (Blk.far (Blk.far k1 (by exact hne) _) (by exact hne) _) _) 1
  · exact Blk.drewN (Blk.alloc (Blk.is (Blk.put (Blk.put k2 0 _) 1 _) rfl) _) 1
  · exact below_drewN (Below.alloc (Below.setCell (Below.setCell k3 hhB _) hhB _) (by simp [World.setCell]; omega) _) 1
/-- what parsing hands back -/
def RetParse (r : Node × Int × Nat) (w : World) (x : Ending) (w' : World) : Prop :=
  Below w.heap.size w w' ∧ ∃ (A : Option Addr) (cap : Nat), x = .returned (.tuple #[.agg #[.int .i64 (r.1.kind), .int .u64 ((r.1.set).a.toNat : Int), .int .u64 ((r.1.set).b.toNat : Int), .int .u64 ((r.1.set).c.toNat : Int), .int .u64 ((r.1.set).d.toNat : Int), .slice (A) (r.1.kids.length) (cap), .int .i64 (r.1.min), .int .i64 (r.1.max)], .agg #[.int .i64 r.2.1, .int .i64 (r.2.2 : Nat)]]) ∧ SlOk A r.1.kids.length cap ∧ KidsAt (New w w') w' A r.1.kids
theorem retParse_bad {e : Int} {p : Nat} {w w' : World} (h : Below w.heap.size w w') : RetParse (Rx.zero, e, p) w (.returned (.tuple #[.agg #[.int .i64 0, .int .u64 0, .int .u64 0, .int .u64 0, .int .u64 0, .slice none 0 0, .int .i64 0, .int .i64 0], .agg #[.int .i64 e, .int .i64 (p : Nat)]])) w' :=
  ⟨h, none, 0, rfl, SlOk.none_, fun h => absurd h (by simp [Rx.zero, Node.kids])⟩
theorem parse_long (s : ByteArray) (w : World) (hs : 256 < s.size) (hm : s.size ≤ maxLen) : Calls Tryd.prog 10 #[.string s] w (RetParse (Rx.parse s.data.toList) w) := by
  have HE : Hid (Rx.parse s.data.toList = (Rx.zero, 3, 256)) := hid_mk (by unfold Rx.parse; rw [if_pos (by simpa using hs)])
  unfold maxLen at hm
  rw [HE.out]
  clear HE
  have hmf : ∀ (fn : Fn) (first cap : Array Value) (w : World), (Instr.makeFunc fn first cap).run Tryd.prog w = .ok (.func fn first cap) w := fun _ _ _ _ => rfl
  go_enter_defers Tryd.func10, Tryd.ntmps10
  go_wp2
  refine ⟨.tuple #[.agg #[.int .i64 0, .int .u64 0, .int .u64 0, .int .u64 0, .int .u64 0, .slice none 0 0, .int .i64 0, .int .i64 0], .agg #[.int .i64 3, .int .i64 256]], by simp [results, Tryd.results10, go_sem], ?_⟩
  exact retParse_bad (by repeat (first | with_reducible exact Below.refl _ _ | with_reducible assumption | with_reducible refine Below.setCell ?_ (by first | omega | (dsimp only; omega) | (simp <;> omega)) _ | with_reducible refine Below.alloc ?_ (by first | omega | (simp <;> omega)) _ | with_reducible refine below_drewN ?_ _ | with_reducible refine Below.drew ?_))
/-- the world in which the reader starts -/
def startW (s : ByteArray) (w : World) : World := ((w.alloc (.cells #[.int .i64 0, .int .u64 0, .int .u64 0, .int .u64 0, .int .u64 0, .slice none 0 0, .int .i64 0, .int .i64 0] 28)).alloc (.cells #[.int .i64 0, .int .i64 0] 31)).alloc (.cells #[.string s, .int .i64 0, .int .i64 0] 53)
theorem startW_size (s : ByteArray) (w : World) : (startW s w).heap.size = w.heap.size + 3 := by simp [startW]
theorem startW_rd (s : ByteArray) (w : World) : RD s (w.heap.size + 2) 0 0 (startW s w) := Blk.newAt (by simp)
theorem startW_n (s : ByteArray) (w : World) : Blk (startW s w) w.heap.size #[.int .i64 0, .int .u64 0, .int .u64 0, .int .u64 0, .int .u64 0, .slice none 0 0, .int .i64 0, .int .i64 0] 28 := Blk.alloc (Blk.alloc (Blk.new w _ _) _) _
theorem startW_f (s : ByteArray) (w : World) : Blk (startW s w) (w.heap.size + 1) #[.int .i64 0, .int .i64 0] 31 := Blk.alloc (Blk.newAt (by simp)) _
theorem startW_below (s : ByteArray) (w : World) : Below w.heap.size w (startW s w) := by unfold startW; exact (by repeat (first | with_reducible exact Below.refl _ _ | with_reducible assumption | with_reducible refine Below.setCell ?_ (by first | omega | (dsimp only; omega) | (simp <;> omega)) _ | with_reducible refine Below.alloc ?_ (by first | omega | (simp <;> omega)) _ | with_reducible refine below_drewN ?_ _ | with_reducible refine Below.drew ?_))
theorem start_step {s : ByteArray} {w w1 : World} (h : Only (w.heap.size + 2) (startW s w) w1) : Below w.heap.size w w1 := (startW_below s w).trans (h.below (by omega) (by rw [startW_size]; omega))
/-- a fault is caught -/
theorem parse_caught {s : ByteArray} {w w1 : World} {e : Int} {p : Nat} {tmps : Array Value} (h2 : tmps[2]?.getD undef = .pointer (some ⟨w.heap.size, 0, none⟩)) (h3 : tmps[3]?.getD undef = .pointer (some ⟨w.heap.size + 1, 0, none⟩)) (c0 c1 c2 c3 c4 c5 c6 c7 d0 d1 : Value) (hg : Blk w1 w.heap.size #[c0, c1, c2, c3, c4, c5, c6, c7] 28) (hh : Blk w1 (w.heap.size + 1) #[d0, d1] 31) (hb : Below w.heap.size w w1) :
    Leaves Tryd.prog Tryd.f10 tmps (RetParse (Rx.zero, e, p) w) [{ target := .fn (.func 26) #[.pointer (some ⟨w.heap.size, 0, none⟩), .pointer (some ⟨w.heap.size + 1, 0, none⟩)], args := #[] }] (.panicking (faultV e p)) w1 := by
  refine leaves_cons (f := 26) (args := #[.pointer (some ⟨w.heap.size, 0, none⟩), .pointer (some ⟨w.heap.size + 1, 0, none⟩)]) (by simp [faultV]) (by simp [go_sem]) ?_
  refine (catch_fault w.heap.size (w.heap.size + 1) e p [] w1 w.heap.size c0 c1 c2 c3 c4 c5 c6 c7 d0 d1 hg hh (Nat.le_refl _) (by omega) (by omega)).mono ?_
  rintro x u' w2 ⟨rfl, rfl, hg2, hh2, hb2⟩
  show Leaves _ _ _ _ [] .returning w2
  (have r0 : w2.cell? ⟨w.heap.size, 0, none⟩ = some (.int .i64 0) := hg2.cell 0; have r1 : w2.cell? ⟨w.heap.size, 1, none⟩ = some (.int .u64 0) := hg2.cell 1; have r2 : w2.cell? ⟨w.heap.size, 2, none⟩ = some (.int .u64 0) := hg2.cell 2; have r3 : w2.cell? ⟨w.heap.size, 3, none⟩ = some (.int .u64 0) := hg2.cell 3; have r4 : w2.cell? ⟨w.heap.size, 4, none⟩ = some (.int .u64 0) := hg2.cell 4; have r5 : w2.cell? ⟨w.heap.size, 5, none⟩ = some (.slice none 0 0) := hg2.cell 5; have r6 : w2.cell? ⟨w.heap.size, 6, none⟩ = some (.int .i64 0) := hg2.cell 6; have r7 : w2.cell? ⟨w.heap.size, 7, none⟩ = some (.int .i64 0) := hg2.cell 7; have rf : ∀ i, w2.frozen? ⟨w.heap.size, i, none⟩ = false := hg2.frozen)
  have s0 : w2.cell? ⟨w.heap.size + 1, 0, none⟩ = some (.int .i64 e) := hh2.cell 0
  have s1 : w2.cell? ⟨w.heap.size + 1, 1, none⟩ = some (.int .i64 (p : Nat)) := hh2.cell 1
  refine ⟨.tuple #[.agg #[.int .i64 0, .int .u64 0, .int .u64 0, .int .u64 0, .int .u64 0, .slice none 0 0, .int .i64 0, .int .i64 0], .agg #[.int .i64 e, .int .i64 (p : Nat)]], ?_, retParse_bad (hb.trans hb2)⟩
  simp [results, Tryd.results10, go_sem, h2, h3, r0, r1, r2, r3, r4, r5, r6, r7, s0, s1]
/-- a node laid over a block -/
def nodeW (w : World) (g : Nat) (n : Node) (A : Option Addr) (cap : Nat) : World := ((((((((w.setCell ⟨g, 0, none⟩ (.int .i64 n.kind)).setCell ⟨g, 1, none⟩ (.int .u64 (n.set.a.toNat : Int))).setCell ⟨g, 2, none⟩ (.int .u64 (n.set.b.toNat : Int))).setCell ⟨g, 3, none⟩ (.int .u64 (n.set.c.toNat : Int))).setCell ⟨g, 4, none⟩ (.int .u64 (n.set.d.toNat : Int))).setCell ⟨g, 5, none⟩ (.slice A n.kids.length cap)).setCell ⟨g, 6, none⟩ (.int .i64 n.min)).setCell ⟨g, 7, none⟩ (.int .i64 n.max))
theorem nodeW_only (w : World) (g : Nat) (n : Node) (A : Option Addr) (cap : Nat) : Only g w (nodeW w g n A cap) := set8_only g w _ _ _ _ _ _ _ _
theorem nodeW_blk {w : World} {g t : Nat} {cs : Array Value} (h : Blk w g cs t) (hc : cs.size = 8) (n : Node) (A : Option Addr) (cap : Nat) : Blk (nodeW w g n A cap) g #[.int .i64 (n.kind), .int .u64 ((n.set).a.toNat : Int), .int .u64 ((n.set).b.toNat : Int), .int .u64 ((n.set).c.toNat : Int), .int .u64 ((n.set).d.toNat : Int), .slice (A) (n.kids.length) (cap), .int .i64 (n.min), .int .i64 (n.max)] t := h.put8 hc _ _ _ _ _ _ _ _
/-- behind the last stores -/
def doneW (w : World) (g : Nat) (n : Node) (A : Option Addr) (cap : Nat) : World := ((nodeW (nodeW w g n A cap) g n A cap).setCell ⟨g + 1, 0, none⟩ (.int .i64 0)).setCell ⟨g + 1, 1, none⟩ (.int .i64 0)
theorem doneW_block (w : World) (g : Nat) (n : Node) (A : Option Addr) (cap : Nat) {b : Nat} (hb : b < w.heap.size) (h1 : b ≠ g) (h2 : b ≠ g + 1) : (doneW w g n A cap).heap[b]? = w.heap[b]? := by
  have e1 := (nodeW_only w g n A cap).block b hb h1
  have e2 := (nodeW_only (nodeW w g n A cap) g n A cap).block b (Nat.lt_of_lt_of_le hb (nodeW_only w g n A cap).size) h1
  unfold doneW
  rw [Below.heap_setCell _ _ _ _ (by exact h2), Below.heap_setCell _ _ _ _ (by exact h2), e2, e1]
theorem doneW_size (w : World) (g : Nat) (n : Node) (A : Option Addr) (cap : Nat) : (doneW w g n A cap).heap.size = w.heap.size := by simp [doneW, nodeW, World.setCell]
theorem parse_any (s : ByteArray) (w : World) (hm : s.size ≤ maxLen) (hT : TabW w) : Calls Tryd.prog 10 #[.string s] w (RetParse (Rx.parse s.data.toList) w) := by
  by_cases hs : 256 < s.size
  · exact parse_long s w hs hm
  · have hTl := hT.2
    have HAL := hide (alt_any s (w.heap.size + 2) 0 0 (Rx.atom s.data.toList 16) (atom_any s (w.heap.size + 2) (by omega) (by omega) 16 0 rfl) (fine_atom s.data.toList 16) (Rx.size_atom s.data.toList 16) (startW s w) (startW_rd s w) (by omega) (Nat.zero_le _) (hT.only (rb := w.heap.size + 2) ((((Only.refl _ w).alloc _).alloc _).alloc _) (by omega)) (by omega))
    have hfi := fine_alt s.data.toList (Rx.atom s.data.toList 16) (fine_atom s.data.toList 16) 0 (Nat.zero_le _)
    have HE : Hid (Rx.parse s.data.toList = _) := hid_mk (by unfold Rx.parse; rw [if_neg (by simpa using hs)])
    have hmf : ∀ (fn : Fn) (first cap : Array Value) (w : World), (Instr.makeFunc fn first cap).run Tryd.prog w = .ok (.func fn first cap) w := fun _ _ _ _ => rfl
    have hs2 : decide ((256 : Int) < (s.size : Int)) = false := by simp; omega
    have hs3 : s.size ≤ 256 := by omega
    clear hs hT hm hTl
    cases hr : Rx.alt s.data.toList (Rx.atom s.data.toList 16) 0 with
    | out => rw [hr] at hfi; exact hfi.elim
    | bad e q =>
      rw [hr] at HAL HE
      have HE2 : Hid (Rx.parse s.data.toList = (Rx.zero, e, q)) := HE
      rw [HE2.out]
      clear hr hfi HE HE2
      go_enter_defers Tryd.func10, Tryd.ntmps10
      go_wp2_with fail
      refine (unhide HAL).mono ?_
      rintro x w1 ⟨ho, rfl⟩
      exact parse_caught (s := s) rfl rfl _ _ _ _ _ _ _ _ _ _ (ho.blk (by omega) (startW_n s w)) (ho.blk (by omega) (startW_f s w)) (start_step ho)
    | ok n q =>
      rw [hr] at HAL HE
      dsimp only at HE
      have hq0 : q ≤ s.size := by rw [hr] at hfi; have := hfi.2; simpa using this
      clear hr hfi
      by_cases hq : q < s.size
      · have hpk := pk_lt hq
        have hpk0 : ¬ Rx.pk s.data.toList q < 0 := by rw [hpk]; omega
        have HE2 : Hid (Rx.parse s.data.toList = (Rx.zero, 2, q)) := hid_mk (by
          rw [HE.out, if_pos (by simpa using hq)]
          unfold Rx.other
          rw [if_neg hpk0])
        rw [HE2.out]
        have HW := hide (fun a h => wrong_form s (w.heap.size + 2) q 0 a h (by omega) (by omega) (by omega))
        clear HE HE2 hpk hpk0
        go_enter_defers Tryd.func10, Tryd.ntmps10
        go_wp2_with fail
        refine (unhide HAL).mono ?_
        rintro x w1 ⟨ho, hd, A, cap, rfl, hsl, hk⟩
        have hn := ho.blk (by omega) (startW_n s w)
        have hd2 : RD s (w.heap.size + 2) q 0 ((((((((w1.setCell ⟨w.heap.size, 0, none⟩ (.int .i64 n.kind)).setCell ⟨w.heap.size, 1, none⟩ (.int .u64 (n.set.a.toNat : Int))).setCell ⟨w.heap.size, 2, none⟩ (.int .u64 (n.set.b.toNat : Int))).setCell ⟨w.heap.size, 3, none⟩ (.int .u64 (n.set.c.toNat : Int))).setCell ⟨w.heap.size, 4, none⟩ (.int .u64 (n.set.d.toNat : Int))).setCell ⟨w.heap.size, 5, none⟩ (.slice A n.kids.length cap)).setCell ⟨w.heap.size, 6, none⟩ (.int .i64 n.min)).setCell ⟨w.heap.size, 7, none⟩ (.int .i64 n.max)) := (set8_only w.heap.size w1 _ _ _ _ _ _ _ _).blk (by omega) hd
        have hn2 := hn.put8 rfl (.int .i64 n.kind) (.int .u64 (n.set.a.toNat : Int)) (.int .u64 (n.set.b.toNat : Int)) (.int .u64 (n.set.c.toNat : Int)) (.int .u64 (n.set.d.toNat : Int)) (.slice A n.kids.length cap) (.int .i64 n.min) (.int .i64 n.max)
        have hf2 := (set8_only w.heap.size w1 (.int .i64 n.kind) (.int .u64 (n.set.a.toNat : Int)) (.int .u64 (n.set.b.toNat : Int)) (.int .u64 (n.set.c.toNat : Int)) (.int .u64 (n.set.d.toNat : Int)) (.slice A n.kids.length cap) (.int .i64 n.min) (.int .i64 n.max)).blk (by omega) (ho.blk (by omega) (startW_f s w))
        have hb2 := (start_step ho).trans ((set8_only w.heap.size w1 (.int .i64 n.kind) (.int .u64 (n.set.a.toNat : Int)) (.int .u64 (n.set.b.toNat : Int)) (.int .u64 (n.set.c.toNat : Int)) (.int .u64 (n.set.d.toNat : Int)) (.slice A n.kids.length cap) (.int .i64 n.min) (.int .i64 n.max)).below (Nat.le_refl _) (start_step ho).size)
        have HD2 := hid_mk hd2
        have HN2 := hid_mk hn2
        have HF2 := hid_mk hf2
        have HB2 := hid_mk hb2
        (have r0 : w1.cell? ⟨w.heap.size, 0, none⟩ = some (.int .i64 0) := hn.cell 0; have r1 : w1.cell? ⟨w.heap.size, 1, none⟩ = some (.int .u64 0) := hn.cell 1; have r2 : w1.cell? ⟨w.heap.size, 2, none⟩ = some (.int .u64 0) := hn.cell 2; have r3 : w1.cell? ⟨w.heap.size, 3, none⟩ = some (.int .u64 0) := hn.cell 3; have r4 : w1.cell? ⟨w.heap.size, 4, none⟩ = some (.int .u64 0) := hn.cell 4; have r5 : w1.cell? ⟨w.heap.size, 5, none⟩ = some (.slice none 0 0) := hn.cell 5; have r6 : w1.cell? ⟨w.heap.size, 6, none⟩ = some (.int .i64 0) := hn.cell 6; have r7 : w1.cell? ⟨w.heap.size, 7, none⟩ = some (.int .i64 0) := hn.cell 7; have rf : ∀ i, w1.frozen? ⟨w.heap.size, i, none⟩ = false := hn.frozen)
        have g0 : w1.cell? ⟨w.heap.size + 2, 0, none⟩ = some (.string s) := hd.cell 0
        have g1' : w1.cell? ⟨w.heap.size + 2, 1, none⟩ = some (.int .i64 ((q : Nat) : Int)) := hd.cell 1
        have hzb := (start_step ho).size
        clear hd hn hd2 hn2 hf2 hb2 ho hsl hk
        go_wp2_with fail
        refine (unhide HW _ HD2.out).mono ?_
        rintro x w3 ⟨rfl, ho3⟩
        exact parse_caught (s := s) rfl rfl _ _ _ _ _ _ _ _ _ _ (ho3.blk (by omega) HN2.out) (ho3.blk (by omega) HF2.out) (HB2.out.trans (ho3.below (by omega) (HB2.out.size)))
      · have hqe : q = s.size := by omega
        subst hqe
        have HE2 : Hid (Rx.parse s.data.toList = (n, 0, 0)) := hid_mk (by rw [HE.out, if_neg (by simp)])
        rw [HE2.out]
        have hqq : decide ((s.size : Int) < (s.size : Int)) = false := by simp
        clear HE HE2 hq hq0
        go_enter_defers Tryd.func10, Tryd.ntmps10
        go_wp2_with fail
        refine (unhide HAL).mono ?_
        rintro x w1 ⟨ho, hd, A, cap, rfl, hsl, hk⟩
        have hn := ho.blk (by omega) (startW_n s w)
        have hh := ho.blk (by omega) (startW_f s w)
        have HB := hid_mk (start_step ho)
        have HK := hid_mk hk
        have HN := hid_mk hn
        have HH := hid_mk hh
        (have r0 : w1.cell? ⟨w.heap.size, 0, none⟩ = some (.int .i64 0) := hn.cell 0; have r1 : w1.cell? ⟨w.heap.size, 1, none⟩ = some (.int .u64 0) := hn.cell 1; have r2 : w1.cell? ⟨w.heap.size, 2, none⟩ = some (.int .u64 0) := hn.cell 2; have r3 : w1.cell? ⟨w.heap.size, 3, none⟩ = some (.int .u64 0) := hn.cell 3; have r4 : w1.cell? ⟨w.heap.size, 4, none⟩ = some (.int .u64 0) := hn.cell 4; have r5 : w1.cell? ⟨w.heap.size, 5, none⟩ = some (.slice none 0 0) := hn.cell 5; have r6 : w1.cell? ⟨w.heap.size, 6, none⟩ = some (.int .i64 0) := hn.cell 6; have r7 : w1.cell? ⟨w.heap.size, 7, none⟩ = some (.int .i64 0) := hn.cell 7; have rf : ∀ i, w1.frozen? ⟨w.heap.size, i, none⟩ = false := hn.frozen)
        have s0 : w1.cell? ⟨w.heap.size + 1, 0, none⟩ = some (.int .i64 0) := hh.cell 0
        have s1 : w1.cell? ⟨w.heap.size + 1, 1, none⟩ = some (.int .i64 0) := hh.cell 1
        have sf : ∀ i, w1.frozen? ⟨w.heap.size + 1, i, none⟩ = false := hh.frozen
        have g0 : w1.cell? ⟨w.heap.size + 2, 0, none⟩ = some (.string s) := hd.cell 0
        have g1 : w1.cell? ⟨w.heap.size + 2, 1, none⟩ = some (.int .i64 ((s.size : Nat) : Int)) := hd.cell 1
        have hzb : w.heap.size + 1 < w1.heap.size := hh.lt
        have hz2 : w.heap.size < w1.heap.size := hn.lt
        clear hd hn hh ho hk
        go_wp2
        refine leaves_cons (f := 26) (args := #[.pointer (some ⟨w.heap.size, 0, none⟩), .pointer (some ⟨w.heap.size + 1, 0, none⟩)]) (by simp) (by simp [go_sem]) ?_
        refine (catch_idle w.heap.size (w.heap.size + 1) _).mono ?_
        rintro x u' w2 ⟨rfl, rfl, rfl⟩
        show Leaves _ _ _ _ [] .returning (doneW w1 w.heap.size n A cap)
        have k1 := nodeW_blk (nodeW_blk HN.out rfl n A cap) rfl n A cap
        have k2 := (nodeW_only (nodeW w1 w.heap.size n A cap) w.heap.size n A cap).blk (by omega) ((nodeW_only w1 w.heap.size n A cap).blk (by omega) HH.out)
        have k3 := ((nodeW_only w1 w.heap.size n A cap).below (B := w.heap.size) (Nat.le_refl _) (Nat.le_of_lt hz2)).trans ((nodeW_only (nodeW w1 w.heap.size n A cap) w.heap.size n A cap).below (Nat.le_refl _) (Nat.le_trans (Nat.le_of_lt hz2) (nodeW_only w1 w.heap.size n A cap).size))
        have hV1 : Blk (doneW w1 w.heap.size n A cap) w.heap.size #[.int .i64 (n.kind), .int .u64 ((n.set).a.toNat : Int), .int .u64 ((n.set).b.toNat : Int), .int .u64 ((n.set).c.toNat : Int), .int .u64 ((n.set).d.toNat : Int), .slice (A) (n.kids.length) (cap), .int .i64 (n.min), .int .i64 (n.max)] 28 := Blk.far (Blk.far k1 (by dsimp only; omega) _) (by dsimp only; omega) _
        have hV2 : Blk (doneW w1 w.heap.size n A cap) (w.heap.size + 1) #[.int .i64 0, .int .i64 0] 31 := Blk.is (Blk.put (Blk.put k2 0 _) 1 _) rfl
        have hV3 : Below w.heap.size w1 (doneW w1 w.heap.size n A cap) := Below.setCell (Below.setCell k3 (by dsimp only; omega) _) (by dsimp only; omega) _
        have hV4 : KidsAt (New w (doneW w1 w.heap.size n A cap)) (doneW w1 w.heap.size n A cap) A n.kids := by
          refine kidsAt_keep (fun b hb => ?_) (fun b hb => ?_) HK.out
          · have h3 := hb.1; rw [startW_size] at h3
            exact doneW_block _ _ _ _ _ hb.2 (by omega) (by omega)
          · have h3 := hb.1; rw [startW_size] at h3
            exact ⟨by omega, by rw [doneW_size]; exact hb.2⟩
        have hb1 := HB.out.trans hV3
        clear k1 k2 k3 hV3
        generalize doneW w1 w.heap.size n A cap = V at *
        (have y0 : V.cell? ⟨w.heap.size, 0, none⟩ = some (.int .i64 (n.kind)) := hV1.cell 0; have y1 : V.cell? ⟨w.heap.size, 1, none⟩ = some (.int .u64 ((n.set).a.toNat : Int)) := hV1.cell 1; have y2 : V.cell? ⟨w.heap.size, 2, none⟩ = some (.int .u64 ((n.set).b.toNat : Int)) := hV1.cell 2; have y3 : V.cell? ⟨w.heap.size, 3, none⟩ = some (.int .u64 ((n.set).c.toNat : Int)) := hV1.cell 3; have y4 : V.cell? ⟨w.heap.size, 4, none⟩ = some (.int .u64 ((n.set).d.toNat : Int)) := hV1.cell 4; have y5 : V.cell? ⟨w.heap.size, 5, none⟩ = some (.slice (A) (n.kids.length) (cap)) := hV1.cell 5; have y6 : V.cell? ⟨w.heap.size, 6, none⟩ = some (.int .i64 (n.min)) := hV1.cell 6; have y7 : V.cell? ⟨w.heap.size, 7, none⟩ = some (.int .i64 (n.max)) := hV1.cell 7; have yf : ∀ i, V.frozen? ⟨w.heap.size, i, none⟩ = false := hV1.frozen)
        have t0 : V.cell? ⟨w.heap.size + 1, 0, none⟩ = some (.int .i64 0) := hV2.cell 0
        have t1 : V.cell? ⟨w.heap.size + 1, 1, none⟩ = some (.int .i64 0) := hV2.cell 1
        exact ⟨.tuple #[.agg #[.int .i64 (n.kind), .int .u64 ((n.set).a.toNat : Int), .int .u64 ((n.set).b.toNat : Int), .int .u64 ((n.set).c.toNat : Int), .int .u64 ((n.set).d.toNat : Int), .slice (A) (n.kids.length) (cap), .int .i64 (n.min), .int .i64 (n.max)], .agg #[.int .i64 0, .int .i64 0]], by simp [results, Tryd.results10, go_sem, y0, y1, y2, y3, y4, y5, y6, y7, t0, t1], hb1, A, cap, rfl, hsl, hV4⟩
end Go.Proofs.YthgcefppeaopkaaDoor
