/- Walks over the reference's match: from some places on. -/
import Derived.Test.YthgcefppeaopkaaDoorMatchE
namespace Go.Proofs.YthgcefppeaopkaaDoor
open Go Go.RowKit Go.Sort
set_option maxRecDepth 100000
set_option linter.unusedSimpArgs false
set_option linter.unusedVariables false
set_option maxHeartbeats 4000000
/-- what a walk knows of the reference's ends -/
def REndsOk (s : ByteArray) (n : Node) : Prop := ∀ (i : Nat) (A : Option Addr) (ca : Nat) (G : Nat → Prop) (w : World), i ≤ s.size → (∀ b, G b → b < w.heap.size) → KidsAt G w A n.kids →
    Calls Tryd.prog 35 #[.agg #[.int .i64 (n.kind), .int .u64 ((n.set).a.toNat : Int), .int .u64 ((n.set).b.toNat : Int), .int .u64 ((n.set).c.toNat : Int), .int .u64 ((n.set).d.toNat : Int), .slice (A) (n.kids.length) (ca), .int .i64 (n.min), .int .i64 (n.max)], .string s, .int .i64 i] w (RetMk (s.size + 1) (Mx.sp s.data.toList n (Mx.single i)) w)
/-- what the first k places bring -/
def fromP (f : Mx.Pos → Mx.Pos) (x : Mx.Pos) (k : Nat) : Mx.Pos := fun j => (List.range k).any (fun i => x i && f (Mx.single i) j)
theorem fromP_succ (f : Mx.Pos → Mx.Pos) (x : Mx.Pos) (k j : Nat) : fromP f x (k + 1) j = (fromP f x k j || (x k && f (Mx.single k) j)) := by unfold fromP; rw [List.range_succ, List.any_append]; simp
def RFromAt (s : ByteArray) (go : Nat) (f : Mx.Pos → Mx.Pos) (x : Mx.Pos) (w : World) (NB : Array Value) (v : Value) (wr : World) : Prop :=
  ∃ k : Nat, v = .int .i64 (k : Nat) ∧ k ≤ s.size + 1 ∧ MarksAt (s.size + 1) wr go (s.size + 1) (fromP f x k) ∧ Below w.heap.size w wr ∧ Blk wr w.heap.size NB 28
def RInAt (N go ge ce : Nat) (x y : Mx.Pos) (w : World) (v : Value) (wr : World) : Prop := ∃ k : Nat, v = .int .i64 (k : Nat) ∧ k ≤ N ∧ MarksAt N wr go N (jn x y k) ∧ MarksAt N wr ge ce y ∧ Only go w wr
theorem rfrom_any (s : ByteArray) (hs : s.size ≤ 90000) (n : Node) (HE : REndsOk s n) (A : Option Addr) (ca : Nat) (G : Nat → Prop) (g cap : Nat) (x : Mx.Pos) (w : World) (hG : ∀ b, G b → b < w.heap.size) (hk : KidsAt G w A n.kids) (hm : MarksAt (s.size + 1) w g cap x) (hx : Mx.Sup (s.size + 1) x) :
    Calls Tryd.prog 49 #[.agg #[.int .i64 (n.kind), .int .u64 ((n.set).a.toNat : Int), .int .u64 ((n.set).b.toNat : Int), .int .u64 ((n.set).c.toNat : Int), .int .u64 ((n.set).d.toNat : Int), .slice (A) (n.kids.length) (ca), .int .i64 (n.min), .int .i64 (n.max)], .string s, .slice (some ⟨g, 0, none⟩) (s.size + 1 : Nat) cap] w (RetMk (s.size + 1) (Mx.sp s.data.toList n x) w) := by
  obtain ⟨i0, hi, hz0, hz1, hz2⟩ := bool_parts
  have hz3 : i0.bytes * (s.size + 1) ≤ 281474976710656 := by rw [hz2]; omega
  have hsz : (s.size + 1 : Nat) ≤ 9223372036854775807 := by omega
  have HR := hid_mk (fun j => Mx.sp_any (Mx.adds_sp s.data.toList n) hx j)
  have HEN := hid_mk HE
  have HM := hid_mk hm
  have HG := hid_mk hG
  have HKA := hid_mk hk
  clear hm hx hk hG HE
  go_enter Tryd.func49, Tryd.ntmps49
  go_wp2_with (refine wpList_make_row _ rfl _ _ 61 rfl 4 i0 (.bool false) Tryd.underlying61 hi hz0 hz1 rfl .i64 .i64 (s.size + 1) rfl rfl hz3 hsz ?_)
  go_loopw [8] (fun v wr => RFromAt s (w.heap.size + 1) (Mx.sp s.data.toList n) x w #[.int .i64 (n.kind), .int .u64 ((n.set).a.toNat : Int), .int .u64 ((n.set).b.toNat : Int), .int .u64 ((n.set).c.toNat : Int), .int .u64 ((n.set).d.toNat : Int), .slice (A) (n.kids.length) (ca), .int .i64 (n.min), .int .i64 (n.max)] v wr) (fun v _ => s.size + 1 - (intOf v).toNat)
  case atStart =>
    have hm0 := marks_made (w.alloc (.cells #[.int .i64 (n.kind), .int .u64 ((n.set).a.toNat : Int), .int .u64 ((n.set).b.toNat : Int), .int .u64 ((n.set).c.toNat : Int), .int .u64 ((n.set).d.toNat : Int), .slice (A) (n.kids.length) (ca), .int .i64 (n.min), .int .i64 (n.max)] 28)) (s.size + 1) (by omega)
    simp only [World.size_alloc] at hm0 ⊢
    exact ⟨0, rfl, Nat.zero_le _, hm0, (by repeat (first | with_reducible exact Below.refl _ _ | with_reducible assumption | with_reducible refine Below.setCell ?_ (by first | omega | (dsimp only; omega) | (simp <;> omega)) _ | with_reducible refine Below.alloc ?_ (by first | omega | (simp <;> omega)) _ | with_reducible refine below_drewN ?_ _ | with_reducible refine Below.drew ?_)), Blk.alloc (Blk.new w _ _) _⟩
  case round =>
    obtain ⟨k, rfl, hkN, hm, hb, hnb⟩ := hrel
    by_cases hlt : k < s.size + 1
    · have cx : wr.cell? ⟨g, k, none⟩ = some (.bool (x k)) := (HM.out.call hb).cell hlt
      have hi4 : (k : Int) < (s.size : Int) + 1 := by omega
      have HFS := hid_mk (fromP_succ (Mx.sp s.data.toList n) x k)
      cases hxk : x k with
      | false =>
        rw [hxk] at cx
        have HX : Hid (RFromAt s (w.heap.size + 1) (Mx.sp s.data.toList n) x w #[.int .i64 (n.kind), .int .u64 ((n.set).a.toNat : Int), .int .u64 ((n.set).b.toNat : Int), .int .u64 ((n.set).c.toNat : Int), .int .u64 ((n.set).d.toNat : Int), .slice (A) (n.kids.length) (ca), .int .i64 (n.min), .int .i64 (n.max)] (.int .i64 ((k + 1 : Nat) : Int)) wr) := hid_mk ⟨k + 1, rfl, by omega, hm.congr (fun j _ => by rw [HFS.out j, hxk]; simp), hb, hnb⟩
        clear hm hb hnb hxk HFS
        go_wp2
        go_roundw
        case rel => exact HX.out
        case measure => simp [intOf]; omega
      | true =>
        rw [hxk] at cx
        have HFT := hid_mk (fun j => (HFS.out j).trans (by rw [hxk, Bool.true_and]))
        have HCE := hide (HEN.out k A ca G wr (by omega) (fun b hb' => Nat.lt_of_lt_of_le (HG.out b hb') hb.size) (kids_two HKA.out hb HG.out))
        have HMO := hid_mk hm
        have HB := hid_mk hb
        have HNB := hid_mk hnb
        (have y0 : wr.cell? ⟨w.heap.size, 0, none⟩ = some (.int .i64 (n.kind)) := hnb.cell 0; have y1 : wr.cell? ⟨w.heap.size, 1, none⟩ = some (.int .u64 ((n.set).a.toNat : Int)) := hnb.cell 1; have y2 : wr.cell? ⟨w.heap.size, 2, none⟩ = some (.int .u64 ((n.set).b.toNat : Int)) := hnb.cell 2; have y3 : wr.cell? ⟨w.heap.size, 3, none⟩ = some (.int .u64 ((n.set).c.toNat : Int)) := hnb.cell 3; have y4 : wr.cell? ⟨w.heap.size, 4, none⟩ = some (.int .u64 ((n.set).d.toNat : Int)) := hnb.cell 4; have y5 : wr.cell? ⟨w.heap.size, 5, none⟩ = some (.slice (A) (n.kids.length) (ca)) := hnb.cell 5; have y6 : wr.cell? ⟨w.heap.size, 6, none⟩ = some (.int .i64 (n.min)) := hnb.cell 6; have y7 : wr.cell? ⟨w.heap.size, 7, none⟩ = some (.int .i64 (n.max)) := hnb.cell 7; have yf : ∀ i, wr.frozen? ⟨w.heap.size, i, none⟩ = false := hnb.frozen)
        clear hm hb hnb hxk HFS
        go_wp2_with fail
        refine (unhide HCE).mono ?_
        rintro e w3 ⟨ge, ce, rfl, hme, hge, hb3⟩
        have HB3 := hid_mk (HB.out.trans (hb3.mono HB.out.size))
        have HN3 := hid_mk (HNB.out.call hb3)
        have hgl := HMO.out.lt
        have hne : ge ≠ w.heap.size + 1 := by omega
        have HO3 := hid_mk (HMO.out.call hb3)
        have HME := hid_mk hme
        generalize Mx.sp s.data.toList n (Mx.single k) = E at *
        generalize hF : fromP (Mx.sp s.data.toList n) x k = F at *
        have hlw := HB3.out.size
        have hlo := HO3.out.lt
        clear hb3 hme y0 y1 y2 y3 y4 y5 y6 y7 yf hF
        go_wp2
        go_loopw [10] (fun v wq => RInAt (s.size + 1) (w.heap.size + 1) ge ce F E w3 v wq) (fun v _ => s.size + 1 - (intOf v).toNat)
        case atStart => exact ⟨0, rfl, Nat.zero_le _, HO3.out.congr (fun j _ => by simp [jn]), HME.out, Only.refl _ _⟩
        case round =>
          obtain ⟨i, rfl, hiN, hmi, hmei, hoi⟩ := hrel
          by_cases hli : i < s.size + 1
          · have cF : wr.cell? ⟨w.heap.size + 1, i, none⟩ = some (.bool (F i)) := by rw [hmi.cell hli]; simp [jn]
            have cE : wr.cell? ⟨ge, i, none⟩ = some (.bool (E i)) := hmei.cell hli
            have cf : ∀ j, wr.frozen? ⟨w.heap.size + 1, j, none⟩ = false := hmi.frozen
            have HP : Hid (∀ b, b = (F i || E i) → RInAt (s.size + 1) (w.heap.size + 1) ge ce F E w3 (.int .i64 ((i + 1 : Nat) : Int)) (wr.setCell ⟨w.heap.size + 1, i, none⟩ (.bool b))) := hid_mk (fun b hb => ⟨i + 1, rfl, by omega, hmi.put hli b (fun j _ => by rw [jn_succ, hb]), hmei.keep (Below.heap_setCell _ _ _ _ hne), hoi.set (Or.inl rfl) _⟩)
            have hi5 : (i : Int) < (s.size : Int) + 1 := by omega
            clear hmi hmei hoi
            generalize F i = a at *
            generalize E i = b at *
            cases a <;> cases b
            all_goals
              go_wp2
              go_roundw
              case rel => exact HP.out _ rfl
              case measure => simp [intOf]; omega
          · obtain rfl : i = s.size + 1 := by omega
            have HX : Hid (RFromAt s (w.heap.size + 1) (Mx.sp s.data.toList n) x w #[.int .i64 (n.kind), .int .u64 ((n.set).a.toNat : Int), .int .u64 ((n.set).b.toNat : Int), .int .u64 ((n.set).c.toNat : Int), .int .u64 ((n.set).d.toNat : Int), .slice (A) (n.kids.length) (ca), .int .i64 (n.min), .int .i64 (n.max)] (.int .i64 ((k + 1 : Nat) : Int)) wr) := by
              refine hid_mk ⟨k + 1, rfl, by omega, hmi.congr (fun j hj => ?_), HB3.out.trans (hoi.below (Nat.le_succ _) (by omega)), hoi.blk (by omega) HN3.out⟩
              rw [HFT.out j]; simp [jn, hj]
            clear hmi hmei hoi
            go_wp2
            go_roundw
            case rel => exact HX.out
            case measure => simp [intOf]; omega
    · obtain rfl : k = s.size + 1 := by omega
      have HM := hid_mk (hm.congr (y := Mx.sp s.data.toList n x) (fun j hj => by rw [HR.out j]; rfl))
      have HB := hid_mk hb
      clear hm hb hnb
      go_wp2
      exact bodyPost_ret (v := .slice (some ⟨w.heap.size + 1, 0, none⟩) (s.size + 1 : Nat) (s.size + 1 : Nat)) (by simp [results, Tryd.results49, go_sem]) rfl ⟨_, _, rfl, HM.out, Nat.le_succ _, HB.out⟩
end Go.Proofs.YthgcefppeaopkaaDoor
