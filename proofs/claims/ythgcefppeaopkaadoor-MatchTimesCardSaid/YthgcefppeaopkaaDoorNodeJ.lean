/- Walks: joining parts into one node. -/
import Derived.Test.YthgcefppeaopkaaDoorNodeA
import Derived.Test.YthgcefppeaopkaaDoorRegexP
import Derived.Test.YthgcefppeaopkaaDoorReadW
import Derived.Deep.QuietTactic
import Derived.BigQuiet
import Derived.WalkLawsBesides
import Derived.Outline
namespace Go.Proofs.YthgcefppeaopkaaDoor
open Go Go.RowKit
set_option maxRecDepth 100000
set_option linter.unusedSimpArgs false
set_option linter.unusedVariables false
set_option maxHeartbeats 1000000
/-- a call hands back this node; it made memory at most -/
def RetNode (G : Nat → Prop) (n : Node) (w : World) (e : Ending) (w' : World) : Prop :=
  ∃ (A : Option Addr) (cap : Nat), e = .returned (.agg #[.int .i64 (n.kind), .int .u64 ((n.set).a.toNat : Int), .int .u64 ((n.set).b.toNat : Int), .int .u64 ((n.set).c.toNat : Int), .int .u64 ((n.set).d.toNat : Int), .slice (A) (n.kids.length) (cap), .int .i64 (n.min), .int .i64 (n.max)]) ∧ SlOk A n.kids.length cap ∧ Below w.heap.size w w' ∧
    KidsAt (fun b => G b ∨ (w.heap.size ≤ b ∧ b < w'.heap.size)) w' A n.kids
/-- at a round's head: the first k parts are laid flat -/
def JoinAt (kind : Int) (ns : List Node) (G : Nat → Prop) (w : World) (v u : Value) (wr : World) : Prop :=
  ∃ (k : Nat) (ds : List Value), k ≤ ns.length ∧ u = .int .i64 k ∧ NodesAt G wr (Rx.flat kind (ns.take k)) ds ∧ wr.ownsRow (w.heap.size + 1) 28 8 v (Rx.flat kind (ns.take k)).length ds ∧ Below (w.heap.size + 1) (w.alloc (.cells #[.int .i64 0, .int .u64 0, .int .u64 0, .int .u64 0, .int .u64 0, .slice none 0 0, .int .i64 0, .int .i64 0] 28)) wr
theorem flat_take {kind : Int} {ns : List Node} {k : Nat} (h : k < ns.length) : Rx.flat kind (ns.take (k + 1)) = Rx.flat kind (ns.take k) ++ (if ns[k].kind = kind then ns[k].kids else [ns[k]]) := by
  rw [List.take_succ_eq_append_getElem h, Rx.flat_append, Rx.flat_one]
theorem flat_len {kind : Int} {ns : List Node} {k : Nat} (h : k < ns.length) : (Rx.flat kind (ns.take (k + 1))).length ≤ Node.sizes ns := by
  have h1 := Node.length_le_sizes (Rx.flat kind (ns.take (k + 1)))
  have h2 := Rx.flat_sizes kind (ns.take (k + 1))
  have h3 : Node.sizes ns = Node.sizes (ns.take (k + 1)) + Node.sizes (ns.drop (k + 1)) := by rw [← Node.sizes_append, List.take_append_drop]
  omega
theorem flat_len2 (kind : Int) (ns : List Node) : (Rx.flat kind ns).length ≤ Node.sizes ns := Nat.le_trans (Node.length_le_sizes _) (Rx.flat_sizes kind ns)
theorem Only.cell {rb b o : Nat} {w w' : World} (h : Only rb w w') (hb : b < w.heap.size) (hne : b ≠ rb) : w'.cell? ⟨b, o, none⟩ = w.cell? ⟨b, o, none⟩ := World.cell?_of_block (w := w) (h.block b hb hne)
theorem set8_only (rb : Nat) (w : World) (v0 v1 v2 v3 v4 v5 v6 v7 : Value) : Only rb w ((((((((w.setCell ⟨rb, 0, none⟩ v0).setCell ⟨rb, 1, none⟩ v1).setCell ⟨rb, 2, none⟩ v2).setCell ⟨rb, 3, none⟩ v3).setCell ⟨rb, 4, none⟩ v4).setCell ⟨rb, 5, none⟩ v5).setCell ⟨rb, 6, none⟩ v6).setCell ⟨rb, 7, none⟩ v7) :=
  ((((((((Only.refl rb w).set (Or.inl rfl) _).set (Or.inl rfl) _).set (Or.inl rfl) _).set (Or.inl rfl) _).set (Or.inl rfl) _).set (Or.inl rfl) _).set (Or.inl rfl) _).set (Or.inl rfl) _
theorem Only.below {B rb : Nat} {w w' : World} (h : Only rb w w') (h1 : B ≤ rb) (h2 : B ≤ w.heap.size) : Below B w w' := ⟨h.os, h.tape, h.output, h.size, fun k hk => h.block k (by omega) (by omega)⟩
theorem retNode_mk {G : Nat → Prop} {kind : Int} {l : List Node} {A : Option Addr} {cap : Nat} {w w' : World} (h1 : SlOk A l.length cap) (hb : Below w.heap.size w w') (hk : KidsAt (fun b => G b ∨ (w.heap.size ≤ b ∧ b < w'.heap.size)) w' A l) :
    RetNode G (.mk kind CSet.empty l 0 0) w (.returned (.agg #[.int .i64 kind, .int .u64 0, .int .u64 0, .int .u64 0, .int .u64 0, .slice A l.length cap, .int .i64 0, .int .i64 0])) w' := ⟨A, cap, rfl, h1, hb, hk⟩
theorem join_any (kind : Int) (A : Option Addr) (cap : Nat) (ns : List Node) (G : Nat → Prop) (w : World) (hG : ∀ b, G b → b < w.heap.size) (hsl : SlOk A ns.length cap) (hk : KidsAt G w A ns) (hs : Node.sizes ns ≤ 10000) :
    Calls Tryd.prog 39 #[.int .i64 kind, .slice A ns.length cap] w (RetNode G (Rx.join kind ns) w) := by
  obtain ⟨i0, hi, hz0, hz1, hz2⟩ := info_parts node_info
  have hlen : ns.length ≤ 10000 := Nat.le_trans (Node.length_le_sizes ns) hs
  have HK := hid_mk hk
  have HSL := hid_mk hsl
  clear hk hsl
  go_enter Tryd.func39, Tryd.ntmps39
  go_wp2
  go_loopw [5, 10] (fun v u wr => JoinAt kind ns G w v u wr) (fun _ u _ => ns.length - (intOf u).toNat)
  case atStart => exact ⟨0, [], Nat.zero_le _, rfl, nodesAt_nil, World.ownsRow_nil _ _ _ _, Below.refl _ _⟩
  case round =>
    obtain ⟨k, ds, hkl, rfl, hn, hown, hb⟩ := hrel
    by_cases hlt : k < ns.length
    · have HKW := hid_mk (kidsAt_keep (G' := G) (w' := wr) (below_keeps (hb.mono (by omega)) hG) (fun b h => h) (kidsAt_keep (below_keeps ((Below.refl w.heap.size w).alloc (Nat.le_refl _) _) hG) (fun b h => h) HK.out))
      obtain ⟨b, o, A', cap', rfl, hgb, hsl', hks, hc⟩ := kidsAt_at HKW.out hlt
      have hft := flat_take (kind := kind) hlt
      have hfl := flat_len (kind := kind) hlt
      generalize ns[k] = nd at *
      (have z0 : wr.cell? ⟨b, o + k * 8, none⟩ = some (.int .i64 (nd.kind)) := hc 0 _ rfl; have z1 : wr.cell? ⟨b, o + k * 8 + 1, none⟩ = some (.int .u64 ((nd.set).a.toNat : Int)) := hc 1 _ rfl; have z2 : wr.cell? ⟨b, o + k * 8 + 2, none⟩ = some (.int .u64 ((nd.set).b.toNat : Int)) := hc 2 _ rfl; have z3 : wr.cell? ⟨b, o + k * 8 + 3, none⟩ = some (.int .u64 ((nd.set).c.toNat : Int)) := hc 3 _ rfl; have z4 : wr.cell? ⟨b, o + k * 8 + 4, none⟩ = some (.int .u64 ((nd.set).d.toNat : Int)) := hc 4 _ rfl; have z5 : wr.cell? ⟨b, o + k * 8 + 5, none⟩ = some (.slice (A') (nd.kids.length) (cap')) := hc 5 _ rfl; have z6 : wr.cell? ⟨b, o + k * 8 + 6, none⟩ = some (.int .i64 (nd.min)) := hc 6 _ rfl; have z7 : wr.cell? ⟨b, o + k * 8 + 7, none⟩ = some (.int .i64 (nd.max)) := hc 7 _ rfl)
      have hszw : wr.heap.size ≥ w.heap.size + 1 := by have := hb.size; simpa using this
      have hvl : ∀ g, u5.ownBlock = some g → w.heap.size + 1 ≤ g := fun g hg => (hown.lt g hg).1
      have HN := hid_mk hn
      have HB := hid_mk hb
      have HVL := hid_mk hvl
      clear hc hn hb hvl
      have hbw : Below (w.heap.size + 1) (w.alloc (.cells #[.int .i64 0, .int .u64 0, .int .u64 0, .int .u64 0, .int .u64 0, .slice none 0 0, .int .i64 0, .int .i64 0] 28)) (wr.alloc (.cells #[.int .i64 (nd.kind), .int .u64 ((nd.set).a.toNat : Int), .int .u64 ((nd.set).b.toNat : Int), .int .u64 ((nd.set).c.toNat : Int), .int .u64 ((nd.set).d.toNat : Int), .slice (A') (nd.kids.length) (cap'), .int .i64 (nd.min), .int .i64 (nd.max)] 28)) := HB.out.alloc (by omega) _
      have hkw : Keeps G wr (wr.alloc (.cells #[.int .i64 (nd.kind), .int .u64 ((nd.set).a.toNat : Int), .int .u64 ((nd.set).b.toNat : Int), .int .u64 ((nd.set).c.toNat : Int), .int .u64 ((nd.set).d.toNat : Int), .slice (A') (nd.kids.length) (cap'), .int .i64 (nd.min), .int .i64 (nd.max)] 28)) := below_keeps ((Below.refl (w.heap.size + 1) wr).alloc (by omega) _) (fun b hb => Nat.lt_succ_of_lt (hG b hb))
      have HBW := hid_mk hbw
      have HKW2 := hid_mk hkw
      clear hbw hkw
      by_cases hkk : nd.kind = kind
      · have hfe : Rx.flat kind (ns.take (k + 1)) = Rx.flat kind (ns.take k) ++ nd.kids := by rw [hft, if_pos hkk]
        have HFE := hid_mk hfe
        have HKK := hid_mk hkk
        rw [hfe, List.length_append] at hfl
        have hee : (nd.kind == kind) = true := by simp [hkk]
        have hlw : w.heap.size + 1 ≤ (wr.alloc (.cells #[.int .i64 (nd.kind), .int .u64 ((nd.set).a.toNat : Int), .int .u64 ((nd.set).b.toNat : Int), .int .u64 ((nd.set).c.toNat : Int), .int .u64 ((nd.set).d.toNat : Int), .slice (A') (nd.kids.length) (cap'), .int .i64 (nd.min), .int .i64 (nd.max)] 28)).heap.size := by simp; omega
        clear hft hfe hkk
        go_wp2_with (at_builtin; refine append_kids rfl _ _ 26 rfl (w.heap.size + 1) 28 i0 _ 80 Tryd.underlying26 hi hz0 hz1 hz2 rfl _ _ ds rfl (hown.alloc _) G A' nd.kids.length cap' nd.kids rfl rfl hsl' ?c1 ?c2 ?c3 ?c4 ?_)
        case c1 => exact kidsAt_keep HKW2.out (fun b h => h) hks
        case c2 => unfold maxLen; omega
        case c3 => omega
        case c4 => exact hlw
        intro v' w' ds' hn' hown' hg hat
        have hbb := HBW.out.grown hg hlw HVL.out
        have hnn := nodesAt_append (nodesAt_keep (grown_keeps hg (fun b hb => Nat.lt_succ_of_lt (hG b hb)) hlw HVL.out) (fun b h => h) (nodesAt_keep HKW2.out (fun b h => h) HN.out)) (nodesAt_keep (grown_keeps hg (fun b hb => Nat.lt_succ_of_lt (hG b hb)) hlw HVL.out) (fun b h => h) hn')
        rw [← List.length_append, ← HFE.out] at hown'
        rw [← HFE.out] at hnn
        have HR := hid_mk (And.intro hnn (And.intro hown' hbb))
        clear hbb hnn hown' hn' hg hat
        go_wp2
        go_roundw
        case rel => exact ⟨k + 1, _, by omega, by go_num, HR.out.1, HR.out.2.1, HR.out.2.2⟩
        case measure => simp [intOf]; omega
      · have hfe : Rx.flat kind (ns.take (k + 1)) = Rx.flat kind (ns.take k) ++ [nd] := by rw [hft, if_neg hkk]
        have HFE := hid_mk hfe
        have hee : (nd.kind == kind) = false := by simpa using hkk
        rw [hfe, List.length_append, List.length_singleton] at hfl
        clear hft hfe hkk
        have hb2 := HBW.out.alloc (by simp; omega) (.cells #[.int .i64 (nd.kind), .int .u64 ((nd.set).a.toNat : Int), .int .u64 ((nd.set).b.toNat : Int), .int .u64 ((nd.set).c.toNat : Int), .int .u64 ((nd.set).d.toNat : Int), .slice (A') (nd.kids.length) (cap'), .int .i64 (nd.min), .int .i64 (nd.max)] 28)
        have hk2 : Keeps G wr ((wr.alloc (.cells #[.int .i64 (nd.kind), .int .u64 ((nd.set).a.toNat : Int), .int .u64 ((nd.set).b.toNat : Int), .int .u64 ((nd.set).c.toNat : Int), .int .u64 ((nd.set).d.toNat : Int), .slice (A') (nd.kids.length) (cap'), .int .i64 (nd.min), .int .i64 (nd.max)] 28)).alloc (.cells #[.int .i64 (nd.kind), .int .u64 ((nd.set).a.toNat : Int), .int .u64 ((nd.set).b.toNat : Int), .int .u64 ((nd.set).c.toNat : Int), .int .u64 ((nd.set).d.toNat : Int), .slice (A') (nd.kids.length) (cap'), .int .i64 (nd.min), .int .i64 (nd.max)] 28)) := below_keeps (((Below.refl (w.heap.size + 1) wr).alloc (by omega) _).alloc (by simp; omega) _) (fun b hb => Nat.lt_succ_of_lt (hG b hb))
        have hnw := World.news_of_block (Blk.new (wr.alloc (.cells #[.int .i64 (nd.kind), .int .u64 ((nd.set).a.toNat : Int), .int .u64 ((nd.set).b.toNat : Int), .int .u64 ((nd.set).c.toNat : Int), .int .u64 ((nd.set).d.toNat : Int), .slice (A') (nd.kids.length) (cap'), .int .i64 (nd.min), .int .i64 (nd.max)] 28)) #[.int .i64 (nd.kind), .int .u64 ((nd.set).a.toNat : Int), .int .u64 ((nd.set).b.toNat : Int), .int .u64 ((nd.set).c.toNat : Int), .int .u64 ((nd.set).d.toNat : Int), .slice (A') (nd.kids.length) (cap'), .int .i64 (nd.min), .int .i64 (nd.max)] 28)
        rw [show (wr.alloc (.cells #[.int .i64 (nd.kind), .int .u64 ((nd.set).a.toNat : Int), .int .u64 ((nd.set).b.toNat : Int), .int .u64 ((nd.set).c.toNat : Int), .int .u64 ((nd.set).d.toNat : Int), .slice (A') (nd.kids.length) (cap'), .int .i64 (nd.min), .int .i64 (nd.max)] 28)).heap.size = wr.heap.size + 1 by simp] at hnw
        have HB2 := hid_mk hb2
        have HK2 := hid_mk hk2
        have HNW := hid_mk hnw
        clear hb2 hk2 hnw
        have hlw : w.heap.size + 1 ≤ ((wr.alloc (.cells #[.int .i64 (nd.kind), .int .u64 ((nd.set).a.toNat : Int), .int .u64 ((nd.set).b.toNat : Int), .int .u64 ((nd.set).c.toNat : Int), .int .u64 ((nd.set).d.toNat : Int), .slice (A') (nd.kids.length) (cap'), .int .i64 (nd.min), .int .i64 (nd.max)] 28)).alloc (.cells #[.int .i64 (nd.kind), .int .u64 ((nd.set).a.toNat : Int), .int .u64 ((nd.set).b.toNat : Int), .int .u64 ((nd.set).c.toNat : Int), .int .u64 ((nd.set).d.toNat : Int), .slice (A') (nd.kids.length) (cap'), .int .i64 (nd.min), .int .i64 (nd.max)] 28)).heap.size := by simp; omega
        go_wp2_with (at_builtin; refine wpList_append_own_at _ rfl _ _ 26 rfl (w.heap.size + 1) 28 i0 _ 8 80 Tryd.underlying26 hi hz0 hz1 hz2 rfl (by decide) _ _ ds rfl ((hown.alloc _).alloc _) ⟨wr.heap.size + 1, 0, none⟩ 1 1 [.int .i64 (nd.kind), .int .u64 ((nd.set).a.toNat : Int), .int .u64 ((nd.set).b.toNat : Int), .int .u64 ((nd.set).c.toNat : Int), .int .u64 ((nd.set).d.toNat : Int), .slice (A') (nd.kids.length) (cap'), .int .i64 (nd.min), .int .i64 (nd.max)] rfl rfl ?c1 ?c2 ?c3 ?c4 ?c5 ?_)
        case c2 => exact ⟨rfl, rfl, rfl, rfl, rfl, rfl, rfl, rfl⟩
        case c3 => unfold maxLen; omega
        case c4 => omega
        case c5 => omega
        intro v' w' hown' hg hnil hat
        have hbb := HB2.out.grown hg hlw HVL.out
        have hnn := nodesAt_append (nodesAt_keep (grown_keeps hg (fun b hb => Nat.lt_succ_of_lt (hG b hb)) hlw HVL.out) (fun b h => h) (nodesAt_keep HK2.out (fun b h => h) HN.out)) (nodesAt_one (nodeAt_of hsl' (kidsAt_keep (grown_keeps hg (fun b hb => Nat.lt_succ_of_lt (hG b hb)) hlw HVL.out) (fun b h => h) (kidsAt_keep HK2.out (fun b h => h) hks))))
        rw [show (Rx.flat kind (ns.take k)).length + 1 = (Rx.flat kind (ns.take k) ++ [nd]).length by simp, ← HFE.out] at hown'
        rw [← HFE.out] at hnn
        have HR := hid_mk (And.intro hnn (And.intro hown' hbb))
        clear hbb hnn hown' hg hat hnil
        go_wp2
        go_roundw
        case rel => exact ⟨k + 1, _, by omega, by go_num, HR.out.1, HR.out.2.1, HR.out.2.2⟩
        case measure => simp [intOf]; omega
    · have hkn : k = ns.length := by omega
      subst hkn
      rw [List.take_length] at hn hown
      have hfz := flat_len2 kind ns
      have HE : Hid (Rx.join kind ns = match Rx.flat kind ns with | [n] => n | l => .mk kind CSet.empty l 0 0) := hid_mk rfl
      have hb1 : Below w.heap.size w wr := ((Below.refl w.heap.size w).alloc (Nat.le_refl _) _).trans (hb.mono (by omega))
      have hres : Blk wr w.heap.size #[.int .i64 0, .int .u64 0, .int .u64 0, .int .u64 0, .int .u64 0, .slice none 0 0, .int .i64 0, .int .i64 0] 28 := (Blk.new w #[.int .i64 0, .int .u64 0, .int .u64 0, .int .u64 0, .int .u64 0, .slice none 0 0, .int .i64 0, .int .i64 0] 28).below hb (by omega)
      by_cases h1 : (Rx.flat kind ns).length = 1
      · obtain ⟨nd, hnd⟩ : ∃ nd, Rx.flat kind ns = [nd] := by
          cases hf : Rx.flat kind ns with
          | nil => rw [hf] at h1; simp at h1
          | cons a r => cases r with
            | nil => exact ⟨a, rfl⟩
            | cons b r => rw [hf] at h1; simp at h1
        rw [hnd] at hn hown HE
        have HE2 : Hid (Rx.join kind ns = nd) := HE
        obtain ⟨cs, es, rfl, h2, h3⟩ := nodesAt_open hn
        obtain rfl := nodesAt_nil' h3
        obtain ⟨A', cap', rfl, hsl', hks⟩ := nodeAt_parts h2
        rw [List.append_nil, List.length_singleton] at hown
        obtain ⟨g, capg, hv, hbg, hgl⟩ := hown.form (by simp)
        subst hv
        (have z0 : wr.cell? ⟨g, 0, none⟩ = some (.int .i64 (nd.kind)) := hown.cellAt 0 (by simp); have z1 : wr.cell? ⟨g, 1, none⟩ = some (.int .u64 ((nd.set).a.toNat : Int)) := hown.cellAt 1 (by simp); have z2 : wr.cell? ⟨g, 2, none⟩ = some (.int .u64 ((nd.set).b.toNat : Int)) := hown.cellAt 2 (by simp); have z3 : wr.cell? ⟨g, 3, none⟩ = some (.int .u64 ((nd.set).c.toNat : Int)) := hown.cellAt 3 (by simp); have z4 : wr.cell? ⟨g, 4, none⟩ = some (.int .u64 ((nd.set).d.toNat : Int)) := hown.cellAt 4 (by simp); have z5 : wr.cell? ⟨g, 5, none⟩ = some (.slice (A') (nd.kids.length) (cap')) := hown.cellAt 5 (by simp); have z6 : wr.cell? ⟨g, 6, none⟩ = some (.int .i64 (nd.min)) := hown.cellAt 6 (by simp); have z7 : wr.cell? ⟨g, 7, none⟩ = some (.int .i64 (nd.max)) := hown.cellAt 7 (by simp))
        (have r0 : wr.cell? ⟨w.heap.size, 0, none⟩ = some (.int .i64 0) := hres.cell 0; have r1 : wr.cell? ⟨w.heap.size, 1, none⟩ = some (.int .u64 0) := hres.cell 1; have r2 : wr.cell? ⟨w.heap.size, 2, none⟩ = some (.int .u64 0) := hres.cell 2; have r3 : wr.cell? ⟨w.heap.size, 3, none⟩ = some (.int .u64 0) := hres.cell 3; have r4 : wr.cell? ⟨w.heap.size, 4, none⟩ = some (.int .u64 0) := hres.cell 4; have r5 : wr.cell? ⟨w.heap.size, 5, none⟩ = some (.slice none 0 0) := hres.cell 5; have r6 : wr.cell? ⟨w.heap.size, 6, none⟩ = some (.int .i64 0) := hres.cell 6; have r7 : wr.cell? ⟨w.heap.size, 7, none⟩ = some (.int .i64 0) := hres.cell 7; have rf : ∀ i, wr.frozen? ⟨w.heap.size, i, none⟩ = false := hres.frozen)
        have hwl : w.heap.size < wr.heap.size := hres.lt
        have HKS := hid_mk hks
        have HB1 := hid_mk hb1
        have HG := hid_mk hG
        have hfl1 : (Rx.flat kind ns).length = 1 := h1
        clear hks hb1 hb hres hn h2 h3 hG hnd HE h1 hfl1
        go_wp2
        refine bodyPost_ret (v := .agg #[.int .i64 (nd.kind), .int .u64 ((nd.set).a.toNat : Int), .int .u64 ((nd.set).b.toNat : Int), .int .u64 ((nd.set).c.toNat : Int), .int .u64 ((nd.set).d.toNat : Int), .slice (A') (nd.kids.length) (cap'), .int .i64 (nd.min), .int .i64 (nd.max)]) (by simp [results, Tryd.results39, go_sem, r0, r1, r2, r3, r4, r5, r6, r7, hwl]) rfl ?_
        rw [HE2.out]
        refine ⟨A', cap', rfl, hsl', ?_, kidsAt_keep (below_keeps (B := w.heap.size) ?_ HG.out) (fun b h => Or.inl h) HKS.out⟩
        · have hb1 := HB1.out; exact (by repeat (first | with_reducible exact Below.refl _ _ | with_reducible assumption | with_reducible refine Below.setCell ?_ (by first | omega | (dsimp only; omega) | (simp <;> omega)) _ | with_reducible refine Below.alloc ?_ (by first | omega | (simp <;> omega)) _ | with_reducible refine below_drewN ?_ _ | with_reducible refine Below.drew ?_))
        · exact (by repeat (first | with_reducible exact Below.refl _ _ | with_reducible assumption | with_reducible refine Below.setCell ?_ (by first | omega | (dsimp only; omega) | (simp <;> omega)) _ | with_reducible refine Below.alloc ?_ (by first | omega | (simp <;> omega)) _ | with_reducible refine below_drewN ?_ _ | with_reducible refine Below.drew ?_))
      · have hn1 : ((((Rx.flat kind ns).length : Nat) : Int) == 1) = false := by simp; omega
        have HE2 : Hid (Rx.join kind ns = .mk kind CSet.empty (Rx.flat kind ns) 0 0) := hid_mk (by
          rw [HE.out]
          split
          · rename_i e; rw [e] at h1; simp at h1
          · rfl)
        have hkids := hown
        (have r0 : wr.cell? ⟨w.heap.size, 0, none⟩ = some (.int .i64 0) := hres.cell 0; have r1 : wr.cell? ⟨w.heap.size, 1, none⟩ = some (.int .u64 0) := hres.cell 1; have r2 : wr.cell? ⟨w.heap.size, 2, none⟩ = some (.int .u64 0) := hres.cell 2; have r3 : wr.cell? ⟨w.heap.size, 3, none⟩ = some (.int .u64 0) := hres.cell 3; have r4 : wr.cell? ⟨w.heap.size, 4, none⟩ = some (.int .u64 0) := hres.cell 4; have r5 : wr.cell? ⟨w.heap.size, 5, none⟩ = some (.slice none 0 0) := hres.cell 5; have r6 : wr.cell? ⟨w.heap.size, 6, none⟩ = some (.int .i64 0) := hres.cell 6; have r7 : wr.cell? ⟨w.heap.size, 7, none⟩ = some (.int .i64 0) := hres.cell 7; have rf : ∀ i, wr.frozen? ⟨w.heap.size, i, none⟩ = false := hres.frozen)
        have hwl : w.heap.size < wr.heap.size := hres.lt
        have HB1 := hid_mk hb1
        have HNN := hid_mk hn
        rcases hown.2 with ⟨hv, h0⟩ | ⟨g, capg, cur, hv, hbg, hgl, hnc, hcm, hcs, hct⟩
        · subst hv
          have hl0 : Rx.flat kind ns = [] := List.eq_nil_of_length_eq_zero h0
          rw [hl0] at HE2 hn1 hfz
          clear hb1 hb hres hn hG HE h1 hkids hown h0 hl0 hn1 HNN
          go_wp2
          refine bodyPost_ret (v := .agg #[.int .i64 kind, .int .u64 0, .int .u64 0, .int .u64 0, .int .u64 0, .slice none 0 0, .int .i64 0, .int .i64 0]) (by simp [results, Tryd.results39, go_sem, r0, r1, r2, r3, r4, r5, r6, r7, hwl]) rfl ?_
          rw [HE2.out]
          refine ⟨none, 0, rfl, SlOk.none_, ?_, fun h => absurd h (by simp [Node.kids])⟩
          have hb1 := HB1.out; exact (by repeat (first | with_reducible exact Below.refl _ _ | with_reducible assumption | with_reducible refine Below.setCell ?_ (by first | omega | (dsimp only; omega) | (simp <;> omega)) _ | with_reducible refine Below.alloc ?_ (by first | omega | (simp <;> omega)) _ | with_reducible refine below_drewN ?_ _ | with_reducible refine Below.drew ?_))
        · subst hv
          have hgl2 := World.ownsRow.lt hown g rfl
          have HGL := hid_mk hgl2
          have HG := hid_mk hG
          have HO := hid_mk (hown.cells (g := g) rfl)
          have HNC := hid_mk hnc
          have hfg : (Rx.flat kind ns).length ≤ 10000 := by omega
          clear hb1 hb hres hn hG HE h1 hkids hown hgl hcs hct hcm hgl2
          generalize hL : (Rx.flat kind ns).length = L at *
          go_wp2
          refine bodyPost_ret (v := .agg #[.int .i64 kind, .int .u64 0, .int .u64 0, .int .u64 0, .int .u64 0, .slice (some ⟨g, 0, none⟩) L capg, .int .i64 0, .int .i64 0]) (by simp [results, Tryd.results39, go_sem, r0, r1, r2, r3, r4, r5, r6, r7, hwl]) rfl ?_
          rw [HE2.out]
          subst hL
          have hof := set8_only w.heap.size wr (.int .i64 kind) (.int .u64 0) (.int .u64 0) (.int .u64 0) (.int .u64 0) (.slice (some ⟨g, 0, none⟩) (Rx.flat kind ns).length capg) (.int .i64 0) (.int .i64 0)
          have hbf := hof.below (Nat.le_refl _) (Nat.le_of_lt hwl)
          refine retNode_mk ⟨HNC.out, fun h => by cases h⟩ (HB1.out.trans hbf) fun hpos => ⟨g, 0, rfl, Or.inr ⟨by have := HGL.out.1; omega, Nat.lt_of_lt_of_le HGL.out.2 hof.size⟩, ds, nodesAt_keep (below_keeps hbf HG.out) (fun b h => Or.inl h) HNN.out, fun j u hj => ?_⟩
          have := HO.out j u hj
          rw [add_off] at this
          have hne : g ≠ w.heap.size := by have := HGL.out.1; omega
          rw [hof.cell (o := 0 + j) HGL.out.2 hne]
          exact this
end Go.Proofs.YthgcefppeaopkaaDoor
