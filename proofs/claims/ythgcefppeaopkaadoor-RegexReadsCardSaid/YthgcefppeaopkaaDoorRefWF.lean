/- Walks over the reference's pattern reader: joining parts. -/
import Derived.Test.YthgcefppeaopkaaDoorRefWE
namespace Go.Proofs.YthgcefppeaopkaaDoor
open Go Go.RowKit Go.Sort
set_option maxRecDepth 100000
set_option linter.unusedSimpArgs false
set_option linter.unusedVariables false
set_option maxHeartbeats 1000000
theorem rjoin_any (kind : Int) (A : Option Addr) (cap : Nat) (ns : List Node) (G : Nat → Prop) (w : World) (hG : ∀ b, G b → b < w.heap.size) (hsl : SlOk A ns.length cap) (hk : KidsAt G w A ns) (hs : Node.sizes ns ≤ 10000) :
    Calls Tryd.prog 43 #[.int .i64 kind, .slice A ns.length cap] w (RetNode G (Rx.join kind ns) w) := by
  obtain ⟨i0, hi, hz0, hz1, hz2⟩ := info_parts node_info
  have hlen : ns.length ≤ 10000 := Nat.le_trans (Node.length_le_sizes ns) hs
  have HK := hid_mk hk
  have HSL := hid_mk hsl
  clear hk hsl
  go_enter Tryd.func43, Tryd.ntmps43
  go_wp2
  go_loopw [5, 6] (fun v u wr => JoinAt kind ns G w v u wr) (fun _ u _ => ns.length - (intOf u).toNat)
  case atStart => exact ⟨0, [], Nat.zero_le _, rfl, nodesAt_nil, World.ownsRow_nil _ _ _ _, Below.refl _ _⟩
  case round =>
    obtain ⟨k, ds, hkl, rfl, hn, hown, hb⟩ := hrel
    by_cases hlt : k < ns.length
    · have HKW := hid_mk (kidsAt_keep (G' := G) (w' := wr) (below_keeps (hb.mono (by omega)) hG) (fun b h => h) (kidsAt_keep (below_keeps ((Below.refl w.heap.size w).alloc (Nat.le_refl _) _) hG) (fun b h => h) HK.out))
      obtain ⟨b, o, A', cap', rfl, hgb, hsl', hks, hc⟩ := kidsAt_at HKW.out hlt
      have hft := flat_take (kind := kind) hlt
      have hfl := flat_len (kind := kind) hlt
      generalize ns[k] = nd at *
      (have z0 : wr.cell? ⟨b, o + k * 8, none⟩ = some (.int .i64 (nd.kind)) := hc 0 _ rfl; have z1 : wr.cell? ⟨b, o + k * 8 + 1, none⟩ = some (.int .u64 ((nd.set).a.toNat : Int)) := hc 1 _ rfl; have z2 : wr.cell? ⟨b, o + k * 8 + 2, none⟩ = some (.int .u64 ((nd.set).b.toNat : Int)) := hc 2 _ rfl; have z3 : wr.cell? ⟨b, o + k * 8 + 3, none⟩ = some (.int .u64 ((nd.set).c.toNat : Int)) := hc 3 _ rfl; have z4 : wr.cell? ⟨b, o + k * 8 + 4, none⟩ = some (.int .u64 ((nd.set).d.toNat : Int)) := hc 4 _ rfl; have z5 : wr.cell? ⟨b, o + k * 8 + 5, none⟩ = some (.slice (A') (nd.kids.length) (cap')) := hc 5 _ rfl; have z6 : wr.cell? ⟨b, o + k * 8 + 6, none⟩ = some (.int .i64 (nd.min)) := hc 6 _ rfl; have z7 : wr.cell? ⟨b, o + k * 8 + 7, none⟩ = some (.int .i64 (nd.max)) := hc 7 _ rfl)
      have hszw : wr.heap.size ≥ w.heap.size + 1 := by have := hb.size; simpa using this
      have hvl : ∀ g, u5.ownBlock = some g → w.heap.size + 1 ≤ g := fun g hg => (hown.lt g hg).1
      have HN := hid_mk hn
      have HB := hid_mk hb
      have HVL := hid_mk hvl
      clear hc hn hb hvl
      have hbw : Below (w.heap.size + 1) (w.alloc (.cells #[.int .i64 0, .int .u64 0, .int .u64 0, .int .u64 0, .int .u64 0, .slice none 0 0, .int .i64 0, .int .i64 0] 28)) wr := HB.out
      have HBW := hid_mk hbw
      clear hbw
      by_cases hkk : nd.kind = kind
      · have hfe : Rx.flat kind (ns.take (k + 1)) = Rx.flat kind (ns.take k) ++ nd.kids := by rw [hft, if_pos hkk]
        have HFE := hid_mk hfe
        have HKK := hid_mk hkk
        rw [hfe, List.length_append] at hfl
        have hee : (nd.kind == kind) = true := by simp [hkk]
        have hlw : w.heap.size + 1 ≤ wr.heap.size := hszw
        clear hft hfe hkk
        go_wp2_with (at_builtin; refine append_kids rfl _ _ 26 rfl (w.heap.size + 1) 28 i0 _ 80 Tryd.underlying26 hi hz0 hz1 hz2 rfl _ _ ds rfl hown G A' nd.kids.length cap' nd.kids rfl rfl hsl' ?c1 ?c2 ?c3 ?c4 ?_)
        case c1 => exact hks
        case c2 => unfold maxLen; omega
        case c3 => omega
        case c4 => exact hlw
        intro v' w' ds' hn' hown' hg hat
        have hbb := HBW.out.grown hg hlw HVL.out
        have hnn := nodesAt_append (nodesAt_keep (grown_keeps hg (fun b hb => Nat.lt_succ_of_lt (hG b hb)) hlw HVL.out) (fun b h => h) HN.out) (nodesAt_keep (grown_keeps hg (fun b hb => Nat.lt_succ_of_lt (hG b hb)) hlw HVL.out) (fun b h => h) hn')
        rw [← List.length_append, ← HFE.out] at hown'
        rw [← HFE.out] at hnn
        have HR := hid_mk (And.intro hnn (And.intro hown' hbb))
        clear hbb hnn hown' hn' hg hat
        go_wp2
        go_roundw
        case rel => exact ⟨k + 1, _, by omega, by go_num, HR.out.1, HR.out.2.1, HR.out.2.2⟩
        case measure => simp [intOf]; omega
      · have hfe : Rx.flat kind (ns.take (k + 1)) = Rx.flat kind (ns.take k) ++ [nd] := by rw [hft, if_neg hkk]
        have HFE := hid_mk hfe
        have hee : (nd.kind == kind) = false := by simpa using hkk
        rw [hfe, List.length_append, List.length_singleton] at hfl
        clear hft hfe hkk
        have hb2 := HBW.out.alloc (by omega) (.cells #[.int .i64 (nd.kind), .int .u64 ((nd.set).a.toNat : Int), .int .u64 ((nd.set).b.toNat : Int), .int .u64 ((nd.set).c.toNat : Int), .int .u64 ((nd.set).d.toNat : Int), .slice (A') (nd.kids.length) (cap'), .int .i64 (nd.min), .int .i64 (nd.max)] 28)
        have hk2 : Keeps G wr (wr.alloc (.cells #[.int .i64 (nd.kind), .int .u64 ((nd.set).a.toNat : Int), .int .u64 ((nd.set).b.toNat : Int), .int .u64 ((nd.set).c.toNat : Int), .int .u64 ((nd.set).d.toNat : Int), .slice (A') (nd.kids.length) (cap'), .int .i64 (nd.min), .int .i64 (nd.max)] 28)) := below_keeps ((Below.refl (w.heap.size + 1) wr).alloc (by omega) _) (fun b hb => Nat.lt_succ_of_lt (hG b hb))
        have hnw := World.news_of_block (Blk.new wr #[.int .i64 (nd.kind), .int .u64 ((nd.set).a.toNat : Int), .int .u64 ((nd.set).b.toNat : Int), .int .u64 ((nd.set).c.toNat : Int), .int .u64 ((nd.set).d.toNat : Int), .slice (A') (nd.kids.length) (cap'), .int .i64 (nd.min), .int .i64 (nd.max)] 28)
        have HB2 := hid_mk hb2
        have HK2 := hid_mk hk2
        have HNW := hid_mk hnw
        clear hb2 hk2 hnw
        have hlw : w.heap.size + 1 ≤ (wr.alloc (.cells #[.int .i64 (nd.kind), .int .u64 ((nd.set).a.toNat : Int), .int .u64 ((nd.set).b.toNat : Int), .int .u64 ((nd.set).c.toNat : Int), .int .u64 ((nd.set).d.toNat : Int), .slice (A') (nd.kids.length) (cap'), .int .i64 (nd.min), .int .i64 (nd.max)] 28)).heap.size := by simp; omega
        go_wp2_with (at_builtin; refine wpList_append_own_at _ rfl _ _ 26 rfl (w.heap.size + 1) 28 i0 _ 8 80 Tryd.underlying26 hi hz0 hz1 hz2 rfl (by decide) _ _ ds rfl (hown.alloc _) ⟨wr.heap.size, 0, none⟩ 1 1 [.int .i64 (nd.kind), .int .u64 ((nd.set).a.toNat : Int), .int .u64 ((nd.set).b.toNat : Int), .int .u64 ((nd.set).c.toNat : Int), .int .u64 ((nd.set).d.toNat : Int), .slice (A') (nd.kids.length) (cap'), .int .i64 (nd.min), .int .i64 (nd.max)] rfl rfl ?c1 ?c2 ?c3 ?c4 ?c5 ?_)
        case c2 => exact ⟨rfl, rfl, rfl, rfl, rfl, rfl, rfl, rfl⟩
        case c3 => unfold maxLen; omega
        case c4 => omega
        case c5 => omega
        intro v' w' hown' hg hnil hat
        have hbb := HB2.out.grown hg hlw HVL.out
        have hnn := nodesAt_append (nodesAt_keep (grown_keeps hg (fun b hb => Nat.lt_succ_of_lt (hG b hb)) hlw HVL.out) (fun b h => h) (nodesAt_keep HK2.out (fun b h => h) HN.out)) (nodesAt_one (nodeAt_of hsl' (kidsAt_keep (grown_keeps hg (fun b hb => Nat.lt_succ_of_lt (hG b hb)) hlw HVL.out) (fun b h => h) (kidsAt_keep HK2.out (fun b h => h) hks))))
        rw [show (Rx.flat kind (ns.take k)).length + 1 = (Rx.flat kind (ns.take k) ++ [nd]).length by simp, ← HFE.out] at hown'
        rw [← HFE.out] at hnn
        have HR := hid_mk (And.intro hnn (And.intro hown' hbb))
        clear hbb hnn hown' hg hat hnil
        go_wp2
        go_roundw
        case rel => exact ⟨k + 1, _, by omega, by go_num, HR.out.1, HR.out.2.1, HR.out.2.2⟩
        case measure => simp [intOf]; omega
    · have hkn : k = ns.length := by omega
      subst hkn
      rw [List.take_length] at hn hown
      have hfz := flat_len2 kind ns
      have HE : Hid (Rx.join kind ns = match Rx.flat kind ns with | [n] => n | l => .mk kind CSet.empty l 0 0) := hid_mk rfl
      have hb1 : Below w.heap.size w wr := ((Below.refl w.heap.size w).alloc (Nat.le_refl _) _).trans (hb.mono (by omega))
      have hres : Blk wr w.heap.size #[.int .i64 0, .int .u64 0, .int .u64 0, .int .u64 0, .int .u64 0, .slice none 0 0, .int .i64 0, .int .i64 0] 28 := (Blk.new w #[.int .i64 0, .int .u64 0, .int .u64 0, .int .u64 0, .int .u64 0, .slice none 0 0, .int .i64 0, .int .i64 0] 28).below hb (by omega)
      by_cases h1 : (Rx.flat kind ns).length = 1
      · obtain ⟨nd, hnd⟩ : ∃ nd, Rx.flat kind ns = [nd] := by
          cases hf : Rx.flat kind ns with
          | nil => rw [hf] at h1; simp at h1
          | cons a r => cases r with
            | nil => exact ⟨a, rfl⟩
            | cons b r => rw [hf] at h1; simp at h1
        rw [hnd] at hn hown HE
        have HE2 : Hid (Rx.join kind ns = nd) := HE
        obtain ⟨cs, es, rfl, h2, h3⟩ := nodesAt_open hn
        obtain rfl := nodesAt_nil' h3
        obtain ⟨A', cap', rfl, hsl', hks⟩ := nodeAt_parts h2
        rw [List.append_nil, List.length_singleton] at hown
        obtain ⟨g, capg, hv, hbg, hgl⟩ := hown.form (by simp)
        subst hv
        (have z0 : wr.cell? ⟨g, 0, none⟩ = some (.int .i64 (nd.kind)) := hown.cellAt 0 (by simp); have z1 : wr.cell? ⟨g, 1, none⟩ = some (.int .u64 ((nd.set).a.toNat : Int)) := hown.cellAt 1 (by simp); have z2 : wr.cell? ⟨g, 2, none⟩ = some (.int .u64 ((nd.set).b.toNat : Int)) := hown.cellAt 2 (by simp); have z3 : wr.cell? ⟨g, 3, none⟩ = some (.int .u64 ((nd.set).c.toNat : Int)) := hown.cellAt 3 (by simp); have z4 : wr.cell? ⟨g, 4, none⟩ = some (.int .u64 ((nd.set).d.toNat : Int)) := hown.cellAt 4 (by simp); have z5 : wr.cell? ⟨g, 5, none⟩ = some (.slice (A') (nd.kids.length) (cap')) := hown.cellAt 5 (by simp); have z6 : wr.cell? ⟨g, 6, none⟩ = some (.int .i64 (nd.min)) := hown.cellAt 6 (by simp); have z7 : wr.cell? ⟨g, 7, none⟩ = some (.int .i64 (nd.max)) := hown.cellAt 7 (by simp))
        (have r0 : wr.cell? ⟨w.heap.size, 0, none⟩ = some (.int .i64 0) := hres.cell 0; have r1 : wr.cell? ⟨w.heap.size, 1, none⟩ = some (.int .u64 0) := hres.cell 1; have r2 : wr.cell? ⟨w.heap.size, 2, none⟩ = some (.int .u64 0) := hres.cell 2; have r3 : wr.cell? ⟨w.heap.size, 3, none⟩ = some (.int .u64 0) := hres.cell 3; have r4 : wr.cell? ⟨w.heap.size, 4, none⟩ = some (.int .u64 0) := hres.cell 4; have r5 : wr.cell? ⟨w.heap.size, 5, none⟩ = some (.slice none 0 0) := hres.cell 5; have r6 : wr.cell? ⟨w.heap.size, 6, none⟩ = some (.int .i64 0) := hres.cell 6; have r7 : wr.cell? ⟨w.heap.size, 7, none⟩ = some (.int .i64 0) := hres.cell 7; have rf : ∀ i, wr.frozen? ⟨w.heap.size, i, none⟩ = false := hres.frozen)
        have hwl : w.heap.size < wr.heap.size := hres.lt
        have HKS := hid_mk hks
        have HB1 := hid_mk hb1
        have HG := hid_mk hG
        have hfl1 : (Rx.flat kind ns).length = 1 := h1
        clear hks hb1 hb hres hn h2 h3 hG hnd HE h1 hfl1
        go_wp2
        refine bodyPost_ret (v := .agg #[.int .i64 (nd.kind), .int .u64 ((nd.set).a.toNat : Int), .int .u64 ((nd.set).b.toNat : Int), .int .u64 ((nd.set).c.toNat : Int), .int .u64 ((nd.set).d.toNat : Int), .slice (A') (nd.kids.length) (cap'), .int .i64 (nd.min), .int .i64 (nd.max)]) (by simp [results, Tryd.results43, go_sem, r0, r1, r2, r3, r4, r5, r6, r7, hwl]) rfl ?_
        rw [HE2.out]
        refine ⟨A', cap', rfl, hsl', ?_, kidsAt_keep (below_keeps (B := w.heap.size) ?_ HG.out) (fun b h => Or.inl h) HKS.out⟩
        · have hb1 := HB1.out; exact (by repeat (first | with_reducible exact Below.refl _ _ | with_reducible assumption | with_reducible refine Below.setCell ?_ (by first | omega | (dsimp only; omega) | (simp <;> omega)) _ | with_reducible refine Below.alloc ?_ (by first | omega | (simp <;> omega)) _ | with_reducible refine below_drewN ?_ _ | with_reducible refine Below.drew ?_))
        · exact (by repeat (first | with_reducible exact Below.refl _ _ | with_reducible assumption | with_reducible refine Below.setCell ?_ (by first | omega | (dsimp only; omega) | (simp <;> omega)) _ | with_reducible refine Below.alloc ?_ (by first | omega | (simp <;> omega)) _ | with_reducible refine below_drewN ?_ _ | with_reducible refine Below.drew ?_))
      · have hn1 : ((((Rx.flat kind ns).length : Nat) : Int) == 1) = false := by simp; omega
        have HE2 : Hid (Rx.join kind ns = .mk kind CSet.empty (Rx.flat kind ns) 0 0) := hid_mk (by
          rw [HE.out]
          split
          · rename_i e; rw [e] at h1; simp at h1
          · rfl)
        have hkids := hown
        (have r0 : wr.cell? ⟨w.heap.size, 0, none⟩ = some (.int .i64 0) := hres.cell 0; have r1 : wr.cell? ⟨w.heap.size, 1, none⟩ = some (.int .u64 0) := hres.cell 1; have r2 : wr.cell? ⟨w.heap.size, 2, none⟩ = some (.int .u64 0) := hres.cell 2; have r3 : wr.cell? ⟨w.heap.size, 3, none⟩ = some (.int .u64 0) := hres.cell 3; have r4 : wr.cell? ⟨w.heap.size, 4, none⟩ = some (.int .u64 0) := hres.cell 4; have r5 : wr.cell? ⟨w.heap.size, 5, none⟩ = some (.slice none 0 0) := hres.cell 5; have r6 : wr.cell? ⟨w.heap.size, 6, none⟩ = some (.int .i64 0) := hres.cell 6; have r7 : wr.cell? ⟨w.heap.size, 7, none⟩ = some (.int .i64 0) := hres.cell 7; have rf : ∀ i, wr.frozen? ⟨w.heap.size, i, none⟩ = false := hres.frozen)
        have hwl : w.heap.size < wr.heap.size := hres.lt
        have HB1 := hid_mk hb1
        have HNN := hid_mk hn
        rcases hown.2 with ⟨hv, h0⟩ | ⟨g, capg, cur, hv, hbg, hgl, hnc, hcm, hcs, hct⟩
        · subst hv
          have hl0 : Rx.flat kind ns = [] := List.eq_nil_of_length_eq_zero h0
          rw [hl0] at HE2 hn1 hfz
          clear hb1 hb hres hn hG HE h1 hkids hown h0 hl0 hn1 HNN
          go_wp2
          refine bodyPost_ret (v := .agg #[.int .i64 kind, .int .u64 0, .int .u64 0, .int .u64 0, .int .u64 0, .slice none 0 0, .int .i64 0, .int .i64 0]) (by simp [results, Tryd.results43, go_sem, r0, r1, r2, r3, r4, r5, r6, r7, hwl]) rfl ?_
          rw [HE2.out]
          refine ⟨none, 0, rfl, SlOk.none_, ?_, fun h => absurd h (by simp [Node.kids])⟩
          have hb1 := HB1.out; exact (by repeat (first | with_reducible exact Below.refl _ _ | with_reducible assumption | with_reducible refine Below.setCell ?_ (by first | omega | (dsimp only; omega) | (simp <;> omega)) _ | with_reducible refine Below.alloc ?_ (by first | omega | (simp <;> omega)) _ | with_reducible refine below_drewN ?_ _ | with_reducible refine Below.drew ?_))
        · subst hv
          have hgl2 := World.ownsRow.lt hown g rfl
          have HGL := hid_mk hgl2
          have HG := hid_mk hG
          have HO := hid_mk (hown.cells (g := g) rfl)
          have HNC := hid_mk hnc
          have hfg : (Rx.flat kind ns).length ≤ 10000 := by omega
          clear hb1 hb hres hn hG HE h1 hkids hown hgl hcs hct hcm hgl2
          generalize hL : (Rx.flat kind ns).length = L at *
          go_wp2
          refine bodyPost_ret (v := .agg #[.int .i64 kind, .int .u64 0, .int .u64 0, .int .u64 0, .int .u64 0, .slice (some ⟨g, 0, none⟩) L capg, .int .i64 0, .int .i64 0]) (by simp [results, Tryd.results43, go_sem, r0, r1, r2, r3, r4, r5, r6, r7, hwl]) rfl ?_
          rw [HE2.out]
          subst hL
          have hof := set8_only w.heap.size wr (.int .i64 kind) (.int .u64 0) (.int .u64 0) (.int .u64 0) (.int .u64 0) (.slice (some ⟨g, 0, none⟩) (Rx.flat kind ns).length capg) (.int .i64 0) (.int .i64 0)
          have hbf := hof.below (Nat.le_refl _) (Nat.le_of_lt hwl)
          refine retNode_mk ⟨HNC.out, fun h => by cases h⟩ (HB1.out.trans hbf) fun hpos => ⟨g, 0, rfl, Or.inr ⟨by have := HGL.out.1; omega, Nat.lt_of_lt_of_le HGL.out.2 hof.size⟩, ds, nodesAt_keep (below_keeps hbf HG.out) (fun b h => Or.inl h) HNN.out, fun j u hj => ?_⟩
          have := HO.out j u hj
          rw [add_off] at this
          have hne : g ≠ w.heap.size := by have := HGL.out.1; omega
          rw [hof.cell (o := 0 + j) HGL.out.2 hne]
          exact this
theorem Below.only0 {w w' : World} (h : Below w.heap.size w w') : Only 0 w w' := ⟨h.os, h.tape, h.output, h.size, fun k hk _ => h.block k hk⟩
theorem Parts.below {w wr w' : World} {v : Value} {ns : List Node} {ds : List Value} (h : Parts w wr v ns ds) (hb : Below wr.heap.size wr w') : Parts w w' v ns ds := h.only (Below.only0 hb) (Nat.zero_le _)
theorem kids_new {w0 w1 w2 : World} {A : Option Addr} {ns : List Node} (h : KidsAt (New w0 w1) w1 A ns) (hb : Below w1.heap.size w1 w2) : KidsAt (New w0 w2) w2 A ns :=
  kidsAt_keep (fun b hb' => hb.block b hb'.2) (fun b hb' => ⟨hb'.1, Nat.lt_of_lt_of_le hb'.2 hb.size⟩) h
/-- at a round's head -/
def RCatAt (s : ByteArray) (i : Nat) (atm : Nat → Res Node) (w : World) (R : Res (List Node)) (u v : Value) (wr : World) : Prop :=
  ∃ (ns : List Node) (ds : List Value) (k f : Nat), u = .int .i64 (k : Nat) ∧ Parts w wr v ns ds ∧ Below w.heap.size w wr ∧ Blk wr w.heap.size #[.int .i64 0, .int .u64 0, .int .u64 0, .int .u64 0, .int .u64 0, .slice none 0 0, .int .i64 0, .int .i64 0, .int .u64 0, .int .u64 0, .int .u64 0, .int .u64 0, .bool false, .int .i64 (0), .int .i64 (0), .int .i64 (0)] 56 ∧ i ≤ k ∧ k ≤ s.size ∧ s.size < k + f ∧ Node.sizes ns ≤ 2 * (k - i) ∧ R = Rx.pieces s.data.toList atm f ns k
/-- a tree joined of parts is handed back in the result's block -/
theorem rjoin_final {q : Nat} {w wr w3 : World} {n : Node} {A : Option Addr} {cap : Nat} (hb : Below w.heap.size w w3) (hw : w.heap.size < wr.heap.size) (hz : wr.heap.size ≤ w3.heap.size) (hs : SlOk A n.kids.length cap)
    (hk : KidsAt (fun b => (w.heap.size < b ∧ b < wr.heap.size) ∨ (wr.heap.size ≤ b ∧ b < w3.heap.size)) w3 A n.kids) (ds : Array Value) :
    RetPN (.ok n q) w (.returned (.agg #[.int .i64 (n.kind), .int .u64 ((n.set).a.toNat : Int), .int .u64 ((n.set).b.toNat : Int), .int .u64 ((n.set).c.toNat : Int), .int .u64 ((n.set).d.toNat : Int), .slice (A) (n.kids.length) (cap), .int .i64 (n.min), .int .i64 (n.max), .int .u64 0, .int .u64 0, .int .u64 0, .int .u64 0, .bool false, .int .i64 ((q : Nat)), .int .i64 0, .int .i64 0])) (w3.setRow w.heap.size ds) := by
  refine ⟨below_row hb (Nat.le_refl _) _, A, cap, rfl, hs, kidsAt_keep (fun b hb' => setRow_other _ _ _ ?_) (fun b hb' => ⟨?_, ?_⟩) hk⟩
  · rcases hb' with h | h <;> omega
  · rcases hb' with h | h <;> omega
  · rw [setRow_size]; rcases hb' with h | h <;> omega
theorem rcat_any (s : ByteArray) (op : Int) (atm : Nat → Res Node) (HA : RAtomOk s op atm) (hf : ∀ i, i ≤ s.data.toList.length → Fine s.data.toList i (atm i)) (hz : Rx.Lean2 s.data.toList atm) (i : Nat) (w : World) (hs : s.size ≤ 1000) (hi : i ≤ s.size) :
    Calls Tryd.prog 41 #[.string s, .int .i64 i, .int .i64 op] w (RetPN (Rx.cat s.data.toList atm i) w) := by
  have HPI := hide (fun k (hk : k ≤ s.size) V => rpiece_any s op atm HA hf k V hs hk)
  have HSZ := hid_mk (Rx.size_piece hz hf)
  have HFI := hid_mk (fun k (hk : k ≤ s.size) => fine_piece s.data.toList atm k (hf k (by simpa using hk)))
  obtain ⟨i0, hi0, hz0, hz1, hz2⟩ := info_parts node_info
  obtain ⟨R, hR⟩ : ∃ R, R = Rx.pieces s.data.toList atm (s.data.toList.length + 1) [] i := ⟨_, rfl⟩
  have HC := hid_mk (cat_of hR)
  rw [len_data] at hR
  have HR := hid_mk hR
  clear HA hf hz hR
  go_enter Tryd.func41, Tryd.ntmps41
  go_wp2
  go_loopw [1, 7] (fun u v wr => RCatAt s i atm w R u v wr) (fun u _ _ => s.size - (intOf u).toNat)
  case atStart => exact ⟨[], [], i, s.size + 1, rfl, Parts.nil _ _, (Below.refl w.heap.size w).alloc (Nat.le_refl _) _, Blk.new w _ _, Nat.le_refl _, hi, by omega, by rw [Node.sizes_nil]; omega, HR.out⟩
  case round =>
    obtain ⟨ns, ds, k, f, rfl, hpt, hbw, hres, hik, hk, hf, hsz, he⟩ := hrel
    have HPT := hid_mk hpt
    have HBW := hid_mk hbw
    have HRS := hid_mk hres
    have hf1 : ∃ f', f = f' + 1 := ⟨f - 1, by omega⟩
    obtain ⟨f', rfl⟩ := hf1
    have hzw : w.heap.size < wr.heap.size := hres.lt
    by_cases hstop : Rx.pk s.data.toList k = -1 ∨ Rx.pk s.data.toList k = 124 ∨ Rx.pk s.data.toList k = 41
    · have HE := hid_mk (HC.out.1 _ _ (he.trans (pieces_stop hstop)))
      clear hpt hbw hres he HR
      obtain ⟨A, cap, hv, hsl, hkk⟩ := HPT.out.slice
      have HJ := hide (rjoin_any 2 A cap ns (fun b => w.heap.size < b ∧ b < wr.heap.size) wr (fun b hb => hb.2) hsl hkk (by omega))
      subst hv
      obtain ⟨nj, hnj⟩ : ∃ nj, nj = Rx.join 2 ns := ⟨_, rfl⟩
      rw [← hnj] at HE HJ
      clear hnj hsl hkk
      have HST : (¬ k < s.size) ∨ (∃ h : k < s.size, (s[k].toNat : Int) = 124) ∨ (∃ h : k < s.size, (s[k].toNat : Int) = 41) := by
        by_cases hlt : k < s.size
        · rw [pk_lt hlt] at hstop
          rcases hstop with h | h | h
          · omega
          · exact Or.inr (Or.inl ⟨hlt, h⟩)
          · exact Or.inr (Or.inr ⟨hlt, h⟩)
        · exact Or.inl hlt
      clear hstop
      rcases HST with h | ⟨hlt, h⟩ | ⟨hlt, h⟩
      case inl =>
        have hd : decide (k < s.size) = false := by simpa using h
        go_wp2_with fail
        refine (unhide HJ).mono ?_
        rintro x w3 ⟨A', cap', rfl, hsl', hb3, hk3⟩
        have hr3 := And.intro (HRS.out.call hb3) (HBW.out.trans (hb3.mono (Nat.le_of_lt hzw)))
        have HK3 := hid_mk (fun ds => rjoin_final (q := k) hr3.2 hzw hb3.size hsl' hk3 ds)
        clear hb3 hsl' hk3
        go_wp2_with (refine store_row 56 rfl _ _ rfl w.heap.size _ _ 56 hr3.1 rfl rfl (by kernel_rfl) rfl rfl ?_)
        refine ret_row rfl w.heap.size _ _ hr3.1.row rfl _ Tryd.underlying56 rfl ?_ rfl ?_
        · kernel_rfl
        · rw [HE.out]; exact HK3.out _
      all_goals
        have hy0 : ∃ y, s[k]'hlt = y := ⟨_, rfl⟩
        obtain ⟨y, hy0⟩ := hy0
        rw [hy0] at h
        have hyn : y.toNat < 256 := y.toNat_lt
        first
        | (have f1 : ((y.toNat : Int) != 124) = false := by rw [h]; rfl)
        | (have f1 : ((y.toNat : Int) != 124) = true := by rw [h]; rfl
           have f2 : ((y.toNat : Int) != 41) = false := by rw [h]; rfl)
        clear h
        go_wp2_with fail
        refine (unhide HJ).mono ?_
        rintro x w3 ⟨A', cap', rfl, hsl', hb3, hk3⟩
        have hr3 := And.intro (HRS.out.call hb3) (HBW.out.trans (hb3.mono (Nat.le_of_lt hzw)))
        have HK3 := hid_mk (fun ds => rjoin_final (q := k) hr3.2 hzw hb3.size hsl' hk3 ds)
        clear hb3 hsl' hk3
        go_wp2_with (refine store_row 56 rfl _ _ rfl w.heap.size _ _ 56 hr3.1 rfl rfl (by kernel_rfl) rfl rfl ?_)
        refine ret_row rfl w.heap.size _ _ hr3.1.row rfl _ Tryd.underlying56 rfl ?_ rfl ?_
        · kernel_rfl
        · rw [HE.out]; exact HK3.out _
    · have hlt : k < s.size := Decidable.byContradiction fun h => hstop (Or.inl (pk_ge (by omega)))
      have hpc := HFI.out k hk
      have hy0 : ∃ y, s[k]'hlt = y := ⟨_, rfl⟩
      obtain ⟨y, hy0⟩ := hy0
      have hst2 := hstop
      rw [pk_lt hlt, hy0] at hst2
      have f1 : ((y.toNat : Int) != 124) = true := by simp; omega
      have f2 : ((y.toNat : Int) != 41) = true := by simp; omega
      clear hst2
      cases hit : Rx.piece s.data.toList atm k with
      | out => rw [hit] at hpc; exact hpc.elim
      | bad e q =>
        have HE := hid_mk (HC.out.2 _ _ (he.trans (pieces_bad hstop hit)))
        have HPX := hide (unhide HPI k hk wr)
        rw [hit] at HPX
        clear hpt hbw hres he HR hit hpc HC hstop
        go_wp2_with fail
        refine (unhide HPX).mono ?_
        rintro x w3 ⟨hb3, hne, a, rfl⟩
        have hbox : Blk (w3.alloc (.cells #[.int .i64 0, .int .u64 0, .int .u64 0, .int .u64 0, .int .u64 0, .slice none 0 0, .int .i64 0, .int .i64 0, .int .u64 0, .int .u64 0, .int .u64 0, .int .u64 0, .bool false, .int .i64 (a), .int .i64 (e), .int .i64 ((q : Nat))] 56)) w3.heap.size #[.int .i64 0, .int .u64 0, .int .u64 0, .int .u64 0, .int .u64 0, .slice none 0 0, .int .i64 0, .int .i64 0, .int .u64 0, .int .u64 0, .int .u64 0, .int .u64 0, .bool false, .int .i64 (a), .int .i64 (e), .int .i64 ((q : Nat))] 56 := Blk.new _ _ _
        have hr3 := And.intro ((HRS.out.call hb3).alloc (.cells #[.int .i64 0, .int .u64 0, .int .u64 0, .int .u64 0, .int .u64 0, .slice none 0 0, .int .i64 0, .int .i64 0, .int .u64 0, .int .u64 0, .int .u64 0, .int .u64 0, .bool false, .int .i64 (a), .int .i64 (e), .int .i64 ((q : Nat))] 56)) ((HBW.out.trans (hb3.mono (Nat.le_of_lt hzw))).alloc (Nat.le_trans (Nat.le_of_lt hzw) hb3.size) (.cells #[.int .i64 0, .int .u64 0, .int .u64 0, .int .u64 0, .int .u64 0, .slice none 0 0, .int .i64 0, .int .i64 0, .int .u64 0, .int .u64 0, .int .u64 0, .int .u64 0, .bool false, .int .i64 (a), .int .i64 (e), .int .i64 ((q : Nat))] 56))
        have hne2 : (e != 0) = true := by simpa using hne
        clear hb3
        (go_wp2_with (first | (refine load_row 56 rfl _ rfl (w3.heap.size) _ 56 hbox rfl _ Tryd.underlying56 rfl (by kernel_rfl) ?_) | (refine store_row 56 rfl _ _ rfl w.heap.size _ _ 56 hr3.1 rfl rfl (by kernel_rfl) rfl rfl ?_)); refine ret_row rfl w.heap.size _ _ hr3.1.row rfl _ Tryd.underlying56 rfl ?_ rfl ?_; (kernel_rfl); (exact ⟨below_row hr3.2 (Nat.le_refl _) _, (by rw [HE.out]; exact ⟨hne, a, rfl⟩)⟩))
      | ok n q =>
        have HNX := hid_mk (he.trans (pieces_next hstop hit))
        have HPX := hide (unhide HPI k hk wr)
        have hsp := HSZ.out k n q (by simpa using hk) hit
        rw [hit] at HPX hpc
        have hkq : k < q ∧ q ≤ s.size := by have := hpc.1; have := hpc.2; simp at *; omega
        clear hpt hbw hres he HR hit hpc HC hstop
        go_wp2_with fail
        refine (unhide HPX).mono ?_
        rintro x w3 ⟨hb3, A, cap, rfl, hsl, hkk⟩
        have hz3 : wr.heap.size ≤ w3.heap.size := hb3.size
        obtain ⟨V, hV⟩ : ∃ V, V = (w3.alloc (.cells #[.int .i64 (n.kind), .int .u64 ((n.set).a.toNat : Int), .int .u64 ((n.set).b.toNat : Int), .int .u64 ((n.set).c.toNat : Int), .int .u64 ((n.set).d.toNat : Int), .slice (A) (n.kids.length) (cap), .int .i64 (n.min), .int .i64 (n.max), .int .u64 0, .int .u64 0, .int .u64 0, .int .u64 0, .bool false, .int .i64 ((q : Nat)), .int .i64 0, .int .i64 0] 56)).alloc (.cells #[.int .i64 (n.kind), .int .u64 ((n.set).a.toNat : Int), .int .u64 ((n.set).b.toNat : Int), .int .u64 ((n.set).c.toNat : Int), .int .u64 ((n.set).d.toNat : Int), .slice (A) (n.kids.length) (cap), .int .i64 (n.min), .int .i64 (n.max)] 28) := ⟨_, rfl⟩
        have hV3 : Below w3.heap.size w3 V := by rw [hV]; exact ((Below.refl w3.heap.size w3).alloc (Nat.le_refl _) _).alloc (by simp) _
        have hVz : V.heap.size = w3.heap.size + 2 := by rw [hV]; simp
        have hbox : Blk V w3.heap.size #[.int .i64 (n.kind), .int .u64 ((n.set).a.toNat : Int), .int .u64 ((n.set).b.toNat : Int), .int .u64 ((n.set).c.toNat : Int), .int .u64 ((n.set).d.toNat : Int), .slice (A) (n.kids.length) (cap), .int .i64 (n.min), .int .i64 (n.max), .int .u64 0, .int .u64 0, .int .u64 0, .int .u64 0, .bool false, .int .i64 ((q : Nat)), .int .i64 0, .int .i64 0] 56 := by rw [hV]; exact Blk.alloc (Blk.new _ _ _) _
        have hnb : Blk V (w3.heap.size + 1) #[.int .i64 (n.kind), .int .u64 ((n.set).a.toNat : Int), .int .u64 ((n.set).b.toNat : Int), .int .u64 ((n.set).c.toNat : Int), .int .u64 ((n.set).d.toNat : Int), .slice (A) (n.kids.length) (cap), .int .i64 (n.min), .int .i64 (n.max)] 28 := by rw [hV]; exact Blk.newAt (by simp)
        have hrv : Blk V w.heap.size #[.int .i64 0, .int .u64 0, .int .u64 0, .int .u64 0, .int .u64 0, .slice none 0 0, .int .i64 0, .int .i64 0, .int .u64 0, .int .u64 0, .int .u64 0, .int .u64 0, .bool false, .int .i64 (0), .int .i64 (0), .int .i64 (0)] 56 := (HRS.out.call hb3).call hV3
        have hbv : Below w.heap.size w V := (HBW.out.trans (hb3.mono (Nat.le_of_lt hzw))).trans (hV3.mono (by omega))
        have hpv : Parts w V u7 ns ds := (HPT.out.below hb3).below hV3
        have hkv : KidsAt (New wr V) V A n.kids := kids_new hkk hV3
        have hlen := Node.length_le_sizes ns
        have hk8 := n.size_pos
        have hown := hpv.own
        have HPV := hid_mk hpv
        have HLT := hid_mk (fun g hg => (HPT.out.own.lt g hg).2)
        have HLB := hid_mk (fun g hg => (HPT.out.own.lt g hg).1)
        have HKV := hid_mk hkv
        have HBX := hid_mk hbox
        have HRV := hid_mk hrv
        have HBV := hid_mk hbv
        have HNB := hid_mk (World.news_of_block hnb)
        have HVE := hid_mk hV
        clear hpv hb3 hkk hV3 hbox hnb hrv hbv hkv hV
        go_wp2_with (at_builtin; rw [← HVE.out]; refine wpList_append_own_at _ rfl _ _ 26 rfl (w.heap.size + 1) 28 i0 _ 8 80 Tryd.underlying26 hi0 hz0 hz1 hz2 rfl (by decide) _ _ ds rfl hown ⟨w3.heap.size + 1, 0, none⟩ 1 1 [.int .i64 (n.kind), .int .u64 ((n.set).a.toNat : Int), .int .u64 ((n.set).b.toNat : Int), .int .u64 ((n.set).c.toNat : Int), .int .u64 ((n.set).d.toNat : Int), .slice (A) (n.kids.length) (cap), .int .i64 (n.min), .int .i64 (n.max)] rfl rfl ?c1 ?c2 ?c3 ?c4 ?c5 ?_)
        case c1 => exact HNB.out
        case c2 => exact nodeAt_plain (nodeAt_of hsl HKV.out)
        case c3 => unfold maxLen; omega
        case c4 => omega
        case c5 => omega
        intro v' w4 hown4 hg hnil hat
        have hB4 : Below w.heap.size w w4 := HBV.out.grown hg (by omega) (fun g hg' => Nat.le_of_lt (Nat.lt_of_succ_le (HLB.out g hg')))
        have hR4 := blk_grown HRV.out hg (fun e => by have := HLB.out _ e; omega)
        have hX4 := blk_grown HBX.out hg (fun e => by have := HLT.out _ e; omega)
        have hP4 := Parts.push (wr := wr) HPV.out HLT.out hzw hsl HKV.out (by omega) hg (by rw [hVz]; exact hat) hown4
        have c13 : w4.cell? ⟨w3.heap.size, 13, none⟩ = some (.int .i64 ((q : Nat) : Int)) := hX4.cell 13
        have HX : Hid (RCatAt s i atm w R (.int .i64 (q : Nat)) v' w4) := hid_mk ⟨_, _, q, f', rfl, hP4, hB4, hR4, by omega, hkq.2, by omega, by rw [Node.sizes_append, Node.sizes_cons, Node.sizes_nil]; omega, HNX.out⟩
        clear hB4 hR4 hP4 hg hat hown4 hnil hX4
        go_wp2
        go_roundw
        case rel => exact HX.out
        case measure => simp [intOf]; omega
theorem only_row (g : Nat) (w : World) (ds : Array Value) : Only g w (w.setRow g ds) := ⟨rfl, rfl, rfl, by rw [setRow_size]; exact Nat.le_refl _, fun k _ hne => setRow_other w g ds hne⟩
theorem Below.onlyAny (g : Nat) {w w' : World} (h : Below w.heap.size w w') : Only g w w' := ⟨h.os, h.tape, h.output, h.size, fun k hk _ => h.block k hk⟩
/-- the parts collected so far, beside a box g -/
structure PartsX (g : Nat) (w wr : World) (v : Value) (ns : List Node) (ds : List Value) : Prop where
  nodes : NodesAt (fun b => Off w wr v b ∧ b ≠ g) wr ns ds
  own : wr.ownsRow (g + 1) 28 8 v ns.length ds
  base : w.heap.size < g
theorem PartsX.only {g : Nat} {w wr w' : World} {v : Value} {ns : List Node} {ds : List Value} (h : PartsX g w wr v ns ds) (ho : Only g wr w') : PartsX g w w' v ns ds :=
  ⟨nodesAt_keep (fun b hb => ho.block b hb.1.2.1 hb.2) (fun b hb => ⟨⟨hb.1.1, Nat.lt_of_lt_of_le hb.1.2.1 ho.size, hb.1.2.2⟩, hb.2⟩) h.nodes, own_only h.own ho (by omega), h.base⟩
theorem PartsX.push {g : Nat} {w wr w1 w2 : World} {v v' : Value} {ns : List Node} {ds : List Value} {n : Node} {A : Option Addr} {cap : Nat} (h : PartsX g w w1 v ns ds) (hlt : ∀ b, v.ownBlock = some b → b < wr.heap.size) (hw : g < wr.heap.size) (hs : SlOk A n.kids.length cap) (hk : KidsAt (New wr w1) w1 A n.kids)
    (hsz : wr.heap.size ≤ w1.heap.size) (hg : w1.grownBy w2 v.ownBlock) (hat : v'.ownBlock = v.ownBlock ∨ v'.ownBlock = some w1.heap.size) (hown : w2.ownsRow (g + 1) 28 8 v' (ns.length + 1) (ds ++ [.int .i64 (n.kind), .int .u64 ((n.set).a.toNat : Int), .int .u64 ((n.set).b.toNat : Int), .int .u64 ((n.set).c.toNat : Int), .int .u64 ((n.set).d.toNat : Int), .slice (A) (n.kids.length) (cap), .int .i64 (n.min), .int .i64 (n.max)])) :
    PartsX g w w2 v' (ns ++ [n]) (ds ++ [.int .i64 (n.kind), .int .u64 ((n.set).a.toNat : Int), .int .u64 ((n.set).b.toNat : Int), .int .u64 ((n.set).c.toNat : Int), .int .u64 ((n.set).d.toNat : Int), .slice (A) (n.kids.length) (cap), .int .i64 (n.min), .int .i64 (n.max)]) := by
  have hb0 := h.base
  have k1 : Keeps (fun b => Off w w1 v b ∧ b ≠ g) w1 w2 := fun b hb => hg.block b hb.1.2.1 (fun e => hb.1.2.2 e.symm)
  have k2 : Keeps (New wr w1) w1 w2 := fun b hb => hg.block b hb.2 (fun e => by have := hlt b e.symm; have := hb.1; omega)
  refine ⟨nodesAt_append (nodesAt_keep k1 (fun b hb => ?_) h.nodes) (nodesAt_one (nodeAt_of hs (kidsAt_keep k2 (fun b hb => ?_) hk))), by rw [List.length_append, List.length_singleton]; exact hown, hb0⟩
  · refine ⟨⟨hb.1.1, Nat.lt_of_lt_of_le hb.1.2.1 hg.size, ?_⟩, hb.2⟩
    rcases hat with e | e <;> rw [e]
    · exact hb.1.2.2
    · intro e; injection e with e; have := hb.1.2.1; omega
  · refine ⟨⟨by have := hb.1; omega, Nat.lt_of_lt_of_le hb.2 hg.size, ?_⟩, by have := hb.1; omega⟩
    rcases hat with e | e <;> rw [e]
    · intro e; have := hlt b e; have := hb.1; omega
    · intro e; injection e with e; have := hb.2; omega
theorem PartsX.slice {g : Nat} {w wr : World} {v : Value} {ns : List Node} {ds : List Value} (h : PartsX g w wr v ns ds) :
    ∃ (A : Option Addr) (cap : Nat), v = .slice A ns.length cap ∧ SlOk A ns.length cap ∧ KidsAt (fun b => w.heap.size < b ∧ b < wr.heap.size) wr A ns := by
  have hn : NodesAt (fun b => w.heap.size < b ∧ b < wr.heap.size) wr ns ds := nodesAt_keep (fun b hb => rfl) (fun b hb => ⟨hb.1.1, hb.1.2.1⟩) h.nodes
  have hb0 := h.base
  rcases h.own.2 with ⟨hv, h0⟩ | ⟨b, cap, cur, hv, hbg, hgl, hnc, hcm, hcs, hct⟩
  · refine ⟨none, 0, by rw [hv, h0], ⟨by omega, fun _ => rfl⟩, fun hp => absurd hp (by omega)⟩
  · have hlt := (h.own.lt b (by rw [hv]; rfl)).2
    refine ⟨_, cap, hv, ⟨hnc, fun e => by cases e⟩, fun _ => ⟨b, 0, rfl, ⟨by omega, hlt⟩, ds, hn, fun j u hj => ?_⟩⟩
    have := h.own.cells (g := b) (by rw [hv]; rfl) j u hj
    rwa [add_off] at this
theorem PartsX.first {w w1 : World} {n : Node} {A : Option Addr} {cap : Nat} {T : Array Value} {t : Nat} (h0 : w.heap.size < w1.heap.size) (hs : SlOk A n.kids.length cap) (hk : KidsAt (New (zpW w) w1) w1 A n.kids) :
    PartsX w1.heap.size w ((w1.alloc (.cells T t)).alloc (.cells #[.int .i64 (n.kind), .int .u64 ((n.set).a.toNat : Int), .int .u64 ((n.set).b.toNat : Int), .int .u64 ((n.set).c.toNat : Int), .int .u64 ((n.set).d.toNat : Int), .slice (A) (n.kids.length) (cap), .int .i64 (n.min), .int .i64 (n.max)] 28)) (.slice (some ⟨(w1.alloc (.cells T t)).heap.size, 0, none⟩) 1 1) [n] [.int .i64 (n.kind), .int .u64 ((n.set).a.toNat : Int), .int .u64 ((n.set).b.toNat : Int), .int .u64 ((n.set).c.toNat : Int), .int .u64 ((n.set).d.toNat : Int), .slice (A) (n.kids.length) (cap), .int .i64 (n.min), .int .i64 (n.max)] := by
  have k1 : Keeps (New (zpW w) w1) w1 ((w1.alloc (.cells T t)).alloc (.cells #[.int .i64 (n.kind), .int .u64 ((n.set).a.toNat : Int), .int .u64 ((n.set).b.toNat : Int), .int .u64 ((n.set).c.toNat : Int), .int .u64 ((n.set).d.toNat : Int), .slice (A) (n.kids.length) (cap), .int .i64 (n.min), .int .i64 (n.max)] 28)) := fun b hb => (((Below.refl w1.heap.size w1).alloc (Nat.le_refl _) _).alloc (by simp) _).block b hb.2
  refine ⟨nodesAt_one (nodeAt_of hs (kidsAt_keep k1 (fun b hb => ?_) hk)), World.ownsRow_lit (w1.alloc (.cells T t)) #[.int .i64 (n.kind), .int .u64 ((n.set).a.toNat : Int), .int .u64 ((n.set).b.toNat : Int), .int .u64 ((n.set).c.toNat : Int), .int .u64 ((n.set).d.toNat : Int), .slice (A) (n.kids.length) (cap), .int .i64 (n.min), .int .i64 (n.max)] 1 (by simp) (by unfold maxLen; omega) rfl, h0⟩
  have h1 := hb.1
  have h2 := hb.2
  simp [zpW] at h1
  refine ⟨⟨by omega, by simp; omega, fun e => ?_⟩, by omega⟩
  injection e with e
  simp at e
  omega
def posP (g : Nat) (w : World) : Nat := match w.cell? ⟨g, 13, none⟩ with | some (.int _ n) => n.toNat | _ => 0
theorem posP_eq {g k : Nat} {w : World} {cs : Array Value} {t : Nat} (h : Blk w g cs t) (hc : cs[13]? = some (.int .i64 (k : Nat))) : posP g w = k := by
  unfold posP
  rw [h.cell 13, hc]
  simp
/-- at a round's head -/
def RAltAt (s : ByteArray) (i g : Nat) (atm : Nat → Res Node) (w : World) (R : Res (List Node)) (v : Value) (wr : World) : Prop :=
  ∃ (ns : List Node) (ds : List Value) (k f : Nat) (cs : Array Value), PartsX g w wr v ns ds ∧ Below w.heap.size w wr ∧ Blk wr w.heap.size #[.int .i64 0, .int .u64 0, .int .u64 0, .int .u64 0, .int .u64 0, .slice none 0 0, .int .i64 0, .int .i64 0, .int .u64 0, .int .u64 0, .int .u64 0, .int .u64 0, .bool false, .int .i64 (0), .int .i64 (0), .int .i64 (0)] 56 ∧ Blk wr g cs 56 ∧ cs.size = 16 ∧ cs[13]? = some (.int .i64 (k : Nat)) ∧ i ≤ k ∧ k ≤ s.size ∧ s.size < k + f ∧ Node.sizes ns ≤ 2 * (k - i) + 1 ∧ R = Rx.cats s.data.toList atm f ns k ∧ 1 ≤ ns.length ∧ (Rx.pk s.data.toList k = 124 ∨ 2 ≤ ns.length)
theorem RAltAt.mk' {s : ByteArray} {i g k f : Nat} {atm : Nat → Res Node} {w : World} {R : Res (List Node)} {v : Value} {wr : World} {ns : List Node} {ds : List Value} {cs : Array Value} (h1 : PartsX g w wr v ns ds) (h2 : Below w.heap.size w wr) (h3 : Blk wr w.heap.size #[.int .i64 0, .int .u64 0, .int .u64 0, .int .u64 0, .int .u64 0, .slice none 0 0, .int .i64 0, .int .i64 0, .int .u64 0, .int .u64 0, .int .u64 0, .int .u64 0, .bool false, .int .i64 (0), .int .i64 (0), .int .i64 (0)] 56) (h4 : Blk wr g cs 56) (h5 : cs.size = 16) (h6 : cs[13]? = some (.int .i64 (k : Nat))) (h7 : i ≤ k) (h8 : k ≤ s.size) (h9 : s.size < k + f) (h10 : Node.sizes ns ≤ 2 * (k - i) + 1) (h11 : R = Rx.cats s.data.toList atm f ns k) (h12 : 1 ≤ ns.length) (h13 : Rx.pk s.data.toList k = 124 ∨ 2 ≤ ns.length) : RAltAt s i g atm w R v wr :=
  ⟨ns, ds, k, f, cs, h1, h2, h3, h4, h5, h6, h7, h8, h9, h10, h11, h12, h13⟩
def RCatOk (s : ByteArray) (op : Int) (atm : Nat → Res Node) : Prop := ∀ (k : Nat), k ≤ s.size → ∀ w : World, Calls Tryd.prog 41 #[.string s, .int .i64 k, .int .i64 op] w (RetPN (Rx.cat s.data.toList atm k) w)
theorem ralt_bad (s : ByteArray) (op : Int) (atm : Nat → Res Node) (HA : RCatOk s op atm) (i : Nat) (w : World) (hs : s.size ≤ 1000) (hi : i ≤ s.size) (e : Int) (q : Nat) (hit : Rx.cat s.data.toList atm i = .bad e q) :
    Calls Tryd.prog 29 #[.string s, .int .i64 i, .int .i64 op] w (RetPN (Rx.alt s.data.toList atm i) w) := by
  have HE : Hid (Rx.alt s.data.toList atm i = .bad e q) := hid_mk (by unfold Rx.alt; rw [hit])
  have HX := hide (fun w => HA i hi w)
  rw [hit] at HX
  rw [HE.out]
  clear HA hit HE
  go_enter Tryd.func29, Tryd.ntmps29
  go_wp2_with fail
  refine (unhide HX _).mono ?_
  rintro x w1 ⟨hb1, hne, a, rfl⟩
  have hbx := res_box (T := #[.int .i64 0, .int .u64 0, .int .u64 0, .int .u64 0, .int .u64 0, .slice none 0 0, .int .i64 0, .int .i64 0, .int .u64 0, .int .u64 0, .int .u64 0, .int .u64 0, .bool false, .int .i64 (a), .int .i64 (e), .int .i64 ((q : Nat))]) (t := 56) hb1
  have hne2 : (e != 0) = true := by simpa using hne
  clear hb1
  (go_wp2_with (first | (refine load_row 56 rfl _ rfl (w1.heap.size) _ 56 hbx.2.1 rfl _ Tryd.underlying56 rfl (by kernel_rfl) ?_) | (refine store_row 56 rfl _ _ rfl w.heap.size _ _ 56 hbx.1.1 rfl rfl (by kernel_rfl) rfl rfl ?_)); refine ret_row rfl w.heap.size _ _ hbx.1.1.row rfl _ Tryd.underlying56 rfl ?_ rfl ?_; (kernel_rfl); (exact ⟨below_row hbx.1.2 (Nat.le_refl _) _, ⟨hne, a, rfl⟩⟩))
theorem ralt_one (s : ByteArray) (op : Int) (atm : Nat → Res Node) (HA : RCatOk s op atm) (i : Nat) (w : World) (hs : s.size ≤ 1000) (hi : i ≤ s.size) (n : Node) (p : Nat) (hit : Rx.cat s.data.toList atm i = .ok n p) (hp : p ≤ s.size) (hb : ¬ Rx.pk s.data.toList p = 124) :
    Calls Tryd.prog 29 #[.string s, .int .i64 i, .int .i64 op] w (RetPN (.ok n p) w) := by
  have HX := hide (fun w => HA i hi w)
  have HIS := hide (fun w => ris_any s p 124 w hs (by omega) (by decide))
  rw [decide_eq_false (show ¬ Rx.pk s.data.toList p = ((124 : Nat) : Int) from hb)] at HIS
  rw [hit] at HX
  clear HA hit hb
  go_enter Tryd.func29, Tryd.ntmps29
  go_wp2_with fail
  refine (unhide HX _).mono ?_
  rintro x w1 ⟨hb1, A, cap, rfl, hsl, hk⟩
  have hbx := res_box (T := #[.int .i64 (n.kind), .int .u64 ((n.set).a.toNat : Int), .int .u64 ((n.set).b.toNat : Int), .int .u64 ((n.set).c.toNat : Int), .int .u64 ((n.set).d.toNat : Int), .slice (A) (n.kids.length) (cap), .int .i64 (n.min), .int .i64 (n.max), .int .u64 0, .int .u64 0, .int .u64 0, .int .u64 0, .bool false, .int .i64 ((p : Nat)), .int .i64 0, .int .i64 0]) (t := 56) hb1
  have HK := hid_mk (fun ds => kids_box (T := #[.int .i64 (n.kind), .int .u64 ((n.set).a.toNat : Int), .int .u64 ((n.set).b.toNat : Int), .int .u64 ((n.set).c.toNat : Int), .int .u64 ((n.set).d.toNat : Int), .slice (A) (n.kids.length) (cap), .int .i64 (n.min), .int .i64 (n.max), .int .u64 0, .int .u64 0, .int .u64 0, .int .u64 0, .bool false, .int .i64 ((p : Nat)), .int .i64 0, .int .i64 0]) (tt := 56) hbx.2.2 hk ds)
  clear hb1 hk
  go_wp2_with fail
  refine (unhide HIS _).mono ?_
  rintro x w2 ⟨rfl, rfl⟩
  (go_wp2_with (first | (refine load_row 56 rfl _ rfl (w1.heap.size) _ 56 hbx.2.1 rfl _ Tryd.underlying56 rfl (by kernel_rfl) ?_) | (refine store_row 56 rfl _ _ rfl w.heap.size _ _ 56 hbx.1.1 rfl rfl (by kernel_rfl) rfl rfl ?_)); refine ret_row rfl w.heap.size _ _ hbx.1.1.row rfl _ Tryd.underlying56 rfl ?_ rfl ?_; (kernel_rfl); (exact ⟨below_row hbx.1.2 (Nat.le_refl _) _, ⟨A, cap, rfl, hsl, HK.out _⟩⟩))
end Go.Proofs.YthgcefppeaopkaaDoor
