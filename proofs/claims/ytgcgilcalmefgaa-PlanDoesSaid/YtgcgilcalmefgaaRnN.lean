/- A state in memory of the call's own: each row apart from the others; what a store, an insert, other keys leave. -/
import Derived.Test.YtgcgilcalmefgaaRnD
import Derived.Test.YtgcgilcalmefgaaRnBs
import Derived.Test.YtgcgilcalmefgaaRnH
namespace Go.Proofs.Ytgcgilcalmefgaa
open Go Go.RowKit Go.Sort
set_option maxRecDepth 100000
set_option linter.unusedSimpArgs false
set_option linter.unusedVariables false
set_option maxHeartbeats 1000000
section
variable {α : Type} {n : Nat} {row : α → List Value}
theorem flat_len (hrow : ∀ x, (row x).length = n) (l : List α) : (l.flatMap row).length = l.length * n := by
  induction l with
  | nil => simp
  | cons a r ih => rw [List.flatMap_cons, List.length_append, ih, hrow, List.length_cons, Nat.succ_mul]; omega
theorem flat_take (hrow : ∀ x, (row x).length = n) : ∀ (l : List α) (i : Nat), (l.flatMap row).take (i * n) = (l.take i).flatMap row
  | [], i => by simp
  | a :: r, 0 => by simp
  | a :: r, i + 1 => by
    rw [List.flatMap_cons, List.take_succ_cons, List.flatMap_cons, ← flat_take hrow r i, Nat.succ_mul, List.take_append, hrow, List.take_of_length_le (by rw [hrow]; omega)]
    congr 2; omega
theorem flat_drop (hrow : ∀ x, (row x).length = n) : ∀ (l : List α) (i : Nat), (l.flatMap row).drop (i * n) = (l.drop i).flatMap row
  | [], i => by simp
  | a :: r, 0 => by simp
  | a :: r, i + 1 => by
    rw [List.flatMap_cons, List.drop_succ_cons, ← flat_drop hrow r i, Nat.succ_mul, List.drop_append, hrow, List.drop_eq_nil_of_le (by rw [hrow]; omega), List.nil_append]
    congr 1; omega
theorem flat_ins (hrow : ∀ x, (row x).length = n) (l : List α) (i : Nat) (x : α) : (l.flatMap row).take (i * n) ++ row x ++ (l.flatMap row).drop (i * n) = (Rn.ins l i x).flatMap row := by
  rw [flat_take hrow, flat_drop hrow]
  unfold Rn.ins
  simp
theorem flat_del (hrow : ∀ x, (row x).length = n) (l : List α) (i : Nat) : (l.flatMap row).take (i * n) ++ (l.flatMap row).drop ((i + 1) * n) = (Rn.del l i).flatMap row := by
  rw [flat_take hrow, flat_drop hrow]
  unfold Rn.del
  simp
theorem flat_set (hrow : ∀ x, (row x).length = n) {l : List α} {i : Nat} (hi : i < l.length) {r : Nat} (hr : r < n) {v : Value} {x : α} (hx : (row l[i]).set r v = row x) : (l.flatMap row).set (i * n + r) v = (l.set i x).flatMap row := by
  have e : l = l.take i ++ l[i] :: l.drop (i + 1) := by rw [List.getElem_cons_drop, List.take_append_drop]
  have hlen : (l.take i).length = i := by rw [List.length_take]; omega
  have e2 : l.set i x = l.take i ++ x :: l.drop (i + 1) := by rw [List.set_eq_take_append_cons_drop, if_pos hi]
  rw [e2]
  conv => lhs; rw [e]
  rw [List.flatMap_append, List.flatMap_append, List.flatMap_cons, List.flatMap_cons, ← hx, List.set_append_right _ _ (by rw [flat_len hrow, hlen]; omega), flat_len hrow, hlen,
    show i * n + r - i * n = r by omega, List.set_append_left _ _ (by rw [hrow]; exact hr)]
end
def rowT (p : Rn.T × Value) : List Value := [.string p.1.name, .int .i64 p.1.epoch, .int .i64 p.1.next, p.2]
def OwnT (base : Nat) (w : World) (p : Rn.T × Value) : Prop :=
  w.ownsRow base 44 2 p.2 p.1.keys.length (p.1.keys.flatMap keyV) ∧ p.1.name.size ≤ maxLen ∧ ∀ k ∈ p.1.keys, k.txt.size ≤ maxLen
/-- no two of these blocks are one -/
def Apart (l : List (Option Nat)) : Prop := l.Pairwise (fun a b => a = none ∨ a ≠ b)
/-- a state in memory of one's own, its box at ob -/
def StI (ob base : Nat) (w : World) (s : Rn.S) (ps : List (Rn.T × Value)) (u : Value) : Prop :=
  ps.map Prod.fst = s.tens ∧ Blk w ob #[u, .int .i64 s.serial] 24 ∧ w.ownsRow base 38 4 u ps.length (ps.flatMap rowT) ∧ (∀ p ∈ ps, OwnT base w p) ∧
    Apart (some ob :: u.ownBlock :: ps.map (fun p => p.2.ownBlock)) ∧ base ≤ ob
theorem keyV_len (k : Rn.K) : (keyV k).length = 2 := rfl
theorem rowT_len (p : Rn.T × Value) : (rowT p).length = 4 := rfl
theorem ownT_below {base : Nat} {w w' : World} {p : Rn.T × Value} (h : OwnT base w p) (hb : Below w.heap.size w w') : OwnT base w' p := ⟨own_below h.1 hb (Nat.le_refl _), h.2⟩
theorem stI_keep {ob base : Nat} {w w' : World} {s : Rn.S} {ps : List (Rn.T × Value)} {u : Value} (h : StI ob base w s ps u) (hb : Below w.heap.size w w') : StI ob base w' s ps u :=
  ⟨h.1, h.2.1.call hb, own_below h.2.2.1 hb (Nat.le_refl _), fun p hp => ownT_below (h.2.2.2.1 p hp) hb, h.2.2.2.2⟩
theorem ownT_keys {base : Nat} {w : World} {p : Rn.T × Value} (h : OwnT base w p) : ∃ A c, p.2 = .slice A p.1.keys.length c ∧ Fits A p.1.keys.length c ∧ KeysAt (fun b => base ≤ b ∧ b < w.heap.size) w A p.1.keys := by
  obtain ⟨h1, h2, h3⟩ := h
  obtain ⟨A, c, e, hf, hr⟩ := rows_own (n := 2) (R := keyR) (row := keyV) (fun _ _ => rfl) (fun k hk => ⟨rfl, h3 k hk⟩) h1
  exact ⟨A, c, e, hf, hr⟩
theorem own_max {w : World} {base n len : Nat} {e : TypeId} {v : Value} {xs : List Value} (h : w.ownsRow base e n v len xs) : len ≤ maxLen := by
  rcases h.2 with ⟨_, h0⟩ | ⟨g, cap, cur, _, _, _, h1, h2, _⟩
  · rw [h0]; exact Nat.zero_le _
  · exact Nat.le_trans h1 h2
theorem stI_tens {ob base : Nat} {w : World} {s : Rn.S} {ps : List (Rn.T × Value)} {u : Value} (h : StI ob base w s ps u) : ∃ A c, u = .slice A s.tens.length c ∧ Fits A s.tens.length c ∧ TensAt (fun b => base ≤ b ∧ b < w.heap.size) w A s.tens := by
  obtain ⟨h1, h2, h3, h4, h5, h6⟩ := h
  have hR : ∀ p ∈ ps, tenR (fun b => base ≤ b ∧ b < w.heap.size) w (Prod.fst p) (rowT p) := fun p hp => by
    obtain ⟨A, c, e, hf, hk⟩ := ownT_keys (h4 p hp)
    exact ⟨A, c, by unfold rowT; rw [e], hf, own_max (h4 p hp).1, (h4 p hp).2.1, hk⟩
  obtain ⟨A, c, e, hf, hr⟩ := rows_own (n := 4) (R := fun (p : Rn.T × Value) cs => tenR (fun b => base ≤ b ∧ b < w.heap.size) w p.1 cs) (row := rowT) (fun _ _ => rfl) hR h3
  have hr2 := rows_map (R := tenR (fun b => base ≤ b ∧ b < w.heap.size) w) Prod.fst hr
  have hl : ps.length = s.tens.length := by rw [← h1, List.length_map]
  rw [hl] at e hf
  rw [h1] at hr2
  exact ⟨A, c, e, hf, hr2⟩
theorem stI_len {ob base : Nat} {w : World} {s : Rn.S} {ps : List (Rn.T × Value)} {u : Value} (h : StI ob base w s ps u) : ps.length = s.tens.length := by rw [← h.1, List.length_map]
/-- the place of the tenants' row, where there is one -/
theorem stI_row {ob base : Nat} {w : World} {s : Rn.S} {ps : List (Rn.T × Value)} {u : Value} (h : StI ob base w s ps u) (hn : 0 < ps.length) : ∃ g c, u = .slice (some ⟨g, 0, none⟩) ps.length c ∧ base ≤ g ∧ g < w.heap.size ∧ g ≠ ob := by
  obtain ⟨h1, h2, h3, h4, h5, h6⟩ := h
  have hlt := h3.lt
  rcases h3.2 with ⟨_, h0⟩ | ⟨g, cap, cur, rfl, hbg, hg, _⟩
  · omega
  · refine ⟨g, cap, rfl, hbg, (hlt g rfl).2, fun e => ?_⟩
    have := (List.pairwise_cons.1 h5).1 _ (List.mem_cons_self ..)
    rcases this with h | h
    · cases h
    · exact h (by rw [← e]; rfl)
theorem stI_apart {ob base : Nat} {w : World} {s : Rn.S} {ps : List (Rn.T × Value)} {u : Value} (h : StI ob base w s ps u) {p : Rn.T × Value} (hp : p ∈ ps) : p.2.ownBlock ≠ some ob ∧ (u.ownBlock = none ∨ u.ownBlock ≠ p.2.ownBlock) := by
  obtain ⟨h1, h2, h3, h4, h5, h6⟩ := h
  have ha := List.pairwise_cons.1 h5
  have hb := List.pairwise_cons.1 ha.2
  refine ⟨fun e => ?_, hb.1 _ (List.mem_map.2 ⟨p, hp, rfl⟩)⟩
  rcases ha.1 _ (List.mem_cons_of_mem _ (List.mem_map.2 ⟨p, hp, rfl⟩)) with h | h
  · cases h
  · exact h e.symm
theorem ownT_kept {base : Nat} {w w' : World} {row : Option Nat} {p : Rn.T × Value} (h : OwnT base w p) (hg : w.grownBy w' row) (hne : p.2.ownBlock = none ∨ p.2.ownBlock ≠ row) : OwnT base w' p := ⟨h.1.kept hg hne, h.2⟩
theorem blk_grown {w w' : World} {row : Option Nat} {g : Nat} {cs : Array Value} {t : TypeId} (h : Blk w g cs t) (hg : w.grownBy w' row) (hne : some g ≠ row) : Blk w' g cs t := (hg.block g h.lt hne).trans h
theorem map_set_same {α β : Type} (f : α → β) {l : List α} {i : Nat} {x : α} (hi : i < l.length) (h : f x = f l[i]) : (l.set i x).map f = l.map f := by
  rw [List.map_set, h]
  have h2 : f l[i] = (l.map f)[i]'(by simpa using hi) := by simp
  rw [h2, List.set_getElem_self]
/-- a number of a tenant is stored -/
theorem stI_num {ob base : Nat} {w : World} {s : Rn.S} {ps : List (Rn.T × Value)} {g c : Nat} (h : StI ob base w s ps (.slice (some ⟨g, 0, none⟩) ps.length c)) {i : Nat} (hi : i < ps.length) {r : Nat} {v : Value} {t : Rn.T} (hr : r < 4)
    (hx : (rowT ps[i]).set r v = rowT (t, ps[i].2)) (hk : t.keys = ps[i].1.keys) (hn : t.name.size ≤ maxLen) :
    StI ob base (w.setCell ⟨g, i * 4 + r, none⟩ v) ⟨s.tens.set i t, s.serial⟩ (ps.set i (t, ps[i].2)) (.slice (some ⟨g, 0, none⟩) ps.length c) ∧ Below base w (w.setCell ⟨g, i * 4 + r, none⟩ v) := by
  have hro := stI_row h (by omega)
  obtain ⟨g', c', e, hbg, hgw, hgo⟩ := hro
  obtain ⟨rfl, rfl⟩ : g = g' ∧ c = c' := by simpa using e
  have hap := fun p hp => stI_apart h (p := p) hp
  obtain ⟨h1, h2, h3, h4, h5, h6⟩ := h
  obtain ⟨s1, s2⟩ := h3.stored (i * 4 + r) v
  have hne : ∀ p ∈ ps, p.2.ownBlock = none ∨ p.2.ownBlock ≠ some g := fun p hp => Or.inr (fun e => by
    rcases (hap p hp).2 with h | h
    · cases h
    · exact h e.symm)
  refine ⟨⟨?_, blk_grown h2 s2 (fun e => hgo (by injection e with e; exact e.symm)), ?_, fun p hp => ?_, ?_, h6⟩, (Below.refl _ _).setCell hbg _⟩
  · rw [List.map_set, h1]
  · rw [flat_set rowT_len hi hr hx] at s1
    rw [List.length_set]
    exact s1
  · rcases List.mem_or_eq_of_mem_set hp with hp | rfl
    · exact ownT_kept (h4 p hp) s2 (hne p hp)
    · have := ownT_kept (h4 _ (List.getElem_mem hi)) s2 (hne _ (List.getElem_mem hi))
      unfold OwnT at this ⊢
      dsimp only
      rw [hk]
      exact ⟨this.1, hn, this.2.2⟩
  · rw [map_set_same (fun p : Rn.T × Value => p.2.ownBlock) (x := (t, ps[i].2)) hi rfl]
    exact h5
/-- the serial is stored -/
theorem stI_serial {ob base : Nat} {w : World} {s : Rn.S} {ps : List (Rn.T × Value)} {u : Value} (h : StI ob base w s ps u) (n : Int) : StI ob base (w.setCell ⟨ob, 1, none⟩ (.int .i64 n)) ⟨s.tens, n⟩ ps u ∧ Below base w (w.setCell ⟨ob, 1, none⟩ (.int .i64 n)) := by
  have hap := fun p hp => stI_apart h (p := p) hp
  have h' := h
  obtain ⟨h1, h2, h3, h4, h5, h6⟩ := h
  have hu : u.ownBlock = none ∨ u.ownBlock ≠ some ob := Or.inr (fun e => by
    rcases (List.pairwise_cons.1 h5).1 _ (List.mem_cons_self ..) with h | h
    · cases h
    · exact h e.symm)
  have hg := grown_setCell w ob 1 (.int .i64 n)
  exact ⟨⟨h1, (h2.put 1 (.int .i64 n)).is (by simp), h3.kept hg hu, fun p hp => ownT_kept (h4 p hp) hg (Or.inr (hap p hp).1), h5, h6⟩, (Below.refl _ _).setCell h6 _⟩
/-- one more tenant, of no keys -/
theorem stI_ins {ob base : Nat} {w w1 : World} {s : Rn.S} {ps : List (Rn.T × Value)} {u u' : Value} (h : StI ob base w s ps u) {i : Nat} (hi : i ≤ ps.length) {t : Rn.T} (hk : t.keys = []) (hn : t.name.size ≤ maxLen) (hbw : base ≤ w.heap.size)
    (hown : w1.ownsRow base 38 4 u' (ps.length + 1) ((ps.flatMap rowT).take (i * 4) ++ rowT (t, .slice none 0 0) ++ (ps.flatMap rowT).drop (i * 4))) (hg : w.grownBy w1 u.ownBlock) (hat : u'.ownBlock = u.ownBlock ∨ u'.ownBlock = some w.heap.size) :
    StI ob base (w1.setCell ⟨ob, 0, none⟩ u') ⟨Rn.ins s.tens i t, s.serial⟩ (Rn.ins ps i (t, .slice none 0 0)) u' ∧ Below base w (w1.setCell ⟨ob, 0, none⟩ u') := by
  have hap := fun p hp => stI_apart h (p := p) hp
  obtain ⟨h1, h2, h3, h4, h5, h6⟩ := h
  have ha := List.pairwise_cons.1 h5
  have hu : u.ownBlock ≠ some ob := fun e => by
    rcases ha.1 _ (List.mem_cons_self ..) with h | h
    · cases h
    · exact h e.symm
  have hu' : u'.ownBlock ≠ some ob := by
    rcases hat with e | e <;> rw [e]
    · exact hu
    · have := h2.lt; intro e; injection e; omega
  have hg2 := grown_setCell w1 ob 0 u'
  have hpu : ∀ p ∈ ps, p.2.ownBlock = none ∨ p.2.ownBlock ≠ u.ownBlock := fun p hp => by
    rcases (hap p hp).2 with h | h
    · cases e : p.2.ownBlock with
      | none => exact Or.inl rfl
      | some b => rw [h]; exact Or.inr (by simp)
    · exact Or.inr (fun e => h e.symm)
  have hlt : ∀ p ∈ ps, ∀ b, p.2.ownBlock = some b → b < w.heap.size := fun p hp b hb => ((h4 p hp).1.lt b hb).2
  have h2b := (blk_grown h2 hg (fun e => hu e.symm)).put 0 u'
  refine ⟨⟨?_, h2b.is (by simp), ?_, fun p hp => ?_, ?_, h6⟩, ?_⟩
  · unfold Rn.ins
    rw [List.map_append, List.map_cons, List.map_take, List.map_drop, h1]
  · rw [flat_ins rowT_len] at hown
    rw [Rn.ins_length hi]
    exact hown.kept hg2 (Or.inr hu')
  · rcases Rn.mem_ins.1 hp with rfl | hp
    · unfold OwnT
      dsimp only
      rw [hk]
      exact ⟨World.ownsRow_nil _ _ _ _, hn, fun k hk => by cases hk⟩
    · exact ownT_kept (ownT_kept (h4 p hp) hg (hpu p hp)) hg2 (Or.inr (hap p hp).1)
  · unfold Apart
    rw [List.pairwise_cons, List.pairwise_cons]
    have hb := List.pairwise_cons.1 ha.2
    refine ⟨fun b hb => Or.inr (fun e => ?_), fun b hb => ?_, ?_⟩
    · subst e
      rcases List.mem_cons.1 hb with e | hm
      · exact hu' e.symm
      · obtain ⟨p, hp, e⟩ := List.mem_map.1 hm
        rcases Rn.mem_ins.1 hp with rfl | hp
        · cases e
        · exact (hap p hp).1 e
    · obtain ⟨p, hp, rfl⟩ := List.mem_map.1 hb
      rcases Rn.mem_ins.1 hp with rfl | hp
      · cases e : u'.ownBlock with
        | none => exact Or.inl rfl
        | some b => exact Or.inr (by simp [Value.ownBlock])
      · rcases hat with e | e
        · rw [e]; exact (hap p hp).2
        · rw [e]
          refine Or.inr (fun e2 => ?_)
          have := hlt p hp _ e2.symm
          omega
    · unfold Rn.ins
      rw [List.map_append, List.map_cons, List.pairwise_append, List.pairwise_cons]
      have hq := hb.2
      rw [← List.take_append_drop i ps, List.map_append, List.pairwise_append] at hq
      refine ⟨hq.1, ⟨fun b _ => Or.inl rfl, hq.2.1⟩, fun a ha b hb => ?_⟩
      rcases List.mem_cons.1 hb with rfl | hb
      · cases a with
        | none => exact Or.inl rfl
        | some x => exact Or.inr (by simp [Value.ownBlock])
      · exact hq.2.2 a ha b hb
  · exact ((Below.refl base w).grown hg hbw (fun k e => (h3.lt k e).1)).setCell h6 _
/-- other keys of a tenant -/
theorem stI_keys {ob base : Nat} {w w1 : World} {s : Rn.S} {ps : List (Rn.T × Value)} {g c : Nat} (h : StI ob base w s ps (.slice (some ⟨g, 0, none⟩) ps.length c)) {i : Nat} (hi : i < ps.length) {t : Rn.T} {kv : Value} (hbw : base ≤ w.heap.size)
    (h0 : t.name = ps[i].1.name) (h00 : t.epoch = ps[i].1.epoch) (h000 : t.next = ps[i].1.next) (htx : ∀ k ∈ t.keys, k.txt.size ≤ maxLen)
    (hown : w1.ownsRow base 44 2 kv t.keys.length (t.keys.flatMap keyV)) (hg : w.grownBy w1 ps[i].2.ownBlock) (hat : kv.ownBlock = ps[i].2.ownBlock ∨ kv.ownBlock = some w.heap.size) :
    StI ob base (w1.setCell ⟨g, i * 4 + 3, none⟩ kv) ⟨s.tens.set i t, s.serial⟩ (ps.set i (t, kv)) (.slice (some ⟨g, 0, none⟩) ps.length c) ∧ Below base w (w1.setCell ⟨g, i * 4 + 3, none⟩ kv) := by
  have hro := stI_row h (by omega)
  obtain ⟨g', c', e, hbg, hgw, hgo⟩ := hro
  obtain ⟨rfl, rfl⟩ : g = g' ∧ c = c' := by simpa using e
  have hap := fun p hp => stI_apart h (p := p) hp
  obtain ⟨h1, h2, h3, h4, h5, h6⟩ := h
  have hm := List.getElem_mem hi
  have hgi : some g ≠ ps[i].2.ownBlock := fun e => by
    rcases (hap _ hm).2 with h | h
    · cases h
    · exact h e
  have hog : some ob ≠ ps[i].2.ownBlock := fun e => (hap _ hm).1 e.symm
  have hlt : ∀ p ∈ ps, ∀ b, p.2.ownBlock = some b → b < w.heap.size := fun p hp b hb => ((h4 p hp).1.lt b hb).2
  have hkg : kv.ownBlock ≠ some g := by
    rcases hat with e | e <;> rw [e]
    · exact fun e => hgi e.symm
    · intro e; injection e; omega
  have hko : kv.ownBlock ≠ some ob := by
    rcases hat with e | e <;> rw [e]
    · exact fun e => hog e.symm
    · have := h2.lt; intro e; injection e; omega
  have h3' := h3.kept hg (Or.inr (by exact hgi))
  obtain ⟨s1, s2⟩ := h3'.stored (i * 4 + 3) kv
  have hne : ∀ p ∈ ps, p.2.ownBlock = none ∨ p.2.ownBlock ≠ some g := fun p hp => Or.inr (fun e => by
    rcases (hap p hp).2 with h | h
    · cases h
    · exact h e.symm)
  have hpw := (List.pairwise_cons.1 (List.pairwise_cons.1 h5).2).2
  have hoth : ∀ (j : Nat) (hj : j < ps.length), j ≠ i → ps[j].2.ownBlock = none ∨ ps[j].2.ownBlock ≠ ps[i].2.ownBlock := fun j hj hji => by
    have hq := List.pairwise_map.1 hpw
    rcases Nat.lt_or_ge j i with h | h
    · exact List.pairwise_iff_getElem.1 hq j i hj hi h
    · rcases List.pairwise_iff_getElem.1 hq i j hi hj (by omega) with h | h
      · cases e : ps[j].2.ownBlock with
        | none => exact Or.inl rfl
        | some b => rw [h]; exact Or.inr (by simp)
      · exact Or.inr (fun e => h e.symm)
  have hx : (rowT ps[i]).set 3 kv = rowT (t, kv) := by
    unfold rowT
    dsimp only
    rw [h0, h00, h000]
    rfl
  refine ⟨⟨?_, blk_grown (blk_grown h2 hg hog) s2 (fun e => hgo (by injection e with e; exact e.symm)), ?_, fun p hp => ?_, ?_, h6⟩, ?_⟩
  · rw [List.map_set, h1]
  · rw [flat_set rowT_len hi (by decide) hx] at s1
    rw [List.length_set]
    exact s1
  · obtain ⟨j, hj, rfl⟩ := List.mem_iff_getElem.1 hp
    rw [List.length_set] at hj
    by_cases hji : i = j
    · subst hji
      rw [List.getElem_set_self]
      exact ⟨hown.kept s2 (Or.inr hkg), by dsimp only; rw [h0]; exact (h4 _ hm).2.1, htx⟩
    · rw [List.getElem_set_ne hji]
      exact ownT_kept (ownT_kept (h4 _ (List.getElem_mem hj)) hg (hoth j hj (fun e => hji e.symm))) s2 (hne _ (List.getElem_mem hj))
  · unfold Apart
    rw [List.pairwise_cons, List.pairwise_cons]
    have hmem : ∀ b ∈ (ps.set i (t, kv)).map (fun p => p.2.ownBlock), b = kv.ownBlock ∨ ∃ p ∈ ps, p.2.ownBlock = b := fun b hb => by
      obtain ⟨p, hp, rfl⟩ := List.mem_map.1 hb
      rcases List.mem_or_eq_of_mem_set hp with hp | rfl
      · exact Or.inr ⟨p, hp, rfl⟩
      · exact Or.inl rfl
    refine ⟨fun b hb => Or.inr (fun e => ?_), fun b hb => Or.inr (fun e => ?_), ?_⟩
    · subst e
      rcases List.mem_cons.1 hb with e | hb
      · exact hgo (by injection e with e; exact e.symm)
      · rcases hmem _ hb with e | ⟨p, hp, e⟩
        · exact hko e.symm
        · exact (hap p hp).1 e
    · subst e
      rcases hmem _ hb with e | ⟨p, hp, e⟩
      · exact hkg e.symm
      · rcases hne p hp with h | h
        · rw [h] at e; cases e
        · exact h e
    · rw [List.map_set]
      rw [List.pairwise_iff_getElem]
      intro a b ha hb hab
      rw [List.length_set, List.length_map] at ha hb
      rw [List.getElem_set, List.getElem_set, List.getElem_map, List.getElem_map]
      have fresh : ∀ (j : Nat) (hj : j < ps.length), j ≠ i → ps[j].2.ownBlock = none ∨ ps[j].2.ownBlock ≠ kv.ownBlock := fun j hj hji => by
        rcases hat with e | e
        · rw [e]; exact hoth j hj hji
        · rw [e]
          refine Or.inr (fun e2 => ?_)
          have := hlt _ (List.getElem_mem hj) _ e2
          omega
      split
      · rename_i e
        subst e
        rw [if_neg (by omega)]
        dsimp only
        rcases fresh b hb (by omega) with h | h
        · rw [h]
          cases kv.ownBlock with
          | none => exact Or.inl rfl
          | some x => exact Or.inr (by simp)
        · exact Or.inr (fun e => h e.symm)
      · split
        · rename_i e
          subst e
          exact fresh a ha (by omega)
        · have hq := List.pairwise_map.1 hpw
          exact List.pairwise_iff_getElem.1 hq a b ha hb hab
  · exact ((Below.refl base w).grown hg hbw (fun k e => ((h4 _ hm).1.lt k e).1)).setCell hbg _
end Go.Proofs.Ytgcgilcalmefgaa
