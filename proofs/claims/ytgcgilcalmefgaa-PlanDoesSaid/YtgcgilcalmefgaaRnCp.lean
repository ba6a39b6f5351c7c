/- Walks: ring.copied: a state of new memory. -/
import Derived.Test.YtgcgilcalmefgaaRnDo
namespace Go.Proofs.Ytgcgilcalmefgaa
open Go Go.RowKit Go.Sort
set_option maxRecDepth 100000
set_option linter.unusedSimpArgs false
set_option linter.unusedVariables false
set_option maxHeartbeats 4000000
theorem run_copy_none {P : Program} (w : World) (dT sT ty elem : TypeId) (D : Option Addr) (dLen dCap : Nat) (size : Nat)
    (hu : P.underlying dT = some (.slice elem)) (hs : (P.info? elem).map (·.size) = some size) :
    (Builtin.copy_ #[dT, sT] ty #[.slice D dLen dCap, .slice none 0 0]).run P w = .ok (goInt 0) w := by
  cases hq : P.info? elem with
  | none => simp [hq] at hs
  | some i =>
    simp [Builtin.copy_, run_underlying hu, Builtin.lenOf, Builtin.firstCells, sizeOf, typeInfo, hq]
    cases D <;> simp [storeCells]
/-- a whole row copied onto a row of as many -/
theorem wpList_copy_all {P : Program} {w : World} {ops : Array Oper} {rest : List Oper} {o : Oper} {a : Act} {Q : Exit → Act → World → Prop} (hgd : o.guard = none) (d s : Operand) (dT sT : TypeId)
    (ho : o.op = .call { callee := .builtin .copy, args := #[d, s], argTypes := #[dT, sT] }) (elem : TypeId) (size : Nat) (hu : P.underlying dT = some (.slice elem)) (hsz : (P.info? elem).map (·.size) = some size)
    (g n : Nat) (A : Option Addr) (sCap : Nat) (hd : a.eval d = .slice (some ⟨g, 0, none⟩) n n) (hs : a.eval s = .slice A n sCap) (hA : A = none → n = 0 ∧ sCap = 0)
    (cur : Array Value) (t : TypeId) (hg : w.heap[g]? = some (.cells cur t (0, 0))) (hcs : cur.size = n * size) (cs : List Value) (hn : cs.length = n * size)
    (hsrc : ∀ ad, A = some ad → ∀ j v, cs[j]? = some v → w.cell? (ad.add j) = some v) (h1 : ∀ v ∈ cs, v.oneCell' = true)
    (h : ∀ w', w'.heap[g]? = some (.cells cs.toArray t (0, 0)) → w.grownBy w' (some g) → w'.heap.size = w.heap.size → wpList P ops Q rest (a.put o.dst (goInt n)) w') : wpList P ops Q (o :: rest) a w := by
  cases A with
  | none =>
    obtain ⟨rfl, rfl⟩ := hA rfl
    have e : cs = [] := List.eq_nil_of_length_eq_zero (by omega)
    subst e
    have ec : cur = #[] := Array.eq_empty_of_size_eq_zero (by omega)
    subst ec
    refine wpList_plain hgd fun K hK => ?_
    have hrun := run_copy_none (P := P) w dT sT o.type elem (some ⟨g, 0, none⟩) 0 0 size hu hsz
    unfold Oper.wp execOp
    simp only [ho, resolve, invoke, builtin, Sem.run_bind, Sem.run_pure, Result.andThen_ok, List.map_toArray, List.map_cons, List.map_nil, hd, hs, hrun]
    exact hK _ _ (h w hg ⟨rfl, rfl, rfl, Nat.le_refl _, fun _ _ _ => rfl⟩ rfl)
  | some ad =>
    have hm : Nat.min n n = n := Nat.min_self n
    refine wpList_copy_size hgd d s dT sT ho elem size hu hsz g 0 n n ad n sCap hd hs cur t hg cs (by rw [hm]; exact hn) (hsrc ad rfl) (by omega) h1 ?_
    rw [hm]
    have e : (cur.toList.take 0 ++ cs ++ cur.toList.drop (0 + cs.length)).toArray = cs.toArray := by
      rw [List.drop_eq_nil_of_le (by rw [Array.length_toList]; omega)]; simp
    rw [e]
    exact h _ (setRow_heap w g cur _ t _ hg) (grown_setRow w g _) (setRow_size w g _)
/-- a copy of a state: in memory of its own -/
def RetCopy (s : Rn.S) (w : World) (e : Ending) (w' : World) : Prop := ∃ ps u ob, e = .returned (.agg #[u, .int .i64 s.serial]) ∧ Below w.heap.size w w' ∧ StI ob w.heap.size w' s ps u
def OldT (G : Nat → Prop) (w : World) (p : Rn.T × Value) : Prop := tenR G w p.1 (rowT p)
/-- the copy, the keys of the first j tenants copied -/
def CpI (G : Nat → Prop) (ob g base : Nat) (w : World) (s : Rn.S) (qs : List (Rn.T × Value)) (j : Nat) : Prop :=
  qs.map Prod.fst = s.tens ∧ Blk w ob #[.slice (some ⟨g, 0, none⟩) qs.length qs.length, .int .i64 s.serial] 24 ∧ w.ownsRow base 38 4 (.slice (some ⟨g, 0, none⟩) qs.length qs.length) qs.length (qs.flatMap rowT) ∧
    (∀ (k : Nat) (h : k < qs.length), k < j → OwnT base w qs[k]) ∧ (∀ (k : Nat) (h : k < qs.length), j ≤ k → OldT G w qs[k]) ∧
    Apart (some ob :: some g :: (qs.take j).map (fun p => p.2.ownBlock)) ∧ base ≤ ob
theorem cpI_keep {G : Nat → Prop} {ob g base : Nat} {w w' : World} {s : Rn.S} {qs : List (Rn.T × Value)} {j : Nat} (hG : ∀ b, G b → b < base) (h : CpI G ob g base w s qs j) (hb : Below w.heap.size w w') : CpI G ob g base w' s qs j := by
  obtain ⟨h1, h2, h3, h4, h5, h6, h7⟩ := h
  have hl := h2.lt
  exact ⟨h1, h2.call hb, own_below h3 hb (Nat.le_refl _), fun k hk hj => ownT_below (h4 k hk hj) hb, fun k hk hj => tenR_keep (h5 k hk hj) (fun b h => h) (kept_below hb (fun b h => by have := hG b h; omega)), h6, h7⟩
theorem own_mono {w : World} {base base' : Nat} {e : TypeId} {size : Nat} {v : Value} {n : Nat} {xs : List Value} (h : w.ownsRow base e size v n xs) (hb : base' ≤ base) : w.ownsRow base' e size v n xs := by
  refine ⟨h.1, ?_⟩
  rcases h.2 with h | ⟨g, cap, cur, h1, h2, h3⟩
  · exact Or.inl h
  · exact Or.inr ⟨g, cap, cur, h1, Nat.le_trans hb h2, h3⟩
theorem oldT_one {G : Nat → Prop} {w : World} {p : Rn.T × Value} (h : OldT G w p) : ∃ A c, p.2 = .slice A p.1.keys.length c ∧ Fits A p.1.keys.length c ∧ p.1.name.size ≤ maxLen ∧ KeysAt G w A p.1.keys := by
  obtain ⟨A, c, e, h1, h2, h3, h4⟩ := h
  unfold rowT at e
  injection e with e1 e2
  injection e2 with e3 e4
  injection e4 with e5 e6
  injection e6 with e7 e8
  exact ⟨A, c, e7, h1, h3, h4⟩
theorem cpI_next {G : Nat → Prop} {ob g base : Nat} {w w1 : World} {s : Rn.S} {qs : List (Rn.T × Value)} {j : Nat} {v : Value} (hG : ∀ b, G b → b < base) (h : CpI G ob g base w s qs j) (hj : j < qs.length) (hbw : base ≤ w.heap.size)
    (hown : w1.ownsRow w.heap.size 44 2 v qs[j].1.keys.length (qs[j].1.keys.flatMap keyV)) (hb : Below w.heap.size w w1) :
    CpI G ob g base (w1.setCell ⟨g, j * 4 + 3, none⟩ v) s (qs.set j (qs[j].1, v)) (j + 1) ∧ Below base w (w1.setCell ⟨g, j * 4 + 3, none⟩ v) := by
  have hk := cpI_keep hG h hb
  have hog := (List.pairwise_cons.1 h.2.2.2.2.2.1).1 _ (List.mem_cons_self ..)
  have hgo : g ≠ ob := fun e => by
    rcases hog with h | h
    · cases h
    · exact h (by rw [e])
  obtain ⟨h1, h2, h3, h4, h5, h6, h7⟩ := h
  obtain ⟨k1, k2, k3, k4, k5, -, -⟩ := hk
  have hgb := h3.lt g rfl
  have hobl := h2.lt
  have hvl := hown.lt
  obtain ⟨s1, s2⟩ := k3.stored (j * 4 + 3) v
  have hx : (rowT qs[j]).set 3 v = rowT (qs[j].1, v) := rfl
  rw [flat_set rowT_len hj (by decide) hx] at s1
  have ha := List.pairwise_cons.1 h6
  have ha2 := List.pairwise_cons.1 ha.2
  have hold := oldT_one (h5 j hj (Nat.le_refl _))
  obtain ⟨A0, c0, e0, hf0, hn0, hks0⟩ := hold
  have htx : ∀ k ∈ qs[j].1.keys, k.txt.size ≤ maxLen := fun k hk => by
    obtain ⟨m, hm, rfl⟩ := List.mem_iff_getElem.1 hk
    obtain ⟨_, _, _, _, h, _⟩ := keys_at hks0 hm
    exact h
  have hget : ∀ (k : Nat) (hk : k < qs.length), k ≠ j → (qs.set j (qs[j].1, v))[k]'(by rw [List.length_set]; exact hk) = qs[k] := fun k hk hne => by rw [List.getElem_set_ne (by omega)]
  have hgn : ∀ (k : Nat) (hk : k < qs.length), k < j → qs[k].2.ownBlock = none ∨ qs[k].2.ownBlock ≠ some g := fun k hk hkj => Or.inr (fun e => by
    have hm : qs[k].2.ownBlock ∈ (qs.take j).map (fun p => p.2.ownBlock) := List.mem_map.2 ⟨qs[k], by rw [List.mem_take_iff_getElem]; exact ⟨k, by omega, rfl⟩, rfl⟩
    rcases ha2.1 _ hm with h | h
    · cases h
    · exact h e.symm)
  refine ⟨⟨?_, ?_, ?_, fun k hk hkj => ?_, fun k hk hkj => ?_, ?_, h7⟩, (hb.mono hbw).setCell (by show base ≤ g; exact hgb.1) _⟩
  · rw [map_set_same Prod.fst (x := (qs[j].1, v)) hj rfl]; exact h1
  · rw [List.length_set]; exact blk_grown k2 s2 (fun e => hgo (by injection e with e; exact e.symm))
  · rw [List.length_set]; exact s1
  · rw [List.length_set] at hk
    by_cases hkj' : k = j
    · subst hkj'
      rw [List.getElem_set_self]
      refine ⟨(own_mono hown hbw).kept s2 (Or.inr (fun e => by have := hvl _ e; omega)), hn0, htx⟩
    · rw [hget k hk hkj']
      exact ownT_kept (k4 k hk (by omega)) s2 (hgn k hk (by omega))
  · rw [List.length_set] at hk
    rw [hget k hk (by omega)]
    exact tenR_keep (k5 k hk (by omega)) (fun b h => h) (fun b hb1 => s2.block b (by have := hG b hb1; have := hb.size; omega) (fun e => by injection e with e; have := hG b hb1; omega))
  · have e : (qs.set j (qs[j].1, v)).take (j + 1) = qs.take j ++ [(qs[j].1, v)] := by
      rw [List.take_set, List.take_succ_eq_append_getElem hj, List.set_append_right _ _ (by rw [List.length_take]; omega), List.length_take, Nat.min_eq_left (by omega), Nat.sub_self]
      rfl
    rw [e, List.map_append]
    unfold Apart
    rw [List.pairwise_cons, List.pairwise_cons, List.pairwise_append]
    have hvg : ∀ b, b < w.heap.size → v.ownBlock ≠ some b := fun b hb e => by have := hvl b e; omega
    have hold2 : ∀ b ∈ (qs.take j).map (fun p => p.2.ownBlock), ∀ x, b = some x → x < w.heap.size := fun b hb x e => by
      obtain ⟨p, hp, rfl⟩ := List.mem_map.1 hb
      rw [List.mem_take_iff_getElem] at hp
      obtain ⟨k, hk, rfl⟩ := hp
      exact ((h4 k (by omega) (by omega)).1.lt x e).2
    refine ⟨fun b hb => ?_, fun b hb => ?_, ha2.2, List.pairwise_singleton _ _, fun a ha' b hb => ?_⟩
    · rcases List.mem_cons.1 hb with rfl | hb
      · exact Or.inr (fun e => hgo (by injection e with e; exact e.symm))
      · rcases List.mem_append.1 hb with hb | hb
        · exact ha.1 _ (List.mem_cons_of_mem _ hb)
        · simp at hb; subst hb; exact Or.inr (fun e => hvg ob hobl e.symm)
    · rcases List.mem_append.1 hb with hb | hb
      · exact ha2.1 _ hb
      · simp at hb; subst hb; exact Or.inr (fun e => hvg g hgb.2 e.symm)
    · simp at hb; subst hb
      cases ea : a with
      | none => exact Or.inl rfl
      | some x => exact Or.inr (fun e => hvg x (hold2 a ha' x ea) e.symm)
theorem cpI_done {G : Nat → Prop} {ob g base : Nat} {w : World} {s : Rn.S} {qs : List (Rn.T × Value)} (h : CpI G ob g base w s qs qs.length) : StI ob base w s qs (.slice (some ⟨g, 0, none⟩) qs.length qs.length) := by
  obtain ⟨h1, h2, h3, h4, h5, h6, h7⟩ := h
  rw [List.take_of_length_le (Nat.le_refl _)] at h6
  exact ⟨h1, h2, h3, fun p hp => by obtain ⟨k, hk, rfl⟩ := List.mem_iff_getElem.1 hp; exact h4 k hk hk, h6, h7⟩
theorem stI_mono {ob base base' : Nat} {w : World} {s : Rn.S} {ps : List (Rn.T × Value)} {u : Value} (h : StI ob base w s ps u) (hb : base' ≤ base) : StI ob base' w s ps u :=
  ⟨h.1, h.2.1, own_mono h.2.2.1 hb, fun p hp => ⟨own_mono (h.2.2.2.1 p hp).1 hb, (h.2.2.2.1 p hp).2⟩, h.2.2.2.2.1, Nat.le_trans hb h.2.2.2.2.2⟩
theorem stI_low {ob base k : Nat} {w w' : World} {s : Rn.S} {ps : List (Rn.T × Value)} {u : Value} (h : StI ob base w s ps u) (hk : k < base) (hg : w.grownBy w' (some k)) : StI ob base w' s ps u := by
  obtain ⟨h1, h2, h3, h4, h5, h6⟩ := h
  refine ⟨h1, blk_grown h2 hg (fun e => by injection e with e; omega), h3.kept hg (Or.inr (fun e => by have := h3.lt _ e; omega)), fun p hp => ownT_kept (h4 p hp) hg (Or.inr (fun e => by have := (h4 p hp).1.lt _ e; omega)), h5, h6⟩
theorem rows_old {G : Nat → Prop} {w : World} {A : Option Addr} {ts : List Rn.T} (h : TensAt G w A ts) : ∃ qs : List (Rn.T × Value), qs.map Prod.fst = ts ∧ (∀ p ∈ qs, OldT G w p) ∧ (∀ ad, A = some ad → ∀ j v, (qs.flatMap rowT)[j]? = some v → w.cell? (ad.add j) = some v) := by
  have key : ∀ i, i ≤ ts.length → ∃ qs : List (Rn.T × Value), qs.map Prod.fst = ts.take i ∧ (∀ p ∈ qs, OldT G w p) ∧ (∀ (k : Nat) (hk : k < qs.length) b o, A = some ⟨b, o, none⟩ → ∀ r v, (rowT qs[k])[r]? = some v → w.cell? ⟨b, o + k * 4 + r, none⟩ = some v) := by
    intro i
    induction i with
    | zero => intro _; exact ⟨[], (by simp), (fun p hp => (by cases hp)), (fun k hk => (by simp at hk))⟩
    | succ i ih =>
      intro hi
      obtain ⟨qs, h1, h2, h3⟩ := ih (by omega)
      obtain ⟨b, o, cs, e, hg, ⟨A', c, rfl, h4, h5, h6, h7⟩, h8⟩ := rows_at h (k := i) (by omega)
      have hl : qs.length = i := by have := congrArg List.length h1; rw [List.length_map, List.length_take] at this; omega
      refine ⟨qs ++ [(ts[i], .slice A' ts[i].keys.length c)], ?_, fun p hp => ?_, fun k hk b' o' e' r v hv => ?_⟩
      · rw [List.map_append, h1, List.take_succ_eq_append_getElem (by omega)]; rfl
      · rcases List.mem_append.1 hp with hp | hp
        · exact h2 p hp
        · simp at hp; subst hp; exact ⟨A', c, rfl, h4, h5, h6, h7⟩
      · rcases Nat.lt_or_ge k qs.length with hlt | hge
        · rw [List.getElem_append_left hlt] at hv
          exact h3 k hlt b' o' e' r v hv
        · have hk' : k < qs.length + 1 := by simpa using hk
          obtain rfl : k = qs.length := by omega
          rw [List.getElem_append_right (Nat.le_refl _)] at hv
          simp only [Nat.sub_self, List.getElem_cons_zero] at hv
          rw [e] at e'
          cases e'
          rw [hl]
          exact h8 r v hv
  obtain ⟨qs, h1, h2, h3⟩ := key ts.length (Nat.le_refl _)
  rw [List.take_of_length_le (Nat.le_refl _)] at h1
  refine ⟨qs, h1, h2, fun ad e j v hj => ?_⟩
  obtain ⟨k, r, hk, rfl, hr⟩ := flat_at (n := 4) rowT_len qs j v hj
  have hl : qs.length = ts.length := by rw [← h1, List.length_map]
  obtain ⟨b, o, e2, -⟩ := h (by omega)
  rw [e] at e2
  cases e2
  rw [addr_off, ← Nat.add_assoc]
  exact h3 k hk b o e r v hr
/-- both blocks laid, in whichever order -/
def Cp0 (s : Rn.S) (A : Option Addr) (c : Nat) (w : World) (ob g : Nat) (V : World) : Prop :=
  Below w.heap.size w V ∧ Blk V w.heap.size #[.slice (A) (s).tens.length (c), .int .i64 (s).serial] 24 ∧ Blk V (w.heap.size + 1) #[.slice none 0 0, .int .i64 0] 24 ∧ Blk V ob #[.slice (some ⟨g, 0, none⟩) s.tens.length s.tens.length, .int .i64 s.serial] 24 ∧
    (∃ cur : Array Value, V.heap[g]? = some (.cells cur 38 (0, 0)) ∧ cur.size = s.tens.length * 4) ∧ ob ≠ g ∧ w.heap.size + 2 ≤ ob ∧ w.heap.size + 2 ≤ g
theorem copied_any (s : Rn.S) (A : Option Addr) (c : Nat) (G : Nat → Prop) (w : World) (hG : ∀ b, G b → b < w.heap.size) (hl : s.tens.length ≤ 1000) (hkl : ∀ t ∈ s.tens, t.keys.length ≤ 1000) (hfit : Fits A s.tens.length c) (hT : TensAt G w A s.tens) :
    Calls Try.prog 45 #[.agg #[.slice (A) (s).tens.length (c), .int .i64 (s).serial]] w (RetCopy s w) := by
  obtain ⟨i0, hi0, hz0, hz1, hz2⟩ := info_parts ten_info
  have hmk : ∀ w, (Instr.makeSlice 22 (.int .i64 (s.tens.length : Int)) (.int .i64 (s.tens.length : Int))).run Try.prog w = .ok (.slice (some ⟨w.heap.size, 0, none⟩) s.tens.length s.tens.length) (w.alloc (.cells (madeCells (Value.agg #[.string ByteArray.empty, .int .i64 0, .int .i64 0, .slice none 0 0]).cells (s.tens.length * 4)) 38)) := fun w => by
    have h := run_make (P := Try.prog) w 22 38 i0 _ Try.underlying22 hi0 hz0 .i64 .i64 (s.tens.length : Int) (s.tens.length : Int) (by omega) (Int.le_refl _) (by rw [hz2]; omega) (by omega)
    rw [Int.toNat_natCast, hz1] at h
    exact h
  have hmz : ∀ z, (madeCells z (s.tens.length * 4)).size = s.tens.length * 4 := fun z => size_madeCells _ _
  have hmz2 := hmz (Value.agg #[.string ByteArray.empty, .int .i64 0, .int .i64 0, .slice none 0 0]).cells
  clear hmz
  generalize madeCells (Value.agg #[.string ByteArray.empty, .int .i64 0, .int .i64 0, .slice none 0 0]).cells (s.tens.length * 4) = row at *
  obtain ⟨W0, hW0⟩ : ∃ W0, W0 = (w.alloc (.cells #[.slice (A) (s).tens.length (c), .int .i64 (s).serial] 24)).alloc (.cells #[.slice none 0 0, .int .i64 0] 24) := ⟨_, rfl⟩
  have hb0 : Below w.heap.size w W0 := by rw [hW0]; exact ((Below.refl _ _).alloc (Nat.le_refl _) _).alloc (by simp) _
  have hs0 : W0.heap.size = w.heap.size + 2 := by rw [hW0]; simp
  have hB1 : Blk W0 w.heap.size #[.slice (A) (s).tens.length (c), .int .i64 (s).serial] 24 := by rw [hW0]; exact (Blk.new w _ _).alloc _
  have hB2 : Blk W0 (w.heap.size + 1) #[.slice none 0 0, .int .i64 0] 24 := by rw [hW0]; exact blk_new (by simp)
  have HB0 := hid_mk hb0
  have HS0 := hid_mk hs0
  have H1 := hid_mk hB1
  have H2 := hid_mk hB2
  have HW0 := hid_mk hW0
  have HT := hid_mk hT
  have HG := hid_mk hG
  have HKL := hid_mk hkl
  have HFIT := hid_mk hfit
  have HMZ := hid_mk hmz2
  have z0 : ∀ p : InB (Below W0.heap.size W0), p.w.cell? ⟨w.heap.size, 0, none⟩ = some (.slice A s.tens.length c) := fun p => cell_in p.ok (hB1.cell 0)
  have z1 : ∀ p : InB (Below W0.heap.size W0), p.w.cell? ⟨w.heap.size, 1, none⟩ = some (.int .i64 s.serial) := fun p => cell_in p.ok (hB1.cell 1)
  clear hb0 hs0 hB1 hB2 hW0 hT hG hkl hfit hmz2 hi0 hz0 hz1 hz2
  go_enter Try.func45, Try.ntmps45
  go_wp2
  rw [← HW0.out]
  (refine region_plan (S := Meets (Below W0.heap.size W0)) (.read 0 _ (.read 1 _ (.read 2 _ (.read 3 _ (.read 4 _ (.two 5 _ (.read 6 _ (.one 7 _ (.one 8 _ .tail))) 7 _ (.one 5 _ (.read 6 _ (.one 8 _ .tail))))))))) 9 (by kernel_rfl) (by kernel_rfl) ⟨rfl, ⟨rfl, ⟨rfl, ⟨rfl, ⟨rfl, ⟨rfl, rfl, ⟨rfl, ⟨rfl, ⟨rfl, trivial⟩⟩⟩, ⟨rfl, ⟨rfl, ⟨rfl, trivial⟩⟩⟩⟩⟩⟩⟩⟩⟩ (by kernel_rfl) (by kernel_rfl) (fun d v c a w h => by cases d <;> exact h) (fun w p h => by obtain ⟨q, rfl⟩ := h; exact meets_mk (below_grew q.ok p)) (meets_mk ?_) ?_)
  · exact (Below.refl _ _).drew
  intro J hJ
  have HJ := hid_mk hJ
  clear hJ
  (repeat (refine planWp_read (fun K hK => ?_); go_simp; (first | (refine hK _ ?_; clear hK K) | (apply Exists.intro; refine ⟨fun _ => rfl, hK _ ?_⟩; clear hK K))))
  have REST : ∀ (ob g : Nat) (V : World), Cp0 s A c w ob g V → Below W0.heap.size W0 V → J ⟨#[.agg #[.slice (A) (s).tens.length (c), .int .i64 (s).serial], .pointer (some ⟨w.heap.size, 0, none⟩), .pointer (some ⟨w.heap.size + 1, 0, none⟩), .pointer (some ⟨ob, 0, none⟩), undef, .pointer (some ⟨w.heap.size, 1, none⟩), .int .i64 s.serial, .pointer (some ⟨w.heap.size, 0, none⟩), .slice A s.tens.length c, .int .i64 (s.tens.length : Int), .slice (some ⟨g, 0, none⟩) s.tens.length s.tens.length, .agg #[.slice (some ⟨g, 0, none⟩) s.tens.length s.tens.length, .int .i64 s.serial], undef, undef, undef, undef, undef, undef, undef, undef, undef, undef, undef, undef, undef, undef, undef, undef, undef, undef, undef, undef, undef, undef, undef, undef, undef], []⟩ V := by
    intro ob g V hcp hbv
    obtain ⟨hb, hx1, hx2, hob, ⟨cur, hg, hcur⟩, hne, hob2, hg2⟩ := hcp
    refine HJ.out _ _ (meets_mk hbv) ?_
    clear z0 z1 HJ
    (unfold PairEnd; simp only [List.drop_succ_cons, List.drop_zero]; refine wpQuiet_nil ?_; intro _ hw'; obtain ⟨⟨nq, osq⟩, hw''⟩ := hw'; subst hw'')
    have hvb := below_regrown V nq osq
    have HB := hid_mk (hb.trans (hvb.mono hb.size))
    have HX1 := hid_mk (hx1.call hvb)
    have HX2 := hid_mk (hx2.call hvb)
    have HOB := hid_mk (hob.call hvb)
    have HGG := hid_mk ((hvb.block g (by have := (Array.getElem?_eq_some_iff.1 hg).1; exact this)).trans hg)
    clear hvb hb hx1 hx2 hob hg hbv
    generalize grow (redrawn V nq) osq = X at *
    obtain ⟨qs, hq1, hq2, hq3⟩ := rows_old (tensAt_keep HT.out (fun b h => h) (kept_below HB.out HG.out))
    have hql : qs.length = s.tens.length := by rw [← hq1, List.length_map]
    have hfl : (qs.flatMap rowT).length = s.tens.length * 4 := by rw [flat_len rowT_len, hql]
    have h1x : ∀ u ∈ qs.flatMap rowT, u.oneCell' = true := fun u hu => by
      rw [List.mem_flatMap] at hu
      obtain ⟨p, hp, hu⟩ := hu
      obtain ⟨A', c', e, -⟩ := oldT_one (hq2 p hp)
      unfold rowT at hu
      simp at hu
      rcases hu with rfl | rfl | rfl | rfl
      · rfl
      · rfl
      · rfl
      · rw [e]; rfl
    have hA0 : A = none → s.tens.length = 0 ∧ c = 0 := fun e => ⟨by have := HFIT.out.1; have := HFIT.out.2 e; omega, HFIT.out.2 e⟩
    have hsz : (Try.prog.info? 38).map (·.size) = some 4 := by kernel_rfl
    have HQ1 := hid_mk hq1
    have HQ2 := hid_mk hq2
    have HQ3 := hid_mk hq3
    have HQL := hid_mk hql
    have HFL := hid_mk hfl
    have H1X := hid_mk h1x
    have HA0 := hid_mk hA0
    have HCUR := hid_mk hcur
    have HNE := hid_mk hne
    have hc0 : X.cell? ⟨ob, 0, none⟩ = some (.slice (some ⟨g, 0, none⟩) s.tens.length s.tens.length) := HOB.out.cell 0
    have hc1 : X.cell? ⟨w.heap.size, 0, none⟩ = some (.slice A s.tens.length c) := HX1.out.cell 0
    clear hq1 hq2 hq3 hql hfl h1x hA0 hcur hne hmk
    go_wp2_with (with_reducible refine wpList_copy_all (o := ⟨some 16, _, _, _, _, _⟩) rfl (.tmp 13) (.tmp 15) 22 22 rfl 38 4 Try.underlying22 hsz g s.tens.length A c ?_ ?_ HA0.out cur 38 HGG.out HCUR.out (qs.flatMap rowT) HFL.out HQ3.out H1X.out ?_)
    · rfl
    · rfl
    intro X1 hg1 hgr hsz1
    have hgx : Below w.heap.size X X1 := (Below.refl _ _).grown hgr (by have := HB.out.size; omega) (fun k e => by injection e with e; omega)
    have HB1 := hid_mk (HB.out.trans hgx)
    have HX21 := hid_mk (blk_grown HX2.out hgr (fun e => by injection e with e; omega))
    have hob1 := blk_grown HOB.out hgr (fun e => HNE.out (by injection e with e))
    have hgo : Apart [some ob, some g] := List.pairwise_cons.2 ⟨fun b hb => Or.inr (fun e => by simp at hb; subst hb; exact HNE.out (by injection e with e)), List.pairwise_singleton _ _⟩
    have HCP0 : Hid (CpI G ob g (w.heap.size + 2) X1 s qs 0) := hid_mk ⟨HQ1.out, by rw [HQL.out]; exact hob1, ⟨by rw [HQL.out]; exact HFL.out, Or.inr ⟨g, qs.length, _, rfl, by omega, hg1, Nat.le_refl _, by have := HQL.out; unfold maxLen; omega, by rw [HQL.out]; simpa using HFL.out, by rw [HQL.out]; exact List.take_of_length_le (by rw [← HFL.out]; simp)⟩⟩,
      fun k hk hkj => absurd hkj (by omega), fun k hk hkj => tenR_keep (HQ2.out _ (List.getElem_mem hk)) (fun b h => h) (kept_below hgx HG.out), hgo, by omega⟩
    have HSZ1 := hid_mk hsz1
    have hc0 : X1.cell? ⟨ob, 0, none⟩ = some (.slice (some ⟨g, 0, none⟩) s.tens.length s.tens.length) := hob1.cell 0
    clear hg1 hgr hgx hob1 hgo hsz1 hc1
    go_wp2
    go_loopw [4, 20] (fun u v wr => ∃ (j : Nat) (ps : List (Rn.T × Value)), j ≤ s.tens.length ∧ v = .int .i64 (j : Nat) ∧ ps.length = s.tens.length ∧ CpI G ob g (w.heap.size + 2) wr s ps j ∧ Below w.heap.size w wr ∧ Blk wr (w.heap.size + 1) #[.slice none 0 0, .int .i64 0] 24) (fun _ v _ => s.tens.length - (intOf v).toNat)
    case atStart => exact ⟨0, qs, Nat.zero_le _, rfl, HQL.out, HCP0.out, HB1.out, HX21.out⟩
    case round =>
      obtain ⟨j, ps, hj, rfl, hpl, hcp, hbw, hrb⟩ := hrel
      have HPL := hid_mk hpl
      have HCP := hid_mk hcp
      have HBW := hid_mk hbw
      have HRB := hid_mk hrb
      clear HQ1 HQ2 HQ3 HQL HFL H1X HCP0 HB1 HX21 HB HX1 HX2 HOB HGG HA0 HCUR HSZ1
      by_cases hlt : j < s.tens.length
      case neg =>
        obtain rfl : j = ps.length := by omega
        have hst := cpI_done hcp
        have hn : ¬ ((ps.length : Int) < (s.tens.length : Int)) := by omega
        have HST := hid_mk hst
        have hob3 := hcp.2.1
        rw [hpl] at hob3 
        have HOB3 := hid_mk hob3
        have hs1 : w.heap.size + 1 < wr.heap.size := hrb.lt
        have HR : Hid (RetCopy s w (.returned (.agg #[.slice (some ⟨g, 0, none⟩) s.tens.length s.tens.length, .int .i64 s.serial])) (wr.setRow (w.heap.size + 1) #[.slice (some ⟨g, 0, none⟩) s.tens.length s.tens.length, .int .i64 s.serial])) := hid_mk (by
          refine ⟨ps, _, ob, rfl, below_row hbw (by omega) _, ?_⟩
          have h := stI_mono (stI_low hst (k := w.heap.size + 1) (by omega) (grown_setRow wr (w.heap.size + 1) #[.slice (some ⟨g, 0, none⟩) s.tens.length s.tens.length, .int .i64 s.serial])) (base' := w.heap.size) (by omega)
          rw [hpl] at h
          exact h)
        clear hst hob3 hcp hbw hrb hpl hs1 hj
        go_wp2_with (first | (refine load_row 24 rfl _ rfl ob _ 24 HOB3.out rfl _ Try.underlying24 rfl (by kernel_rfl) ?_) | (refine store_row 24 rfl _ _ rfl (w.heap.size + 1) _ _ 24 HRB.out rfl rfl (by kernel_rfl) rfl rfl ?_))
        refine ret_row rfl (w.heap.size + 1) _ _ HRB.out.row rfl _ Try.underlying24 rfl ?_ rfl ?_
        · kernel_rfl
        · exact HR.out
      have hjp : j < ps.length := by omega
      have hgo2 := (List.pairwise_cons.1 hcp.2.2.2.2.2.1).1 _ (List.mem_cons_self ..)
      obtain ⟨B, d, hpv, hfb, hnm, hkb⟩ := oldT_one (hcp.2.2.2.2.1 j hjp (Nat.le_refl _))
      have hmem : ps[j].1 ∈ s.tens := by rw [← hcp.1]; exact List.mem_map.2 ⟨_, List.getElem_mem hjp, rfl⟩
      have hk10 := HKL.out _ hmem
      have hcell : wr.cell? ⟨g, j * 4 + 3, none⟩ = some (.slice B ps[j].1.keys.length d) := by
        rw [hcp.2.2.1.cellAt (j * 4 + 3) (by omega)]
        have e : ps = ps.take j ++ ps[j] :: ps.drop (j + 1) := by rw [List.getElem_cons_drop, List.take_append_drop]
        have hl : (ps.take j).length = j := by rw [List.length_take]; omega
        conv => lhs; rw [e]
        rw [List.flatMap_append, List.flatMap_cons, List.getElem?_append_right (by rw [flat_len rowT_len, hl]; omega), flat_len rowT_len, hl, show j * 4 + 3 - j * 4 = 3 by omega, List.getElem?_append_left (by rw [rowT_len]; omega)]
        unfold rowT; rw [← hpv]; rfl
      have hc0 : wr.cell? ⟨ob, 0, none⟩ = some (.slice (some ⟨g, 0, none⟩) s.tens.length s.tens.length) := by rw [← hpl]; exact hcp.2.1.cell 0
      have hfz : ∀ r, wr.frozen? ⟨g, r, none⟩ = false := fun r => hcp.2.2.1.frozenAt r
      have hgl := (hcp.2.2.1.lt g rfl).2
      have HCL := hid_mk (clone_any ps[j].1.keys B d G wr.drew wr.heap.size (fun b hb => Nat.lt_of_lt_of_le (HG.out b hb) hbw.size) (Nat.le_refl _) hk10 hfb (keysAt_keep hkb (fun b h => h) (fun b h => rfl)))
      have HNX : Hid (∀ (v : Value) (w1 : World), w1.ownsRow wr.heap.size 44 2 v ps[j].1.keys.length (ps[j].1.keys.flatMap keyV) → Below wr.heap.size wr w1 → CpI G ob g (w.heap.size + 2) (w1.setCell ⟨g, j * 4 + 3, none⟩ v) s (ps.set j (ps[j].1, v)) (j + 1) ∧ Below (w.heap.size + 2) wr (w1.setCell ⟨g, j * 4 + 3, none⟩ v)) := hid_mk (fun v w1 h1 h2 =>
        cpI_next (fun b hb => by have := HG.out b hb; omega) hcp hjp (by have := hrb.lt; omega) h1 h2)
      have z0 : ∀ p : InB (Below wr.heap.size wr), p.w.cell? ⟨ob, 0, none⟩ = some (.slice (some ⟨g, 0, none⟩) s.tens.length s.tens.length) := fun p => cell_in p.ok hc0
      have z3 : ∀ p : InB (Below wr.heap.size wr), p.w.cell? ⟨g, j * 4 + 3, none⟩ = some (.slice B ps[j].1.keys.length d) := fun p => cell_in p.ok hcell
      have hjl : (j : Int) < (s.tens.length : Int) := by omega
      have HC3 := hid_mk hcell
      have HFZ := hid_mk hfz
      have HC0 := hid_mk hc0
      clear hcp hbw hrb hpl hgo2 hpv hfb hnm hkb hmem hk10 hcell hfz hc0
      go_wp2
      (refine region_planT (S := Meets (Below wr.heap.size wr)) (.read 0 _ (.read 1 _ (.read 2 _ (.read 3 _ (.read 4 _ (.read 5 _ (.read 6 _ (.read 7 _ (.read 8 _ (.one 9 _ .tail)))))))))) 10 (by kernel_rfl) (by kernel_rfl) ⟨rfl, ⟨rfl, ⟨rfl, ⟨rfl, ⟨rfl, ⟨rfl, ⟨rfl, ⟨rfl, ⟨rfl, ⟨rfl, trivial⟩⟩⟩⟩⟩⟩⟩⟩⟩⟩ (by kernel_rfl) (by kernel_rfl) (by kernel_rfl) (by kernel_rfl) (fun d v c a w h => by cases d <;> exact h) (meets_mk ?_) ?_)
      · exact (Below.refl _ _).drew
      intro J2 hJ2
      have HJ2 := hid_mk hJ2
      clear hJ2
      (repeat (refine planWp_read (fun K hK => ?_); go_simp; (first | (refine hK _ ?_; clear hK K) | (apply Exists.intro; refine ⟨fun _ => rfl, hK _ ?_⟩; clear hK K))))
      refine planWp_call 55 #[.slice B ps[j].1.keys.length d] _ rfl (by go_simp) HCL.out ?_
      rintro e w1 ⟨v, rfl, hown, hb1⟩
      have hb2 : Below wr.heap.size wr w1 := (Below.refl wr.heap.size wr).drew.trans hb1
      obtain ⟨Av, cv, rfl⟩ := own_slice hown
      refine ⟨_, rfl, meets_mk hb2, planWp_tail (HJ2.out _ _ (meets_mk hb2) ?_)⟩
      simp only [List.drop_succ_cons, List.drop_zero]
      obtain ⟨hn1, hn2⟩ := HNX.out _ _ hown hb2
      have HN1 := hid_mk hn1
      have HN2 := hid_mk (HBW.out.trans (hn2.mono (by omega)))
      have HRB2 := hid_mk ((HRB.out.call hb2).far (p := ⟨g, j * 4 + 3, none⟩) (by show w.heap.size + 1 ≠ g; omega) (.slice Av ps[j].1.keys.length cv))
      have hgb : w1.heap[g]? = wr.heap[g]? := hb2.block g hgl
      have hj3 : w1.cell? ⟨g, j * 4 + 3, none⟩ = some (.slice B ps[j].1.keys.length d) := by rw [World.cell?_of_block hgb]; exact HC3.out
      have hjf : ∀ r, w1.frozen? ⟨g, r, none⟩ = false := fun r => by rw [World.frozen?_of_block hgb]; exact HFZ.out r
      have HX : Hid (∃ (j' : Nat) (ps' : List (Rn.T × Value)), j' ≤ s.tens.length ∧ Value.int .i64 ((j : Int) + 1) = .int .i64 (j' : Nat) ∧ ps'.length = s.tens.length ∧ CpI G ob g (w.heap.size + 2) (w1.setCell ⟨g, j * 4 + 3, none⟩ (.slice Av ps[j].1.keys.length cv)) s ps' j' ∧ Below w.heap.size w (w1.setCell ⟨g, j * 4 + 3, none⟩ (.slice Av ps[j].1.keys.length cv)) ∧ Blk (w1.setCell ⟨g, j * 4 + 3, none⟩ (.slice Av ps[j].1.keys.length cv)) (w.heap.size + 1) #[.slice none 0 0, .int .i64 0] 24) :=
        hid_mk ⟨j + 1, _, by omega, by rw [show ((j + 1 : Nat) : Int) = (j : Int) + 1 by omega], by rw [List.length_set]; exact HPL.out, HN1.out, HN2.out, HRB2.out⟩
      clear hn1 hn2 hown hb1 hb2 hgb HJ2 HCL HNX z0 z3
      go_wp2
      go_roundw
      case rel => exact HX.out
      case measure => simp [intOf]; omega
  have HREST := hid_mk REST
  clear REST HJ
  refine planWp_two ?_ ?_
  · refine planWp_value (.slice (some ⟨W0.heap.size, 0, none⟩) s.tens.length s.tens.length) rfl (w' := (W0.alloc (.cells row 38)).drew) (by go_simp) (meets_mk ((Below.refl _ _).alloc (Nat.le_refl _) _).drew) ?_
    (repeat (refine planWp_read (fun K hK => ?_); go_simp; (first | (refine hK _ ?_; clear hK K) | (apply Exists.intro; refine ⟨fun _ => rfl, hK _ ?_⟩; clear hK K))))
    refine planWp_value (.pointer (some ⟨W0.heap.size + 1, 0, none⟩)) rfl (w' := ((W0.alloc (.cells row 38)).alloc (.cells #[.slice none 0 0, .int .i64 0] 24)).drew) (by go_simp) (meets_mk (((Below.refl _ _).alloc (Nat.le_refl _) _).alloc (by simp) _).drew) ?_
    have hbz : Below W0.heap.size W0 ((((W0.alloc (.cells row 38)).alloc (.cells #[.slice none 0 0, .int .i64 0] 24)).setCell ⟨(W0.heap.size + 1), 0, none⟩ (.slice (some ⟨W0.heap.size, 0, none⟩) s.tens.length s.tens.length)).setCell ⟨(W0.heap.size + 1), 1, none⟩ (.int .i64 s.serial)) := (by repeat (first | with_reducible exact Below.refl _ _ | with_reducible assumption | with_reducible refine Below.setCell ?_ (by first | omega | (dsimp only; omega) | (simp <;> omega)) _ | with_reducible refine Below.alloc ?_ (by first | omega | (simp <;> omega)) _ | with_reducible refine below_drewN ?_ _ | with_reducible refine Below.drew ?_))
    have hob : Blk ((((W0.alloc (.cells row 38)).alloc (.cells #[.slice none 0 0, .int .i64 0] 24)).setCell ⟨(W0.heap.size + 1), 0, none⟩ (.slice (some ⟨W0.heap.size, 0, none⟩) s.tens.length s.tens.length)).setCell ⟨(W0.heap.size + 1), 1, none⟩ (.int .i64 s.serial)) (W0.heap.size + 1) #[.slice (some ⟨W0.heap.size, 0, none⟩) s.tens.length s.tens.length, .int .i64 s.serial] 24 := (((show Blk ((W0.alloc (.cells row 38)).alloc (.cells #[.slice none 0 0, .int .i64 0] 24)) (W0.heap.size + 1) #[.slice none 0 0, .int .i64 0] 24 from by first | exact blk_new (by simp) | exact (blk_new (by simp)).alloc _).put 0 _).put 1 _).is (by simp)
    have hgr : ((((W0.alloc (.cells row 38)).alloc (.cells #[.slice none 0 0, .int .i64 0] 24)).setCell ⟨(W0.heap.size + 1), 0, none⟩ (.slice (some ⟨W0.heap.size, 0, none⟩) s.tens.length s.tens.length)).setCell ⟨(W0.heap.size + 1), 1, none⟩ (.int .i64 s.serial)).heap[W0.heap.size]? = some (.cells row 38 (0, 0)) := by
      have h : Blk ((((W0.alloc (.cells row 38)).alloc (.cells #[.slice none 0 0, .int .i64 0] 24)).setCell ⟨(W0.heap.size + 1), 0, none⟩ (.slice (some ⟨W0.heap.size, 0, none⟩) s.tens.length s.tens.length)).setCell ⟨(W0.heap.size + 1), 1, none⟩ (.int .i64 s.serial)) W0.heap.size row 38 := ((show Blk ((W0.alloc (.cells row 38)).alloc (.cells #[.slice none 0 0, .int .i64 0] 24)) W0.heap.size row 38 from by first | exact blk_new (by simp) | exact (blk_new (by simp)).alloc _).far (by show W0.heap.size ≠ (W0.heap.size + 1); omega) _).far (by show W0.heap.size ≠ (W0.heap.size + 1); omega) _
      exact h
    have hcp : Cp0 s A c w (W0.heap.size + 1) W0.heap.size ((((W0.alloc (.cells row 38)).alloc (.cells #[.slice none 0 0, .int .i64 0] 24)).setCell ⟨(W0.heap.size + 1), 0, none⟩ (.slice (some ⟨W0.heap.size, 0, none⟩) s.tens.length s.tens.length)).setCell ⟨(W0.heap.size + 1), 1, none⟩ (.int .i64 s.serial)).drew := ⟨(HB0.out.trans (hbz.mono HB0.out.size)).drew, H1.out.call hbz.drew, H2.out.call hbz.drew, hob, ⟨row, hgr, HMZ.out⟩, by omega, by have := HS0.out; omega, by have := HS0.out; omega⟩
    have HCP := hid_mk hcp
    have HBZ := hid_mk hbz.drew
    clear hbz hob hgr hcp
    refine planWp_skip rfl (w' := ((((W0.alloc (.cells row 38)).alloc (.cells #[.slice none 0 0, .int .i64 0] 24)).setCell ⟨(W0.heap.size + 1), 0, none⟩ (.slice (some ⟨W0.heap.size, 0, none⟩) s.tens.length s.tens.length)).setCell ⟨(W0.heap.size + 1), 1, none⟩ (.int .i64 s.serial)).drew) (by go_simp) (meets_mk HBZ.out) ?_
    exact planWp_tail (HREST.out (W0.heap.size + 1) W0.heap.size ((((W0.alloc (.cells row 38)).alloc (.cells #[.slice none 0 0, .int .i64 0] 24)).setCell ⟨(W0.heap.size + 1), 0, none⟩ (.slice (some ⟨W0.heap.size, 0, none⟩) s.tens.length s.tens.length)).setCell ⟨(W0.heap.size + 1), 1, none⟩ (.int .i64 s.serial)).drew HCP.out HBZ.out)
  · refine planWp_value (.pointer (some ⟨W0.heap.size, 0, none⟩)) rfl (w' := (W0.alloc (.cells #[.slice none 0 0, .int .i64 0] 24)).drew) (by go_simp) (meets_mk ((Below.refl _ _).alloc (Nat.le_refl _) _).drew) ?_
    refine planWp_value (.slice (some ⟨W0.heap.size + 1, 0, none⟩) s.tens.length s.tens.length) rfl (w' := ((W0.alloc (.cells #[.slice none 0 0, .int .i64 0] 24)).alloc (.cells row 38)).drew) (by go_simp) (meets_mk (((Below.refl _ _).alloc (Nat.le_refl _) _).alloc (by simp) _).drew) ?_
    (repeat (refine planWp_read (fun K hK => ?_); go_simp; (first | (refine hK _ ?_; clear hK K) | (apply Exists.intro; refine ⟨fun _ => rfl, hK _ ?_⟩; clear hK K))))
    have hbz : Below W0.heap.size W0 ((((W0.alloc (.cells #[.slice none 0 0, .int .i64 0] 24)).alloc (.cells row 38)).setCell ⟨W0.heap.size, 0, none⟩ (.slice (some ⟨(W0.heap.size + 1), 0, none⟩) s.tens.length s.tens.length)).setCell ⟨W0.heap.size, 1, none⟩ (.int .i64 s.serial)) := (by repeat (first | with_reducible exact Below.refl _ _ | with_reducible assumption | with_reducible refine Below.setCell ?_ (by first | omega | (dsimp only; omega) | (simp <;> omega)) _ | with_reducible refine Below.alloc ?_ (by first | omega | (simp <;> omega)) _ | with_reducible refine below_drewN ?_ _ | with_reducible refine Below.drew ?_))
    have hob : Blk ((((W0.alloc (.cells #[.slice none 0 0, .int .i64 0] 24)).alloc (.cells row 38)).setCell ⟨W0.heap.size, 0, none⟩ (.slice (some ⟨(W0.heap.size + 1), 0, none⟩) s.tens.length s.tens.length)).setCell ⟨W0.heap.size, 1, none⟩ (.int .i64 s.serial)) W0.heap.size #[.slice (some ⟨(W0.heap.size + 1), 0, none⟩) s.tens.length s.tens.length, .int .i64 s.serial] 24 := (((show Blk ((W0.alloc (.cells #[.slice none 0 0, .int .i64 0] 24)).alloc (.cells row 38)) W0.heap.size #[.slice none 0 0, .int .i64 0] 24 from by first | exact blk_new (by simp) | exact (blk_new (by simp)).alloc _).put 0 _).put 1 _).is (by simp)
    have hgr : ((((W0.alloc (.cells #[.slice none 0 0, .int .i64 0] 24)).alloc (.cells row 38)).setCell ⟨W0.heap.size, 0, none⟩ (.slice (some ⟨(W0.heap.size + 1), 0, none⟩) s.tens.length s.tens.length)).setCell ⟨W0.heap.size, 1, none⟩ (.int .i64 s.serial)).heap[(W0.heap.size + 1)]? = some (.cells row 38 (0, 0)) := by
      have h : Blk ((((W0.alloc (.cells #[.slice none 0 0, .int .i64 0] 24)).alloc (.cells row 38)).setCell ⟨W0.heap.size, 0, none⟩ (.slice (some ⟨(W0.heap.size + 1), 0, none⟩) s.tens.length s.tens.length)).setCell ⟨W0.heap.size, 1, none⟩ (.int .i64 s.serial)) (W0.heap.size + 1) row 38 := ((show Blk ((W0.alloc (.cells #[.slice none 0 0, .int .i64 0] 24)).alloc (.cells row 38)) (W0.heap.size + 1) row 38 from by first | exact blk_new (by simp) | exact (blk_new (by simp)).alloc _).far (by show (W0.heap.size + 1) ≠ W0.heap.size; omega) _).far (by show (W0.heap.size + 1) ≠ W0.heap.size; omega) _
      exact h
    have hcp : Cp0 s A c w W0.heap.size (W0.heap.size + 1) ((((W0.alloc (.cells #[.slice none 0 0, .int .i64 0] 24)).alloc (.cells row 38)).setCell ⟨W0.heap.size, 0, none⟩ (.slice (some ⟨(W0.heap.size + 1), 0, none⟩) s.tens.length s.tens.length)).setCell ⟨W0.heap.size, 1, none⟩ (.int .i64 s.serial)).drew := ⟨(HB0.out.trans (hbz.mono HB0.out.size)).drew, H1.out.call hbz.drew, H2.out.call hbz.drew, hob, ⟨row, hgr, HMZ.out⟩, by omega, by have := HS0.out; omega, by have := HS0.out; omega⟩
    have HCP := hid_mk hcp
    have HBZ := hid_mk hbz.drew
    clear hbz hob hgr hcp
    refine planWp_skip rfl (w' := ((((W0.alloc (.cells #[.slice none 0 0, .int .i64 0] 24)).alloc (.cells row 38)).setCell ⟨W0.heap.size, 0, none⟩ (.slice (some ⟨(W0.heap.size + 1), 0, none⟩) s.tens.length s.tens.length)).setCell ⟨W0.heap.size, 1, none⟩ (.int .i64 s.serial)).drew) (by go_simp) (meets_mk HBZ.out) ?_
    exact planWp_tail (HREST.out W0.heap.size (W0.heap.size + 1) ((((W0.alloc (.cells #[.slice none 0 0, .int .i64 0] 24)).alloc (.cells row 38)).setCell ⟨W0.heap.size, 0, none⟩ (.slice (some ⟨(W0.heap.size + 1), 0, none⟩) s.tens.length s.tens.length)).setCell ⟨W0.heap.size, 1, none⟩ (.int .i64 s.serial)).drew HCP.out HBZ.out)
end Go.Proofs.Ytgcgilcalmefgaa
