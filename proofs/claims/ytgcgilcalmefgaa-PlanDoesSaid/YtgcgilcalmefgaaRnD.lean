/- Walks: slices.Delete of one key, slices.Clone of keys. -/
import Derived.Test.YtgcgilcalmefgaaRnI
namespace Go.Proofs.Ytgcgilcalmefgaa
open Go Go.RowKit Go.Sort
set_option maxRecDepth 100000
set_option linter.unusedSimpArgs false
set_option linter.unusedVariables false
set_option maxHeartbeats 4000000
theorem del_cells {α : Type} (L N : List α) (a z : Nat) (Z : List α) (hl : a + N.length + Z.length ≤ L.length) :
    (((L.take a ++ N ++ L.drop (a + N.length)).toArray.toList.take (a + N.length) ++ Z ++ (L.take a ++ N ++ L.drop (a + N.length)).toArray.toList.drop (a + N.length + Z.length))).toArray.toList.take (a + N.length) = L.take a ++ N := by
  have h1 : (L.take a ++ N).length = a + N.length := by rw [List.length_append, List.length_take]; omega
  have h2 : (L.take a ++ N ++ L.drop (a + N.length)).take (a + N.length) = L.take a ++ N := by
    rw [List.take_append_of_le_length (by omega), List.take_of_length_le (by omega)]
  simp only [h2]
  rw [List.append_assoc, List.take_append_of_le_length (by omega), List.take_of_length_le (by omega)]
theorem wpList_clear_to {P : Program} {w : World} {ops : Array Oper} {rest : List Oper} {o : Oper} {a : Act} {Q : Exit → Act → World → Prop} (hgd : o.guard = none) (s : Operand) (t : TypeId)
    (ho : o.op = .call { callee := .builtin .clear, args := #[s], argTypes := #[t] }) (e : TypeId) (z : Value) (ht : P.underlying t = some (.slice e)) (hv : ∀ w, (zeroValue e).run P w = .ok z w) (g off n c : Nat) (hn : 0 < n) (hs : a.eval s = .slice (some ⟨g, off, none⟩) n c)
    (cur : Array Value) (te : TypeId) (hg : w.heap[g]? = some (.cells cur te (0, 0))) (Z : List Value) (hZ : (Builtin.zeroCells z.cells n).toList = Z) (hfit : off + Z.length ≤ cur.size) (h1 : ∀ v ∈ Z, v.oneCell' = true)
    (c2 : Array Value) (hc2 : c2 = (cur.toList.take off ++ Z ++ cur.toList.drop (off + Z.length)).toArray) (h : wpList P ops Q rest (a.put o.dst (.tuple #[])) (w.setRow g c2)) : wpList P ops Q (o :: rest) a w := by
  subst hc2 hZ
  have hl : (Builtin.zeroCells z.cells n).toList.length = n * z.cells.size := by rw [Array.length_toList]; exact size_zeroCells _ _
  rw [hl] at hfit h
  exact wpList_clear_size hgd s t ho e z ht hv g off n c hn hs cur te hg hfit h1 h
theorem key_zero : ∀ w, (zeroValue 44).run Try.prog w = .ok (.agg #[.int .i64 0, .string ByteArray.empty]) w := fun w => by kernel_rfl
theorem delK_any (g n cap i base : Nat) (xs : List Value) (w : World) (hown : w.ownsRow base 44 2 (.slice (some ⟨g, 0, none⟩) n cap) n xs) (hi : i < n) (hn : n ≤ 1000) (h1x : ∀ u ∈ xs, u.oneCell' = true) :
    Calls Try.prog 68 #[.slice (some ⟨g, 0, none⟩) n cap, .int .i64 i, .int .i64 ((i : Int) + 1)] w fun e w' =>
      e = .returned (.slice (some ⟨g, 0, none⟩) (n - 1) cap) ∧ w'.ownsRow base 44 2 (.slice (some ⟨g, 0, none⟩) (n - 1) cap) (n - 1) (xs.take (i * 2) ++ xs.drop ((i + 1) * 2)) ∧ w.grownBy w' (some g) := by
  obtain ⟨i0, hi0, hz0, hzs, hzb⟩ := info_parts key_info
  have hxl := hown.1
  obtain ⟨cur, hbg, hg, hnc, hcm, hcs, hct⟩ : ∃ cur : Array Value, base ≤ g ∧ w.heap[g]? = some (.cells cur 44 (0, 0)) ∧ n ≤ cap ∧ cap ≤ maxLen ∧ cur.size = cap * 2 ∧ cur.toList.take (n * 2) = xs := by
    rcases hown.2 with ⟨h, _⟩ | ⟨g', cap', cur, h, h1, h2, h3, h4, h5, h6⟩
    · simp at h
    · simp only [Value.slice.injEq, Option.some.injEq, Addr.mk.injEq, and_true, true_and] at h
      obtain ⟨rfl, rfl⟩ := h
      exact ⟨cur, h1, h2, h3, h4, h5, h6⟩
  obtain ⟨X, hX⟩ : ∃ X, X = xs.drop ((i + 1) * 2) := ⟨_, rfl⟩
  have hXl : X.length = (n - (i + 1)) * 2 := by rw [hX, List.length_drop, hxl, Nat.sub_mul]
  have hX1 : ∀ u ∈ X, u.oneCell' = true := fun u hu => h1x u (by rw [hX] at hu; exact List.mem_of_mem_drop hu)
  have hXc : ∀ j u, X[j]? = some u → cur[(i + 1) * 2 + j]? = some u := fun j u hj => by
    rw [hX, ← hct, List.getElem?_drop, List.getElem?_take] at hj
    split at hj
    · simpa using hj
    · cases hj
  obtain ⟨B, hB, hsrc⟩ : ∃ B : Addr, (if cap = i + 1 then some (⟨g, 0, none⟩ : Addr) else some ⟨g, (i + 1) * 2, none⟩) = some B ∧ Hid (∀ j u, X[j]? = some u → w.cell? (B.add j) = some u) := by
    by_cases h : cap = i + 1
    · refine ⟨⟨g, 0, none⟩, by simp [h], hid_mk (fun t u hu => ?_)⟩
      have h0 : X.length = 0 := by rw [hXl]; omega
      rw [List.length_eq_zero_iff.1 h0] at hu
      simp at hu
    · refine ⟨⟨g, (i + 1) * 2, none⟩, by simp [h], hid_mk (fun t u hu => ?_)⟩
      rw [addr_off]; simp only [World.cell?, hg]
      exact hXc t u hu
  have HX := hid_mk hX
  have HXL := hid_mk hXl
  have HX1 := hid_mk hX1
  have HG := hid_mk hg
  have HCUR := hid_mk hcs
  have HCM := hid_mk hcm
  have HCT := hid_mk hct
  have HXS := hid_mk hxl
  unfold maxLen at hcm
  have hw1 : (i : Int) + 1 ≤ (n : Int) := by omega
  have hw2 : (0 : Int) ≤ (i : Int) + 1 := by omega
  have hw3 : ¬ ((i : Int) = (i : Int) + 1) := by omega
  have hw4 : (n : Int) ≤ (cap : Int) := by omega
  have hw5 : (i : Int) ≤ (i : Int) + 1 := by omega
  have hw6 : (i : Int) ≤ (n : Int) := by omega
  have hw7 : (i : Int) ≤ (cap : Int) := by omega
  have htn : ((i : Int) + 1).toNat = i + 1 := by omega
  have hci : ¬ (cap = i) := by omega
  have hm : i + (n - (i + 1)) = n - 1 := by omega
  have hm1 : ¬ (cap = n - 1) := by omega
  have hm2 : ((n - 1 : Nat) : Int) ≤ (n : Int) := by omega
  have hm4 : n - (n - 1) = 1 := by omega
  clear hown h1x hX hXl hX1 hXc hg hcs hct hxl
  go_enter Try.func68, Try.ntmps68
  go_wp2_with fail
  (refine region_below_tail 6 (by kernel_rfl) (by kernel_rfl) ?_; simp only [List.take_succ_cons, List.take_zero, List.drop_succ_cons, List.drop_zero]; (repeat (quiet_step (fail))); refine wpQuiet_nil ?_; intro _ hw'; obtain ⟨⟨nq, osq⟩, hw''⟩ := hw'; subst hw'')
  have hvb := below_regrown w nq osq
  have HBV := hid_mk hvb
  have hgw : g < w.heap.size := (Array.getElem?_eq_some_iff.1 HG.out).1
  have HGV := hid_mk ((hvb.block g hgw).trans HG.out)
  have HSV : Hid (∀ j u, X[j]? = some u → (grow (redrawn w nq) osq).cell? (B.add j) = some u) := hid_mk (fun j u hj => by
    have h := hsrc.out j u hj
    have hb := block_lt_of_cell h
    exact (hvb.cell hb).trans h)
  clear hvb hsrc
  generalize grow (redrawn w nq) osq = V at *
  have hroom : i + (n - (i + 1)) ≤ cap := by omega
  have hrun : ∀ ty, (Builtin.append_ #[36, 36] ty #[.slice (some ⟨g, 0, none⟩) i cap, .slice (some B) (n - (i + 1)) (cap - (i + 1))]).run Try.prog V = .ok (.slice (some ⟨g, 0, none⟩) (n - 1) cap) (V.setRow g (cur.toList.take (i * 2) ++ X ++ cur.toList.drop (i * 2 + X.length)).toArray) := fun ty => by
    have h := run_append_room (P := Try.prog) V 36 ty 44 i0 Try.underlying36 hi0 g i cap cur HGV.out B (n - (i + 1)) (cap - (i + 1)) X (by rw [hzs]; exact HXL.out) HSV.out HX1.out hroom (by rw [hzs, HXL.out, HCUR.out, ← Nat.add_mul]; exact Nat.mul_le_mul_right _ hroom)
    rw [hzs, hm] at h
    exact h
  have HRUN := hid_mk hrun
  clear hrun
  refine wpList_append_run (o := ⟨some 26, _, _, _, _, _⟩) rfl (.tmp 22) (.tmp 25) 36 36 rfl _ _ (by go_simp) (by go_simp) _ _ (HRUN.out _) ?_
  obtain ⟨c1, hc1⟩ : ∃ c1 : Array Value, c1 = (cur.toList.take (i * 2) ++ X ++ cur.toList.drop (i * 2 + X.length)).toArray := ⟨_, rfl⟩
  rw [← hc1]
  have HG1 := hid_mk (setRow_heap V g cur c1 44 _ HGV.out)
  have HB1 := hid_mk (grown_trans (grown_below (row := some g) HBV.out) (grown_setRow V g c1))
  have HC1 := hid_mk hc1
  have HS1 : Hid (c1.size = cap * 2) := hid_mk (by
    rw [hc1]; simp; rw [HCUR.out, HXL.out]; omega)
  clear hc1
  generalize V.setRow g c1 = V1 at *
  obtain ⟨Z, hZe⟩ : ∃ Z : List Value, Z = [.int .i64 0, .string ByteArray.empty] := ⟨_, rfl⟩
  have hZl : Z.length = 2 := by rw [hZe]; rfl
  obtain ⟨c2, hc2⟩ : ∃ c2 : Array Value, c2 = (c1.toList.take ((n - 1) * 2) ++ Z ++ c1.toList.drop ((n - 1) * 2 + Z.length)).toArray := ⟨_, rfl⟩
  have HFIT : Hid ((n - 1) * 2 + Z.length ≤ c1.size) := hid_mk (by rw [HS1.out, hZl]; omega)
  have HZ : Hid ((Builtin.zeroCells (Value.agg #[.int .i64 0, .string ByteArray.empty]).cells 1).toList = Z) := hid_mk (by rw [hZe]; kernel_rfl)
  have HZ1 : Hid (∀ v ∈ Z, v.oneCell' = true) := hid_mk (by rw [hZe]; intro v hv; simp at hv; rcases hv with rfl | rfl <;> rfl)
  have HC2 := hid_mk hc2
  have HR : Hid (w.grownBy (V1.setRow g c2) (some g) ∧ (V1.setRow g c2).ownsRow base 44 2 (.slice (some ⟨g, 0, none⟩) (n - 1) cap) (n - 1) (xs.take (i * 2) ++ X)) := hid_mk (by
    refine ⟨grown_trans HB1.out (grown_setRow V1 g _), ?_, Or.inr ⟨g, cap, c2, rfl, hbg, setRow_heap V1 g c1 c2 44 _ HG1.out, by omega, HCM.out, ?_, ?_⟩⟩
    · rw [List.length_append, List.length_take, HXL.out, HXS.out]; omega
    · rw [hc2]; simp; rw [HS1.out, hZl]; omega
    · have h := del_cells cur.toList X (i * 2) 2 Z (by rw [HXL.out, hZl]; rw [Array.length_toList, HCUR.out]; omega)
      have e1 : i * 2 + X.length = (n - 1) * 2 := by rw [HXL.out]; omega
      rw [e1] at h
      rw [hc2, HC1.out, e1]
      rw [h]
      congr 1
      exact list_take_own HCT.out (by omega))
  clear hc2 hZe
  go_wp2_with (with_reducible refine wpList_clear_to (o := ⟨none, _, _, _, _, _⟩) rfl (.tmp 31) 36 rfl 44 (.agg #[.int .i64 0, .string ByteArray.empty]) Try.underlying36 key_zero g ((n - 1) * 2) 1 (cap - (n - 1)) (by decide) ?_ c1 44 HG1.out Z HZ.out HFIT.out HZ1.out c2 HC2.out ?_)
  · rfl
  rw [HX.out] at HR
  go_ret
  exact ⟨rfl, HR.out.2, HR.out.1⟩
/-- a copy of a row of keys: a row of one's own -/
def CloneP (ks : List Rn.K) (base : Nat) (w : World) (e : Ending) (w' : World) : Prop :=
  ∃ v, e = .returned v ∧ w'.ownsRow base 44 2 v ks.length (ks.flatMap keyV) ∧ Below w.heap.size w w'
theorem keys_row {G : Nat → Prop} {w : World} {b o : Nat} {ks : List Rn.K} (h : KeysAt G w (some ⟨b, o, none⟩) ks) : ∀ j u, (ks.flatMap keyV)[j]? = some u → w.cell? ((⟨b, o, none⟩ : Addr).add j) = some u := by
  intro j u hj
  obtain ⟨k, r, hk, rfl, hr⟩ := flat_at (n := 2) (row := keyV) (fun x => rfl) ks j u hj
  obtain ⟨b', o', cs, e1, -, hR, hc⟩ := rows_at h hk
  cases e1
  rw [addr_off, ← Nat.add_assoc]
  exact hc r u (by rw [hR.1]; exact hr)
theorem clone_any (ks : List Rn.K) (A : Option Addr) (c : Nat) (G : Nat → Prop) (w : World) (base : Nat) (hG : ∀ b, G b → b < w.heap.size) (hb : base ≤ w.heap.size) (hl : ks.length ≤ 1000) (hfit : Fits A ks.length c) (hT : KeysAt G w A ks) :
    Calls Try.prog 55 #[.slice A ks.length c] w (CloneP ks base w) := by
  have q22 : ∀ (w : World) (a : Option Addr) (n c n' c' : Nat), (binOp .eql 36 (.slice a n c) (.slice none n' c')).run Try.prog w = .ok (.bool a.isNone) w := fun w a n c n' c' => Lib.run_eql_slice_nil w _ _ a n c n' c' Try.underlying36
  obtain ⟨i0, hi0, hz0, hz1, hz2⟩ := info_parts key_info
  cases A with
  | none =>
    obtain ⟨h1, h2⟩ := hfit
    obtain rfl := h2 rfl
    have h0 : ks = [] := List.eq_nil_of_length_eq_zero (by omega)
    subst h0
    have HR : Hid (CloneP [] base w (.returned (.slice none 0 0)) w) := hid_mk ⟨_, rfl, World.ownsRow_nil _ _ _ _, Below.refl _ _⟩
    go_enter Try.func55, Try.ntmps55
    go_wp2
    go_ret
    exact HR.out
  | some a =>
    have hnews : Hid (∀ j u, (ks.flatMap keyV)[j]? = some u → (w.alloc (.cells #[] 44)).cell? (a.add j) = some u) := hid_mk (fun j u hj => by
      cases ks with
      | nil => simp at hj
      | cons x r =>
        obtain ⟨b, o, e1, hg, -⟩ := hT (by simp)
        cases e1
        have h := keys_row hT j u hj
        rw [addr_off] at h ⊢
        rw [World.cell?_alloc_past _ _ _ (hG b hg)]
        exact h)
    have hnl : Hid ((ks.flatMap keyV).length = ks.length * 2) := hid_mk (by
      clear hT hl hfit hnews
      induction ks with
      | nil => rfl
      | cons x r ih => rw [List.flatMap_cons, List.length_append, ih, List.length_cons, Nat.succ_mul]; show 2 + _ = _; omega)
    have H1 : Hid (∀ u ∈ ks.flatMap keyV, u.oneCell' = true) := hid_mk (fun u hu => by
      rw [List.mem_flatMap] at hu
      obtain ⟨x, -, hx⟩ := hu
      simp [keyV] at hx
      rcases hx with rfl | rfl <;> rfl)
    have HO : Hid ((w.alloc (.cells #[] 44)).ownsRow base 44 2 (.slice (some ⟨w.heap.size, 0, none⟩) 0 0) 0 []) := hid_mk (World.ownsRow_lit w #[] 0 hb (Nat.zero_le _) rfl)
    have HEND : Hid (∀ v' w', w'.ownsRow base 44 2 v' ks.length (ks.flatMap keyV) → (w.alloc (.cells #[] 44)).grownBy w' (some w.heap.size) → CloneP ks base w (.returned v') w') := hid_mk (fun v' w' h1 h2 => ⟨v', rfl, h1, ((Below.refl w.heap.size w).alloc (Nat.le_refl _) _).grown h2 (by simp) (fun k e => by cases e; exact Nat.le_refl _)⟩)
    have hbs : base ≤ w.heap.size + 1 := by omega
    clear hT hG hfit
    go_enter Try.func55, Try.ntmps55
    go_wp2_with (at_builtin; refine wpList_append_own_at _ rfl _ _ 36 rfl base 44 i0 _ 2 24 Try.underlying36 hi0 hz0 hz1 hz2 rfl (by decide) _ _ [] rfl HO.out a ks.length c (ks.flatMap keyV) rfl ?_ ?_ ?_ ?_ ?_ ?_ ?_)
    any_goals (first | exact hnl.out | exact hnews.out | exact H1.out | (unfold maxLen; omega) | omega | (simp; omega))
    intro v' w' hown' hgr hnil hat
    have HR := hid_mk (HEND.out v' w' hown' hgr)
    clear hown' hgr hnil hat
    go_wp2
    go_ret
    exact HR.out
end Go.Proofs.Ytgcgilcalmefgaa
