/- Walks: slices.Insert of one more, at keys and at tenants: in place, or in a new row. -/
import Derived.Test.YtgcgilcalmefgaaCpy
import Derived.Test.YtgcgilcalmefgaaRnZ
import Derived.Test.YtgcgilcalmefgaaRnX
namespace Go.Proofs.Ytgcgilcalmefgaa
open Go Go.RowKit Go.Sort
set_option maxRecDepth 100000
set_option linter.unusedSimpArgs false
set_option linter.unusedVariables false
set_option maxHeartbeats 4000000
/-- a row of one's own, with one more at a place -/
def InsPost (base : Nat) (E : TypeId) (z : Nat) (v : Value) (n i : Nat) (xs news : List Value) (w : World) (e : Ending) (w' : World) : Prop :=
  ∃ v', e = .returned v' ∧ w'.ownsRow base E z v' (n + 1) (xs.take (i * z) ++ news ++ xs.drop (i * z)) ∧ w.grownBy w' v.ownBlock ∧ (v'.ownBlock = v.ownBlock ∨ v'.ownBlock = some w.heap.size)
theorem list_take_own {α : Type} {l : List α} {k : Nat} {xs : List α} (h : l.take k = xs) {j : Nat} (hj : j ≤ k) : l.take j = xs.take j := by
  subst h; rw [List.take_take, Nat.min_eq_left hj]
theorem ins_cells {α : Type} (L N X : List α) (a z x : Nat) (hN : N.length = z) (hX : X.length = x) (hl : a + (z + x) ≤ L.length) :
    ((((L.take (a + z) ++ X ++ L.drop (a + z + X.length)).toArray.toList.take a ++ N ++ (L.take (a + z) ++ X ++ L.drop (a + z + X.length)).toArray.toList.drop (a + N.length))).toArray.toList.take (a + (z + x))) = L.take a ++ N ++ X := by
  subst hN hX
  have h1 : (L.take (a + N.length)).length = a + N.length := by rw [List.length_take]; omega
  have h2 : (L.take (a + N.length) ++ X ++ L.drop (a + N.length + X.length)).take a = L.take a := by
    rw [List.append_assoc, List.take_append_of_le_length (by omega), List.take_take]; congr 1; omega
  have h3 : (L.take (a + N.length) ++ X ++ L.drop (a + N.length + X.length)).drop (a + N.length) = X ++ L.drop (a + N.length + X.length) := by
    rw [List.append_assoc, List.drop_append_of_le_length (by omega), List.drop_eq_nil_of_le (by omega)]; rfl
  simp only [h2, h3]
  have h4 : (L.take a ++ N ++ X).length = a + (N.length + X.length) := by simp; omega
  rw [← List.append_assoc, List.take_append_of_le_length (by omega), List.take_of_length_le (by omega)]
theorem grow_cells {α : Type} (L N X : List α) (a z x : Nat) (hN : N.length = z) (hX : X.length = x) (hl : a + (z + x) ≤ L.length) :
    (((L.take a ++ N ++ L.drop (a + N.length)).toArray.toList.take (a + z) ++ X ++ (L.take a ++ N ++ L.drop (a + N.length)).toArray.toList.drop (a + z + X.length))).toArray.toList.take (a + (z + x)) = L.take a ++ N ++ X := by
  subst hN hX
  have h1 : (L.take a ++ N).length = a + N.length := by rw [List.length_append, List.length_take]; omega
  have h2 : (L.take a ++ N ++ L.drop (a + N.length)).take (a + N.length) = L.take a ++ N := by
    rw [List.take_append_of_le_length (by omega), List.take_of_length_le (by omega)]
  simp only [h2]
  have h4 : (L.take a ++ N ++ X).length = a + (N.length + X.length) := by simp; omega
  rw [List.take_append_of_le_length (by omega), List.take_of_length_le (by omega)]


theorem insK_end (v : Value) (n : Nat) (xs news : List Value) (vb base : Nat) (w : World) (hown : w.ownsRow base 44 2 v n xs) (hn : n ≤ 1000) (hnl : news.length = 2) (h1n : ∀ u ∈ news, u.oneCell' = true)
    (hvb : w.heap[vb]? = some (.cells news.toArray 44 (0, 0))) (hbase : base ≤ w.heap.size) :
    Calls Try.prog 69 #[v, .int .i64 n, .slice (some ⟨vb, 0, none⟩) 1 1] w (InsPost base 44 2 v n n xs news w) := by
  obtain ⟨i0, hi0, hz0, hz1, hz2⟩ := info_parts key_info
  have hnews : Hid (∀ j u, news[j]? = some u → w.cell? ((⟨vb, 0, none⟩ : Addr).add j) = some u) := hid_mk (fun j u hj => by
    rw [addr_off, Nat.zero_add]; simp [World.cell?, hvb]; exact hj)
  have H1 := hid_mk h1n
  have HNL := hid_mk hnl
  have hxl := hown.1
  have HEND : Hid (∀ v' w', w'.ownsRow base 44 2 v' (n + 1) (xs ++ news) → w.grownBy w' v.ownBlock → (v'.ownBlock = v.ownBlock ∨ v'.ownBlock = some w.heap.size) → InsPost base 44 2 v n n xs news w (.returned v') w') := hid_mk (fun v' w' h1 h2 h3 => ⟨v', rfl, by rw [List.take_of_length_le (by omega), List.drop_eq_nil_of_le (by omega), List.append_nil]; exact h1, h2, h3⟩)
  have HO := hid_mk hown
  have hfrm := hown.2
  clear hown h1n hnl hvb hxl
  rcases hfrm with ⟨rfl, h0⟩ | ⟨g, cap, cur, rfl, -, -, hnc, hcm, -⟩
  · subst h0
    go_enter Try.func69, Try.ntmps69
    go_wp2_with (at_builtin; refine wpList_append_own_at _ rfl _ _ 36 rfl base 44 i0 _ 2 24 Try.underlying36 hi0 hz0 hz1 hz2 rfl (by decide) _ _ xs rfl HO.out ⟨vb, 0, none⟩ 1 1 news rfl ?_ ?_ ?_ ?_ ?_ ?_ ?_)
    any_goals (first | exact HNL.out | exact hnews.out | exact H1.out | (unfold maxLen; omega) | omega)
    intro v' w' hown' hgr hnil hat
    have HR := hid_mk (HEND.out v' w' hown' hgr hat)
    clear hown' hgr hnil hat
    go_wp2
    go_ret
    exact HR.out
  · unfold maxLen at hcm
    have hnci : (n : Int) ≤ (cap : Int) := by omega
    have hni : (0 : Int) ≤ (n : Int) := by omega
    by_cases hc : cap = n
    all_goals
      go_enter Try.func69, Try.ntmps69
      go_wp2_with (at_builtin; refine wpList_append_own_at _ rfl _ _ 36 rfl base 44 i0 _ 2 24 Try.underlying36 hi0 hz0 hz1 hz2 rfl (by decide) _ _ xs rfl HO.out ⟨vb, 0, none⟩ 1 1 news rfl ?_ ?_ ?_ ?_ ?_ ?_ ?_)
      any_goals (first | exact HNL.out | exact hnews.out | exact H1.out | (unfold maxLen; omega) | omega)
      intro v' w' hown' hgr hnil hat
      have HR := hid_mk (HEND.out v' w' hown' hgr hat)
      clear hown' hgr hnil hat
      go_wp2
      go_ret
      exact HR.out

theorem insK_room (g n cap i vb : Nat) (cur : Array Value) (news : List Value) (w : World) (hg : w.heap[g]? = some (.cells cur 44 (0, 0))) (hcur : cur.size = cap * 2) (hi : i < n) (hroom : n + 1 ≤ cap) (hcm : cap ≤ 9223372036854775807) (hn : n ≤ 1000) (hnl : news.length = 2) (h1n : ∀ u ∈ news, u.oneCell' = true)
    (hvb : w.heap[vb]? = some (.cells news.toArray 44 (0, 0))) (hne : vb ≠ g) (h1x : ∀ u ∈ cur.toList.take (n * 2), u.oneCell' = true) :
    Calls Try.prog 69 #[.slice (some ⟨g, 0, none⟩) n cap, .int .i64 i, .slice (some ⟨vb, 0, none⟩) 1 1] w fun e w' => e = .returned (.slice (some ⟨g, 0, none⟩) (n + 1) cap) ∧
      ∃ cur' : Array Value, w'.heap[g]? = some (.cells cur' 44 (0, 0)) ∧ cur'.size = cap * 2 ∧ cur'.toList.take ((n + 1) * 2) = cur.toList.take (i * 2) ++ news ++ (cur.toList.take (n * 2)).drop (i * 2) ∧ w.grownBy w' (some g) := by
  have hsz : (Try.prog.info? 44).map (·.size) = some 2 := by kernel_rfl
  have hov : ∀ lb cb o, (callFunc 75 #[.slice (some ⟨vb, 0, none⟩) 1 1, .slice (some ⟨g, o, none⟩) lb cb]).run Try.prog w = .ok (.value (.bool false)) w := fun lb cb o => by
    rw [run_callFunc_extern (P := Try.prog) (fn := Try.f75) (by kernel_rfl) (by kernel_rfl) (by kernel_rfl) (by kernel_rfl) (e := Extern.SlicesOverlaps.overlaps #[36, 36] #[4]) (by kernel_rfl),
      Lib.run_overlaps_apart w 36 4 44 Try.underlying36 2 (fun w => by kernel_rfl) ⟨vb, 0, none⟩ ⟨g, o, none⟩ 1 1 lb cb hne 44 44 news.toArray.size cur.size (by simp [World.shape?, hvb]) (by simp [World.shape?, hg]) (by omega) (by simp [World.frozen?, hvb]) (by simp [World.frozen?, hvb])]
    rfl
  obtain ⟨X, hX⟩ : ∃ X, X = (cur.toList.take (n * 2)).drop (i * 2) := ⟨_, rfl⟩
  have hXl : X.length = (n - i) * 2 := by rw [hX]; simp; rw [Nat.sub_mul]; rw [hcur]; rw [Nat.min_eq_left (Nat.mul_le_mul_right _ (by omega))]
  have hX1 : ∀ u ∈ X, u.oneCell' = true := fun u hu => h1x u (by rw [hX] at hu; exact List.mem_of_mem_drop hu)
  have hXc : ∀ j u, X[j]? = some u → cur[i * 2 + j]? = some u := fun j u hj => by
    rw [hX, List.getElem?_drop, List.getElem?_take] at hj
    split at hj
    · simpa using hj
    · cases hj
  have HX := hid_mk hX
  have HXL := hid_mk hXl
  have HX1 := hid_mk hX1
  have HXC := hid_mk hXc
  have HG := hid_mk hg
  have HVB := hid_mk hvb
  have HCUR := hid_mk hcur
  have HNL := hid_mk hnl
  have H1N := hid_mk h1n
  have hz1 : ¬ ((1 : Int) = 0) := by decide
  have hz2 : ¬ ((i : Int) = (n : Int)) := by omega
  have hz3 : ¬ ((cap : Int) < (n : Int) + 1) := by omega
  have hw1 : IntKind.i64.wrap ((i : Int) + 1) = (i : Int) + 1 := by rw [IntKind.wrap_i64]; omega
  have hw2 : IntKind.i64.wrap ((n : Int) + 1) = (n : Int) + 1 := by rw [IntKind.wrap_i64]; omega
  have hb1 : (0 : Int) ≤ (i : Int) + 1 := by omega
  have hb5 : (0 : Int) ≤ (n : Int) + 1 := by omega
  have hin : i ≤ n := by omega
  have htn : ((i : Int) + 1).toNat = i + 1 := by omega
  have htn2 : ((n : Int) + 1).toNat = n + 1 := by omega
  have hb2 : ¬ (cap = i + 1) := by omega
  have hb3 : (i : Int) ≤ (n : Int) + 1 := by omega
  have hb4 : ¬ (cap = i) := by omega
  have hb6 : (n : Int) + 1 ≤ (cap : Int) := by omega
  have hb7 : (i : Int) + 1 ≤ (n : Int) + 1 := by omega
  have hb8 : (i : Int) ≤ (n : Int) := by omega
  clear hX hXl hX1 hXc hg hvb hcur hnl h1n h1x
  go_enter Try.func69, Try.ntmps69
  go_wp2_with fail
  (refine region_below_tail 8 (by kernel_rfl) (by kernel_rfl) ?_; simp only [List.take_succ_cons, List.take_zero, List.drop_succ_cons, List.drop_zero]; (repeat (quiet_step (fail))); refine wpQuiet_nil ?_; intro _ hw'; obtain ⟨⟨nq, osq⟩, hw''⟩ := hw'; subst hw'')
  have hvb := below_regrown w nq osq
  have HBV := hid_mk hvb
  have HGV := hid_mk ((hvb.block g (by have := (Array.getElem?_eq_some_iff.1 HG.out).1; exact this)).trans HG.out)
  have HVV := hid_mk ((hvb.block vb (by have := (Array.getElem?_eq_some_iff.1 HVB.out).1; exact this)).trans HVB.out)
  clear hvb
  generalize grow (redrawn w nq) osq = V at *
  have hmul : ∀ a b : Nat, a ≤ b → a * 2 ≤ b * 2 := fun a b h => Nat.mul_le_mul_right _ h
  refine wpList_copy_size (o := ⟨some 77, _, _, _, _, _⟩) rfl (.tmp 73) (.tmp 76) 36 36 rfl 44 2 Try.underlying36 hsz g ((i + 1) * 2) (n + 1 - (i + 1)) (cap - (i + 1)) ⟨g, i * 2, none⟩ (n + 1 - i) (cap - i) (by go_simp) (by go_simp) cur 44 HGV.out X ?_ ?_ ?_ HX1.out ?_
  · rw [HXL.out]; congr 1; show _ = min _ _; omega
  · intro j u hj
    rw [addr_off]; simp only [World.cell?, HGV.out]
    exact HXC.out j u hj
  · rw [HXL.out, HCUR.out]; have := hmul (n + 1) cap hroom; have e : (i + 1) * 2 + (n - i) * 2 = (n + 1) * 2 := by rw [← Nat.add_mul]; congr 1; omega
    omega
  obtain ⟨c1, hc1⟩ : ∃ c1 : Array Value, c1 = (cur.toList.take ((i + 1) * 2) ++ X ++ cur.toList.drop ((i + 1) * 2 + X.length)).toArray := ⟨_, rfl⟩
  rw [← hc1]
  have HG1 := hid_mk (setRow_heap V g cur c1 44 _ HGV.out)
  have HV1 := hid_mk ((setRow_other V g c1 hne).trans HVV.out)
  have HB1 := hid_mk (grown_trans (grown_below (row := some g) HBV.out) (grown_setRow V g c1))
  have HC1 := hid_mk hc1
  have HS1 : Hid (c1.size = cap * 2) := hid_mk (by
    rw [hc1]; simp; rw [HCUR.out, HXL.out]; have := hmul (n + 1) cap hroom; have e : (i + 1) * 2 + (n - i) * 2 = (n + 1) * 2 := by rw [← Nat.add_mul]; congr 1; omega
    omega)
  clear hc1
  generalize V.setRow g c1 = V1 at *
  go_wp2_with (with_reducible refine wpList_copy_size (o := ⟨some 82, _, _, _, _, _⟩) rfl (.tmp 80) (.tmp 81) 36 36 rfl 44 2 Try.underlying36 hsz g (i * 2) (n + 1 - i) (cap - i) ⟨vb, 0, none⟩ 1 1 ?_ ?_ c1 44 HG1.out news ?_ ?_ ?_ H1N.out ?_)
  · rfl
  · rfl
  · rw [HNL.out]; have : Nat.min 1 (n + 1 - i) = 1 := by show min _ _ = _; omega
    rw [this]
  · intro j u hj
    rw [addr_off]; simp only [World.cell?, HV1.out]
    simpa using hj
  · rw [HNL.out, HS1.out]; have := hmul (n + 1) cap hroom; have := hmul (i + 1) (n + 1) (by omega); rw [Nat.succ_mul] at this; omega
  go_wp2
  go_ret
  refine ⟨rfl, _, setRow_heap V1 g c1 _ 44 _ HG1.out, ?_, ?_, grown_trans HB1.out (grown_setRow V1 g _)⟩
  · simp; rw [HNL.out]; have := HS1.out; have := hmul (n + 1) cap hroom; have := hmul (i + 1) (n + 1) (by omega); rw [Nat.succ_mul] at this; omega
  · rw [← HX.out, HC1.out]
    have hz : (i + 1) * 2 = i * 2 + 2 := Nat.succ_mul _ _
    have hn1 : (n + 1) * 2 = i * 2 + (2 + (n - i) * 2) := by rw [← Nat.add_assoc, ← Nat.succ_mul, ← Nat.add_mul]; congr 1; omega
    have := hmul (n + 1) cap hroom
    rw [hz, hn1]
    have hlen : i * 2 + (2 + (n - i) * 2) ≤ cur.toList.length := by rw [Array.length_toList, HCUR.out, ← hn1]; exact hmul _ _ hroom
    simpa only [List.append_assoc] using ins_cells cur.toList news X (i * 2) 2 ((n - i) * 2) HNL.out HXL.out hlen

theorem insK_grow (g n cap i vb : Nat) (cur : Array Value) (news : List Value) (w : World) (hg : w.heap[g]? = some (.cells cur 44 (0, 0))) (hcur : cur.size = cap * 2) (hi : i < n) (hnc : n ≤ cap) (hroom : cap < n + 1) (hn : n ≤ 1000) (hnl : news.length = 2) (h1n : ∀ u ∈ news, u.oneCell' = true)
    (hvb : w.heap[vb]? = some (.cells news.toArray 44 (0, 0))) (h1x : ∀ u ∈ cur.toList.take (n * 2), u.oneCell' = true) :
    Calls Try.prog 69 #[.slice (some ⟨g, 0, none⟩) n cap, .int .i64 i, .slice (some ⟨vb, 0, none⟩) 1 1] w fun e w' => ∃ G, e = .returned (.slice (some ⟨w.heap.size, 0, none⟩) (n + 1) G) ∧
      ∃ cur' : Array Value, w'.heap[w.heap.size]? = some (.cells cur' 44 (0, 0)) ∧ n + 1 ≤ G ∧ G ≤ maxLen ∧ cur'.size = G * 2 ∧ cur'.toList.take ((n + 1) * 2) = cur.toList.take (i * 2) ++ news ++ (cur.toList.take (n * 2)).drop (i * 2) ∧ Below w.heap.size w w' := by
  obtain ⟨i0, hi0, hz0, hzs, hzb⟩ := info_parts key_info
  have hsz : (Try.prog.info? 44).map (·.size) = some 2 := by kernel_rfl
  have hgw : g < w.heap.size := (Array.getElem?_eq_some_iff.1 hg).1
  have hvw : vb < w.heap.size := (Array.getElem?_eq_some_iff.1 hvb).1
  have hmul : ∀ a b : Nat, a ≤ b → a * 2 ≤ b * 2 := fun a b h => Nat.mul_le_mul_right _ h
  obtain ⟨X, hX⟩ : ∃ X, X = (cur.toList.take (n * 2)).drop (i * 2) := ⟨_, rfl⟩
  obtain ⟨Y, hY⟩ : ∃ Y, Y = cur.toList.take (i * 2) := ⟨_, rfl⟩
  have hYl : Y.length = i * 2 := by rw [hY]; simp; rw [hcur]; exact Nat.min_eq_left (hmul i cap (by omega))
  have hXl : X.length = (n - i) * 2 := by rw [hX]; simp; rw [Nat.sub_mul]; rw [hcur]; rw [Nat.min_eq_left (Nat.mul_le_mul_right _ (by omega))]
  have hX1 : ∀ u ∈ X, u.oneCell' = true := fun u hu => h1x u (by rw [hX] at hu; exact List.mem_of_mem_drop hu)
  have hXc : ∀ j u, X[j]? = some u → cur[i * 2 + j]? = some u := fun j u hj => by
    rw [hX, List.getElem?_drop, List.getElem?_take] at hj
    split at hj
    · simpa using hj
    · cases hj
  have hold : (Builtin.firstCells i0.size i (.slice (some ⟨g, 0, none⟩) i cap)).run Try.prog w.drew = .ok Y.toArray w.drew := by
    rw [hzs]
    exact run_firstCells_some w.drew 2 i ⟨g, 0, none⟩ i cap Y (by rw [hYl]) (fun j v hj => by
      rw [addr_off, Nat.zero_add]
      show w.cell? _ = _
      simp only [World.cell?, hg]
      rw [hY, List.getElem?_take] at hj
      split at hj
      · simpa using hj
      · cases hj)
  have hkk : (n : Int) + 1 - (i : Int) = ((n + 1 - i : Nat) : Int) := by omega
  have hik : i + (n + 1 - i) = n + 1 := by omega
  have hrz : ∀ ty, ∃ G row, n + 1 ≤ G ∧ G ≤ maxLen ∧ row.size = G * 2 ∧ row.toList.take (i * 2) = Y ∧ (Builtin.append_ #[36, 3] ty #[.slice (some ⟨g, 0, none⟩) i cap, .int .i64 ((n : Int) + 1 - (i : Int))]).run Try.prog w =
      .ok (.slice (some ⟨w.heap.size, 0, none⟩) (n + 1) G) (w.drew.alloc (.cells row 44)) := fun ty => by
    have h := Lib.run_append_grow_zeros w 36 3 ty 44 i0 _ .i64 .i64 Try.underlying36 Try.underlying3 hi0 hz0 (some ⟨g, 0, none⟩) i cap Y hold (n + 1 - i) (by omega) (by omega) (by omega) (by omega) (by rw [hzb]; omega) (by rw [hzb, hik]; exact growslice_fits hroom (by omega))
    rw [hik] at h
    rw [hkk]
    have hz : ∀ k, (Builtin.zeroCells (Value.cells (.agg #[.int .i64 0, .string ByteArray.empty])) k).size = k * 2 := fun k => size_zeroCells _ _
    have hge := grownCap_ge w (n + 1) cap 44
    refine ⟨_, _, hge, grownCap_le_maxLen w _ _ _ (by unfold maxLen; omega), ?_, ?_, h⟩
    · rw [Array.size_append, Array.size_append, hz, hz, List.size_toArray, hYl, ← Nat.add_mul, ← Nat.add_mul]; congr 1; omega
    · rw [Array.toList_append, Array.toList_append, List.append_assoc, List.take_append_of_le_length (by rw [List.toList_toArray]; omega), List.take_of_length_le (by rw [List.toList_toArray]; omega)]
  obtain ⟨G, ROW, hGn, hGm, hRs, hRt, hrun⟩ := hrz 36
  have hG63 : G ≤ 9223372036854775807 := by unfold maxLen at hGm; exact hGm
  have HX := hid_mk hX
  have HY := hid_mk hY
  have HXL := hid_mk hXl
  have HX1 := hid_mk hX1
  have HXC := hid_mk hXc
  have HG := hid_mk hg
  have HVB := hid_mk hvb
  have HCUR := hid_mk hcur
  have HNL := hid_mk hnl
  have H1N := hid_mk h1n
  have HRS := hid_mk hRs
  have HRT := hid_mk hRt
  have HGM := hid_mk hGm
  have hz1 : ¬ ((1 : Int) = 0) := by decide
  have hz2 : ¬ ((i : Int) = (n : Int)) := by omega
  have hz3 : (cap : Int) < (n : Int) + 1 := by omega
  have hw1 : IntKind.i64.wrap ((i : Int) + 1) = (i : Int) + 1 := by rw [IntKind.wrap_i64]; omega
  have hb1 : (0 : Int) ≤ (i : Int) + 1 := by omega
  have hin : i ≤ n := by omega
  have htn : ((i : Int) + 1).toNat = i + 1 := by omega
  have hGi : ¬ (G = i) := by omega
  have hGim : ¬ (G = i + 1) := by omega
  have hci : ¬ (cap = i) := by omega
  have hb3 : (i : Int) ≤ (n : Int) := by omega
  have hb7 : (i : Int) + 1 ≤ (n : Int) + 1 := by omega
  have hb8 : (i : Int) ≤ (n : Int) + 1 := by omega
  clear hX hY hYl hXl hX1 hXc hold hkk hg hvb hcur hnl h1n h1x hRs hRt hGm hmul
  go_enter Try.func69, Try.ntmps69
  go_wp2_with (first
    | (at_builtin; refine wpList_append_run rfl _ _ _ _ rfl _ _ rfl rfl _ _ hrun ?_)
    | (with_reducible refine wpList_copy_size (o := ⟨some 45, _, _, _, _, _⟩) rfl (.tmp 43) (.tmp 44) 36 36 rfl 44 2 Try.underlying36 hsz w.heap.size (i * 2) (n + 1 - i) (G - i) ⟨vb, 0, none⟩ 1 1 ?_ ?_ ROW 44 ?_ news ?_ ?_ ?_ H1N.out ?_))
  · rfl
  · rfl
  · exact heap_alloc_new w _
  · rw [HNL.out]; have : Nat.min 1 (n + 1 - i) = 1 := by show min _ _ = _; omega
    rw [this]
  · intro j u hj
    rw [addr_off, Nat.zero_add]
    show (w.alloc _).cell? _ = _
    rw [World.cell?_alloc_past _ _ _ hvw]
    simp only [World.cell?, HVB.out]
    simpa using hj
  · rw [HNL.out, HRS.out]; have := Nat.mul_le_mul_right 2 (show i + 1 ≤ G by omega); rw [Nat.succ_mul] at this; exact this
  obtain ⟨c1, hc1⟩ : ∃ c1 : Array Value, c1 = (ROW.toList.take (i * 2) ++ news ++ ROW.toList.drop (i * 2 + news.length)).toArray := ⟨_, rfl⟩
  rw [← hc1]
  have HS1 : Hid (c1.size = G * 2) := hid_mk (by
    rw [hc1]; simp; rw [HRS.out, HNL.out]; have := Nat.mul_le_mul_right 2 (show i + 1 ≤ G by omega); rw [Nat.succ_mul] at this; omega)
  have HC1 := hid_mk hc1
  have HG1 := hid_mk (setRow_heap (w.alloc (.cells ROW 44)).drew w.heap.size ROW c1 44 _ (heap_alloc_new w _))
  have HB1 := hid_mk (below_row (((Below.refl w.heap.size w).alloc (Nat.le_refl _) (.cells ROW 44)).drew) (Nat.le_refl _) c1)
  have hs1 : w.heap.size < ((w.alloc (.cells ROW 44)).drew.setRow w.heap.size c1).heap.size := by rw [setRow_size]; simp
  clear hc1 hrz
  generalize (w.alloc (.cells ROW 44)).drew.setRow w.heap.size c1 = V1 at *
  (refine region_below_tail 8 (by kernel_rfl) (by kernel_rfl) ?_; simp only [List.take_succ_cons, List.take_zero, List.drop_succ_cons, List.drop_zero]; (repeat (quiet_step (fail))); refine wpQuiet_nil ?_; intro _ hw'; obtain ⟨⟨nq, osq⟩, hw''⟩ := hw'; subst hw'')
  have hvb := below_regrown V1 nq osq
  have HBV := hid_mk (HB1.out.trans (hvb.mono (by omega)))
  have HGV := hid_mk ((hvb.block w.heap.size hs1).trans HG1.out)
  have hs2 : w.heap.size < (grow (redrawn V1 nq) osq).heap.size := by have := hvb.size; omega
  clear hvb
  generalize grow (redrawn V1 nq) osq = V at *
  have HGG := hid_mk ((HBV.out.block g hgw).trans HG.out)
  refine wpList_copy_size (o := ⟨some 54, _, _, _, _, _⟩) rfl (.tmp 50) (.tmp 53) 36 36 rfl 44 2 Try.underlying36 hsz w.heap.size ((i + 1) * 2) (n + 1 - (i + 1)) (G - (i + 1)) ⟨g, i * 2, none⟩ (n - i) (cap - i) (by go_simp) (by go_simp) c1 44 HGV.out X ?_ ?_ ?_ HX1.out ?_
  · rw [HXL.out]; congr 1; show _ = min _ _; omega
  · intro j u hj
    rw [addr_off]; simp only [World.cell?, HGG.out]
    exact HXC.out j u hj
  · rw [HXL.out, HS1.out]; have := Nat.mul_le_mul_right 2 hGn; have e : (i + 1) * 2 + (n - i) * 2 = (n + 1) * 2 := by rw [← Nat.add_mul]; congr 1; omega
    omega
  have hfin : ((c1.toList.take ((i + 1) * 2) ++ X ++ c1.toList.drop ((i + 1) * 2 + X.length)).toArray.toList.take ((n + 1) * 2) = Y ++ news ++ X) := by
    have hn1 : (n + 1) * 2 = i * 2 + (2 + (n - i) * 2) := by rw [← Nat.add_assoc, ← Nat.succ_mul, ← Nat.add_mul]; congr 1; omega
    have hl : i * 2 + (2 + (n - i) * 2) ≤ ROW.toList.length := by rw [Array.length_toList, HRS.out, ← hn1]; exact Nat.mul_le_mul_right _ hGn
    have hz : (i + 1) * 2 = i * 2 + 2 := Nat.succ_mul _ _
    rw [hz, hn1, HC1.out]
    have h := grow_cells ROW.toList news X (i * 2) 2 ((n - i) * 2) HNL.out HXL.out hl
    rw [h, HRT.out]
  have HFIN := hid_mk hfin
  have HSZ : Hid ((c1.toList.take ((i + 1) * 2) ++ X ++ c1.toList.drop ((i + 1) * 2 + X.length)).toArray.size = G * 2) := hid_mk (by
    simp; rw [HS1.out, HXL.out]; have := Nat.mul_le_mul_right 2 hGn; have e : (i + 1) * 2 + (n - i) * 2 = (n + 1) * 2 := by rw [← Nat.add_mul]; congr 1; omega
    omega)
  clear hfin
  obtain ⟨c2, hc2⟩ : ∃ c2 : Array Value, c2 = (c1.toList.take ((i + 1) * 2) ++ X ++ c1.toList.drop ((i + 1) * 2 + X.length)).toArray := ⟨_, rfl⟩
  rw [← hc2] at HFIN HSZ ⊢
  clear hc2
  have HR := hid_mk (show ∃ G', (.returned (.slice (some ⟨w.heap.size, 0, none⟩) (n + 1) G) : Ending) = .returned (.slice (some ⟨w.heap.size, 0, none⟩) (n + 1) G') ∧
      ∃ cur' : Array Value, (V.setRow w.heap.size c2).heap[w.heap.size]? = some (.cells cur' 44 (0, 0)) ∧ n + 1 ≤ G' ∧ G' ≤ maxLen ∧ cur'.size = G' * 2 ∧ cur'.toList.take ((n + 1) * 2) = cur.toList.take (i * 2) ++ news ++ (cur.toList.take (n * 2)).drop (i * 2) ∧ Below w.heap.size w (V.setRow w.heap.size c2) from
    ⟨G, rfl, c2, setRow_heap V w.heap.size c1 c2 44 _ HGV.out, hGn, HGM.out, HSZ.out, by rw [← HX.out, ← HY.out]; exact HFIN.out, below_row HBV.out (Nat.le_refl _) c2⟩)
  go_wp2
  go_ret
  exact HR.out

theorem insK_any (v : Value) (n i : Nat) (xs news : List Value) (vb base : Nat) (w : World) (hown : w.ownsRow base 44 2 v n xs) (hi : i ≤ n) (hn : n ≤ 1000) (hnl : news.length = 2) (h1n : ∀ u ∈ news, u.oneCell' = true)
    (hvb : w.heap[vb]? = some (.cells news.toArray 44 (0, 0))) (hne : v.ownBlock ≠ some vb) (hbase : base ≤ w.heap.size) (h1x : ∀ u ∈ xs, u.oneCell' = true) :
    Calls Try.prog 69 #[v, .int .i64 i, .slice (some ⟨vb, 0, none⟩) 1 1] w (InsPost base 44 2 v n i xs news w) := by
  by_cases hin : i = n
  · subst hin
    exact insK_end v i xs news vb base w hown hn hnl h1n hvb hbase
  have hlt : i < n := by omega
  have hxl := hown.1
  rcases hown.2 with ⟨rfl, h0⟩ | ⟨g, cap, cur, rfl, hbg, hg, hnc, hcm, hcs, hct⟩
  · omega
  have hle : (n + 1) * 2 = n * 2 + 2 := Nat.succ_mul _ _
  have hiz : i * 2 ≤ n * 2 := Nat.mul_le_mul_right _ hi
  have hlen : (xs.take (i * 2) ++ news ++ xs.drop (i * 2)).length = (n + 1) * 2 := by
    rw [List.length_append, List.length_append, List.length_take, List.length_drop, hnl, hxl]; omega
  have htk : cur.toList.take (i * 2) = xs.take (i * 2) := list_take_own hct hiz
  by_cases hr : n + 1 ≤ cap
  · refine (insK_room g n cap i vb cur news w hg hcs hlt hr (by unfold maxLen at hcm; exact hcm) hn hnl h1n hvb (fun e => hne (by rw [e]; rfl)) (by rw [hct]; exact h1x)).mono ?_
    rintro e w' ⟨rfl, cur', h1, h2, h3, h4⟩
    refine ⟨_, rfl, ⟨hlen, Or.inr ⟨g, cap, cur', rfl, hbg, h1, hr, hcm, h2, ?_⟩⟩, h4, Or.inl rfl⟩
    rw [h3, hct, htk]
  · refine (insK_grow g n cap i vb cur news w hg hcs hlt hnc (by omega) hn hnl h1n hvb (by rw [hct]; exact h1x)).mono ?_
    rintro e w' ⟨G, rfl, cur', h1, h2, h3, h4, h5, h6⟩
    refine ⟨_, rfl, ⟨hlen, Or.inr ⟨w.heap.size, G, cur', rfl, hbase, h1, h2, h3, h4, ?_⟩⟩, grown_below h6, Or.inr rfl⟩
    rw [h5, hct, htk]


theorem insT_end (v : Value) (n : Nat) (xs news : List Value) (vb base : Nat) (w : World) (hown : w.ownsRow base 38 4 v n xs) (hn : n ≤ 1000) (hnl : news.length = 4) (h1n : ∀ u ∈ news, u.oneCell' = true)
    (hvb : w.heap[vb]? = some (.cells news.toArray 38 (0, 0))) (hbase : base ≤ w.heap.size) :
    Calls Try.prog 65 #[v, .int .i64 n, .slice (some ⟨vb, 0, none⟩) 1 1] w (InsPost base 38 4 v n n xs news w) := by
  obtain ⟨i0, hi0, hz0, hz1, hz2⟩ := info_parts ten_info
  have hnews : Hid (∀ j u, news[j]? = some u → w.cell? ((⟨vb, 0, none⟩ : Addr).add j) = some u) := hid_mk (fun j u hj => by
    rw [addr_off, Nat.zero_add]; simp [World.cell?, hvb]; exact hj)
  have H1 := hid_mk h1n
  have HNL := hid_mk hnl
  have hxl := hown.1
  have HEND : Hid (∀ v' w', w'.ownsRow base 38 4 v' (n + 1) (xs ++ news) → w.grownBy w' v.ownBlock → (v'.ownBlock = v.ownBlock ∨ v'.ownBlock = some w.heap.size) → InsPost base 38 4 v n n xs news w (.returned v') w') := hid_mk (fun v' w' h1 h2 h3 => ⟨v', rfl, by rw [List.take_of_length_le (by omega), List.drop_eq_nil_of_le (by omega), List.append_nil]; exact h1, h2, h3⟩)
  have HO := hid_mk hown
  have hfrm := hown.2
  clear hown h1n hnl hvb hxl
  rcases hfrm with ⟨rfl, h0⟩ | ⟨g, cap, cur, rfl, -, -, hnc, hcm, -⟩
  · subst h0
    go_enter Try.func65, Try.ntmps65
    go_wp2_with (at_builtin; refine wpList_append_own_at _ rfl _ _ 22 rfl base 38 i0 _ 4 56 Try.underlying22 hi0 hz0 hz1 hz2 rfl (by decide) _ _ xs rfl HO.out ⟨vb, 0, none⟩ 1 1 news rfl ?_ ?_ ?_ ?_ ?_ ?_ ?_)
    any_goals (first | exact HNL.out | exact hnews.out | exact H1.out | (unfold maxLen; omega) | omega)
    intro v' w' hown' hgr hnil hat
    have HR := hid_mk (HEND.out v' w' hown' hgr hat)
    clear hown' hgr hnil hat
    go_wp2
    go_ret
    exact HR.out
  · unfold maxLen at hcm
    have hnci : (n : Int) ≤ (cap : Int) := by omega
    have hni : (0 : Int) ≤ (n : Int) := by omega
    by_cases hc : cap = n
    all_goals
      go_enter Try.func65, Try.ntmps65
      go_wp2_with (at_builtin; refine wpList_append_own_at _ rfl _ _ 22 rfl base 38 i0 _ 4 56 Try.underlying22 hi0 hz0 hz1 hz2 rfl (by decide) _ _ xs rfl HO.out ⟨vb, 0, none⟩ 1 1 news rfl ?_ ?_ ?_ ?_ ?_ ?_ ?_)
      any_goals (first | exact HNL.out | exact hnews.out | exact H1.out | (unfold maxLen; omega) | omega)
      intro v' w' hown' hgr hnil hat
      have HR := hid_mk (HEND.out v' w' hown' hgr hat)
      clear hown' hgr hnil hat
      go_wp2
      go_ret
      exact HR.out

theorem insT_room (g n cap i vb : Nat) (cur : Array Value) (news : List Value) (w : World) (hg : w.heap[g]? = some (.cells cur 38 (0, 0))) (hcur : cur.size = cap * 4) (hi : i < n) (hroom : n + 1 ≤ cap) (hcm : cap ≤ 9223372036854775807) (hn : n ≤ 1000) (hnl : news.length = 4) (h1n : ∀ u ∈ news, u.oneCell' = true)
    (hvb : w.heap[vb]? = some (.cells news.toArray 38 (0, 0))) (hne : vb ≠ g) (h1x : ∀ u ∈ cur.toList.take (n * 4), u.oneCell' = true) :
    Calls Try.prog 65 #[.slice (some ⟨g, 0, none⟩) n cap, .int .i64 i, .slice (some ⟨vb, 0, none⟩) 1 1] w fun e w' => e = .returned (.slice (some ⟨g, 0, none⟩) (n + 1) cap) ∧
      ∃ cur' : Array Value, w'.heap[g]? = some (.cells cur' 38 (0, 0)) ∧ cur'.size = cap * 4 ∧ cur'.toList.take ((n + 1) * 4) = cur.toList.take (i * 4) ++ news ++ (cur.toList.take (n * 4)).drop (i * 4) ∧ w.grownBy w' (some g) := by
  have hsz : (Try.prog.info? 38).map (·.size) = some 4 := by kernel_rfl
  have hov : ∀ lb cb o, (callFunc 72 #[.slice (some ⟨vb, 0, none⟩) 1 1, .slice (some ⟨g, o, none⟩) lb cb]).run Try.prog w = .ok (.value (.bool false)) w := fun lb cb o => by
    rw [run_callFunc_extern (P := Try.prog) (fn := Try.f72) (by kernel_rfl) (by kernel_rfl) (by kernel_rfl) (by kernel_rfl) (e := Extern.SlicesOverlaps.overlaps #[22, 22] #[4]) (by kernel_rfl),
      Lib.run_overlaps_apart w 22 4 38 Try.underlying22 4 (fun w => by kernel_rfl) ⟨vb, 0, none⟩ ⟨g, o, none⟩ 1 1 lb cb hne 38 38 news.toArray.size cur.size (by simp [World.shape?, hvb]) (by simp [World.shape?, hg]) (by omega) (by simp [World.frozen?, hvb]) (by simp [World.frozen?, hvb])]
    rfl
  obtain ⟨X, hX⟩ : ∃ X, X = (cur.toList.take (n * 4)).drop (i * 4) := ⟨_, rfl⟩
  have hXl : X.length = (n - i) * 4 := by rw [hX]; simp; rw [Nat.sub_mul]; rw [hcur]; rw [Nat.min_eq_left (Nat.mul_le_mul_right _ (by omega))]
  have hX1 : ∀ u ∈ X, u.oneCell' = true := fun u hu => h1x u (by rw [hX] at hu; exact List.mem_of_mem_drop hu)
  have hXc : ∀ j u, X[j]? = some u → cur[i * 4 + j]? = some u := fun j u hj => by
    rw [hX, List.getElem?_drop, List.getElem?_take] at hj
    split at hj
    · simpa using hj
    · cases hj
  have HX := hid_mk hX
  have HXL := hid_mk hXl
  have HX1 := hid_mk hX1
  have HXC := hid_mk hXc
  have HG := hid_mk hg
  have HVB := hid_mk hvb
  have HCUR := hid_mk hcur
  have HNL := hid_mk hnl
  have H1N := hid_mk h1n
  have hz1 : ¬ ((1 : Int) = 0) := by decide
  have hz2 : ¬ ((i : Int) = (n : Int)) := by omega
  have hz3 : ¬ ((cap : Int) < (n : Int) + 1) := by omega
  have hw1 : IntKind.i64.wrap ((i : Int) + 1) = (i : Int) + 1 := by rw [IntKind.wrap_i64]; omega
  have hw2 : IntKind.i64.wrap ((n : Int) + 1) = (n : Int) + 1 := by rw [IntKind.wrap_i64]; omega
  have hb1 : (0 : Int) ≤ (i : Int) + 1 := by omega
  have hb5 : (0 : Int) ≤ (n : Int) + 1 := by omega
  have hin : i ≤ n := by omega
  have htn : ((i : Int) + 1).toNat = i + 1 := by omega
  have htn2 : ((n : Int) + 1).toNat = n + 1 := by omega
  have hb2 : ¬ (cap = i + 1) := by omega
  have hb3 : (i : Int) ≤ (n : Int) + 1 := by omega
  have hb4 : ¬ (cap = i) := by omega
  have hb6 : (n : Int) + 1 ≤ (cap : Int) := by omega
  have hb7 : (i : Int) + 1 ≤ (n : Int) + 1 := by omega
  have hb8 : (i : Int) ≤ (n : Int) := by omega
  clear hX hXl hX1 hXc hg hvb hcur hnl h1n h1x
  go_enter Try.func65, Try.ntmps65
  go_wp2_with fail
  (refine region_below_tail 8 (by kernel_rfl) (by kernel_rfl) ?_; simp only [List.take_succ_cons, List.take_zero, List.drop_succ_cons, List.drop_zero]; (repeat (quiet_step (fail))); refine wpQuiet_nil ?_; intro _ hw'; obtain ⟨⟨nq, osq⟩, hw''⟩ := hw'; subst hw'')
  have hvb := below_regrown w nq osq
  have HBV := hid_mk hvb
  have HGV := hid_mk ((hvb.block g (by have := (Array.getElem?_eq_some_iff.1 HG.out).1; exact this)).trans HG.out)
  have HVV := hid_mk ((hvb.block vb (by have := (Array.getElem?_eq_some_iff.1 HVB.out).1; exact this)).trans HVB.out)
  clear hvb
  generalize grow (redrawn w nq) osq = V at *
  have hmul : ∀ a b : Nat, a ≤ b → a * 4 ≤ b * 4 := fun a b h => Nat.mul_le_mul_right _ h
  refine wpList_copy_size (o := ⟨some 77, _, _, _, _, _⟩) rfl (.tmp 73) (.tmp 76) 22 22 rfl 38 4 Try.underlying22 hsz g ((i + 1) * 4) (n + 1 - (i + 1)) (cap - (i + 1)) ⟨g, i * 4, none⟩ (n + 1 - i) (cap - i) (by go_simp) (by go_simp) cur 38 HGV.out X ?_ ?_ ?_ HX1.out ?_
  · rw [HXL.out]; congr 1; show _ = min _ _; omega
  · intro j u hj
    rw [addr_off]; simp only [World.cell?, HGV.out]
    exact HXC.out j u hj
  · rw [HXL.out, HCUR.out]; have := hmul (n + 1) cap hroom; have e : (i + 1) * 4 + (n - i) * 4 = (n + 1) * 4 := by rw [← Nat.add_mul]; congr 1; omega
    omega
  obtain ⟨c1, hc1⟩ : ∃ c1 : Array Value, c1 = (cur.toList.take ((i + 1) * 4) ++ X ++ cur.toList.drop ((i + 1) * 4 + X.length)).toArray := ⟨_, rfl⟩
  rw [← hc1]
  have HG1 := hid_mk (setRow_heap V g cur c1 38 _ HGV.out)
  have HV1 := hid_mk ((setRow_other V g c1 hne).trans HVV.out)
  have HB1 := hid_mk (grown_trans (grown_below (row := some g) HBV.out) (grown_setRow V g c1))
  have HC1 := hid_mk hc1
  have HS1 : Hid (c1.size = cap * 4) := hid_mk (by
    rw [hc1]; simp; rw [HCUR.out, HXL.out]; have := hmul (n + 1) cap hroom; have e : (i + 1) * 4 + (n - i) * 4 = (n + 1) * 4 := by rw [← Nat.add_mul]; congr 1; omega
    omega)
  clear hc1
  generalize V.setRow g c1 = V1 at *
  go_wp2_with (with_reducible refine wpList_copy_size (o := ⟨some 82, _, _, _, _, _⟩) rfl (.tmp 80) (.tmp 81) 22 22 rfl 38 4 Try.underlying22 hsz g (i * 4) (n + 1 - i) (cap - i) ⟨vb, 0, none⟩ 1 1 ?_ ?_ c1 38 HG1.out news ?_ ?_ ?_ H1N.out ?_)
  · rfl
  · rfl
  · rw [HNL.out]; have : Nat.min 1 (n + 1 - i) = 1 := by show min _ _ = _; omega
    rw [this]
  · intro j u hj
    rw [addr_off]; simp only [World.cell?, HV1.out]
    simpa using hj
  · rw [HNL.out, HS1.out]; have := hmul (n + 1) cap hroom; have := hmul (i + 1) (n + 1) (by omega); rw [Nat.succ_mul] at this; omega
  go_wp2
  go_ret
  refine ⟨rfl, _, setRow_heap V1 g c1 _ 38 _ HG1.out, ?_, ?_, grown_trans HB1.out (grown_setRow V1 g _)⟩
  · simp; rw [HNL.out]; have := HS1.out; have := hmul (n + 1) cap hroom; have := hmul (i + 1) (n + 1) (by omega); rw [Nat.succ_mul] at this; omega
  · rw [← HX.out, HC1.out]
    have hz : (i + 1) * 4 = i * 4 + 4 := Nat.succ_mul _ _
    have hn1 : (n + 1) * 4 = i * 4 + (4 + (n - i) * 4) := by rw [← Nat.add_assoc, ← Nat.succ_mul, ← Nat.add_mul]; congr 1; omega
    have := hmul (n + 1) cap hroom
    rw [hz, hn1]
    have hlen : i * 4 + (4 + (n - i) * 4) ≤ cur.toList.length := by rw [Array.length_toList, HCUR.out, ← hn1]; exact hmul _ _ hroom
    simpa only [List.append_assoc] using ins_cells cur.toList news X (i * 4) 4 ((n - i) * 4) HNL.out HXL.out hlen

theorem insT_grow (g n cap i vb : Nat) (cur : Array Value) (news : List Value) (w : World) (hg : w.heap[g]? = some (.cells cur 38 (0, 0))) (hcur : cur.size = cap * 4) (hi : i < n) (hnc : n ≤ cap) (hroom : cap < n + 1) (hn : n ≤ 1000) (hnl : news.length = 4) (h1n : ∀ u ∈ news, u.oneCell' = true)
    (hvb : w.heap[vb]? = some (.cells news.toArray 38 (0, 0))) (h1x : ∀ u ∈ cur.toList.take (n * 4), u.oneCell' = true) :
    Calls Try.prog 65 #[.slice (some ⟨g, 0, none⟩) n cap, .int .i64 i, .slice (some ⟨vb, 0, none⟩) 1 1] w fun e w' => ∃ G, e = .returned (.slice (some ⟨w.heap.size, 0, none⟩) (n + 1) G) ∧
      ∃ cur' : Array Value, w'.heap[w.heap.size]? = some (.cells cur' 38 (0, 0)) ∧ n + 1 ≤ G ∧ G ≤ maxLen ∧ cur'.size = G * 4 ∧ cur'.toList.take ((n + 1) * 4) = cur.toList.take (i * 4) ++ news ++ (cur.toList.take (n * 4)).drop (i * 4) ∧ Below w.heap.size w w' := by
  obtain ⟨i0, hi0, hz0, hzs, hzb⟩ := info_parts ten_info
  have hsz : (Try.prog.info? 38).map (·.size) = some 4 := by kernel_rfl
  have hgw : g < w.heap.size := (Array.getElem?_eq_some_iff.1 hg).1
  have hvw : vb < w.heap.size := (Array.getElem?_eq_some_iff.1 hvb).1
  have hmul : ∀ a b : Nat, a ≤ b → a * 4 ≤ b * 4 := fun a b h => Nat.mul_le_mul_right _ h
  obtain ⟨X, hX⟩ : ∃ X, X = (cur.toList.take (n * 4)).drop (i * 4) := ⟨_, rfl⟩
  obtain ⟨Y, hY⟩ : ∃ Y, Y = cur.toList.take (i * 4) := ⟨_, rfl⟩
  have hYl : Y.length = i * 4 := by rw [hY]; simp; rw [hcur]; exact Nat.min_eq_left (hmul i cap (by omega))
  have hXl : X.length = (n - i) * 4 := by rw [hX]; simp; rw [Nat.sub_mul]; rw [hcur]; rw [Nat.min_eq_left (Nat.mul_le_mul_right _ (by omega))]
  have hX1 : ∀ u ∈ X, u.oneCell' = true := fun u hu => h1x u (by rw [hX] at hu; exact List.mem_of_mem_drop hu)
  have hXc : ∀ j u, X[j]? = some u → cur[i * 4 + j]? = some u := fun j u hj => by
    rw [hX, List.getElem?_drop, List.getElem?_take] at hj
    split at hj
    · simpa using hj
    · cases hj
  have hold : (Builtin.firstCells i0.size i (.slice (some ⟨g, 0, none⟩) i cap)).run Try.prog w.drew = .ok Y.toArray w.drew := by
    rw [hzs]
    exact run_firstCells_some w.drew 4 i ⟨g, 0, none⟩ i cap Y (by rw [hYl]) (fun j v hj => by
      rw [addr_off, Nat.zero_add]
      show w.cell? _ = _
      simp only [World.cell?, hg]
      rw [hY, List.getElem?_take] at hj
      split at hj
      · simpa using hj
      · cases hj)
  have hkk : (n : Int) + 1 - (i : Int) = ((n + 1 - i : Nat) : Int) := by omega
  have hik : i + (n + 1 - i) = n + 1 := by omega
  have hrz : ∀ ty, ∃ G row, n + 1 ≤ G ∧ G ≤ maxLen ∧ row.size = G * 4 ∧ row.toList.take (i * 4) = Y ∧ (Builtin.append_ #[22, 3] ty #[.slice (some ⟨g, 0, none⟩) i cap, .int .i64 ((n : Int) + 1 - (i : Int))]).run Try.prog w =
      .ok (.slice (some ⟨w.heap.size, 0, none⟩) (n + 1) G) (w.drew.alloc (.cells row 38)) := fun ty => by
    have h := Lib.run_append_grow_zeros w 22 3 ty 38 i0 _ .i64 .i64 Try.underlying22 Try.underlying3 hi0 hz0 (some ⟨g, 0, none⟩) i cap Y hold (n + 1 - i) (by omega) (by omega) (by omega) (by omega) (by rw [hzb]; omega) (by rw [hzb, hik]; exact growslice_fits hroom (by omega))
    rw [hik] at h
    rw [hkk]
    have hz : ∀ k, (Builtin.zeroCells (Value.cells (.agg #[.string ByteArray.empty, .int .i64 0, .int .i64 0, .slice none 0 0])) k).size = k * 4 := fun k => size_zeroCells _ _
    have hge := grownCap_ge w (n + 1) cap 38
    refine ⟨_, _, hge, grownCap_le_maxLen w _ _ _ (by unfold maxLen; omega), ?_, ?_, h⟩
    · rw [Array.size_append, Array.size_append, hz, hz, List.size_toArray, hYl, ← Nat.add_mul, ← Nat.add_mul]; congr 1; omega
    · rw [Array.toList_append, Array.toList_append, List.append_assoc, List.take_append_of_le_length (by rw [List.toList_toArray]; omega), List.take_of_length_le (by rw [List.toList_toArray]; omega)]
  obtain ⟨G, ROW, hGn, hGm, hRs, hRt, hrun⟩ := hrz 22
  have hG63 : G ≤ 9223372036854775807 := by unfold maxLen at hGm; exact hGm
  have HX := hid_mk hX
  have HY := hid_mk hY
  have HXL := hid_mk hXl
  have HX1 := hid_mk hX1
  have HXC := hid_mk hXc
  have HG := hid_mk hg
  have HVB := hid_mk hvb
  have HCUR := hid_mk hcur
  have HNL := hid_mk hnl
  have H1N := hid_mk h1n
  have HRS := hid_mk hRs
  have HRT := hid_mk hRt
  have HGM := hid_mk hGm
  have hz1 : ¬ ((1 : Int) = 0) := by decide
  have hz2 : ¬ ((i : Int) = (n : Int)) := by omega
  have hz3 : (cap : Int) < (n : Int) + 1 := by omega
  have hw1 : IntKind.i64.wrap ((i : Int) + 1) = (i : Int) + 1 := by rw [IntKind.wrap_i64]; omega
  have hb1 : (0 : Int) ≤ (i : Int) + 1 := by omega
  have hin : i ≤ n := by omega
  have htn : ((i : Int) + 1).toNat = i + 1 := by omega
  have hGi : ¬ (G = i) := by omega
  have hGim : ¬ (G = i + 1) := by omega
  have hci : ¬ (cap = i) := by omega
  have hb3 : (i : Int) ≤ (n : Int) := by omega
  have hb7 : (i : Int) + 1 ≤ (n : Int) + 1 := by omega
  have hb8 : (i : Int) ≤ (n : Int) + 1 := by omega
  clear hX hY hYl hXl hX1 hXc hold hkk hg hvb hcur hnl h1n h1x hRs hRt hGm hmul
  go_enter Try.func65, Try.ntmps65
  go_wp2_with (first
    | (at_builtin; refine wpList_append_run rfl _ _ _ _ rfl _ _ rfl rfl _ _ hrun ?_)
    | (with_reducible refine wpList_copy_size (o := ⟨some 45, _, _, _, _, _⟩) rfl (.tmp 43) (.tmp 44) 22 22 rfl 38 4 Try.underlying22 hsz w.heap.size (i * 4) (n + 1 - i) (G - i) ⟨vb, 0, none⟩ 1 1 ?_ ?_ ROW 38 ?_ news ?_ ?_ ?_ H1N.out ?_))
  · rfl
  · rfl
  · exact heap_alloc_new w _
  · rw [HNL.out]; have : Nat.min 1 (n + 1 - i) = 1 := by show min _ _ = _; omega
    rw [this]
  · intro j u hj
    rw [addr_off, Nat.zero_add]
    show (w.alloc _).cell? _ = _
    rw [World.cell?_alloc_past _ _ _ hvw]
    simp only [World.cell?, HVB.out]
    simpa using hj
  · rw [HNL.out, HRS.out]; have := Nat.mul_le_mul_right 4 (show i + 1 ≤ G by omega); rw [Nat.succ_mul] at this; exact this
  obtain ⟨c1, hc1⟩ : ∃ c1 : Array Value, c1 = (ROW.toList.take (i * 4) ++ news ++ ROW.toList.drop (i * 4 + news.length)).toArray := ⟨_, rfl⟩
  rw [← hc1]
  have HS1 : Hid (c1.size = G * 4) := hid_mk (by
    rw [hc1]; simp; rw [HRS.out, HNL.out]; have := Nat.mul_le_mul_right 4 (show i + 1 ≤ G by omega); rw [Nat.succ_mul] at this; omega)
  have HC1 := hid_mk hc1
  have HG1 := hid_mk (setRow_heap (w.alloc (.cells ROW 38)).drew w.heap.size ROW c1 38 _ (heap_alloc_new w _))
  have HB1 := hid_mk (below_row (((Below.refl w.heap.size w).alloc (Nat.le_refl _) (.cells ROW 38)).drew) (Nat.le_refl _) c1)
  have hs1 : w.heap.size < ((w.alloc (.cells ROW 38)).drew.setRow w.heap.size c1).heap.size := by rw [setRow_size]; simp
  clear hc1 hrz
  generalize (w.alloc (.cells ROW 38)).drew.setRow w.heap.size c1 = V1 at *
  (refine region_below_tail 8 (by kernel_rfl) (by kernel_rfl) ?_; simp only [List.take_succ_cons, List.take_zero, List.drop_succ_cons, List.drop_zero]; (repeat (quiet_step (fail))); refine wpQuiet_nil ?_; intro _ hw'; obtain ⟨⟨nq, osq⟩, hw''⟩ := hw'; subst hw'')
  have hvb := below_regrown V1 nq osq
  have HBV := hid_mk (HB1.out.trans (hvb.mono (by omega)))
  have HGV := hid_mk ((hvb.block w.heap.size hs1).trans HG1.out)
  have hs2 : w.heap.size < (grow (redrawn V1 nq) osq).heap.size := by have := hvb.size; omega
  clear hvb
  generalize grow (redrawn V1 nq) osq = V at *
  have HGG := hid_mk ((HBV.out.block g hgw).trans HG.out)
  refine wpList_copy_size (o := ⟨some 54, _, _, _, _, _⟩) rfl (.tmp 50) (.tmp 53) 22 22 rfl 38 4 Try.underlying22 hsz w.heap.size ((i + 1) * 4) (n + 1 - (i + 1)) (G - (i + 1)) ⟨g, i * 4, none⟩ (n - i) (cap - i) (by go_simp) (by go_simp) c1 38 HGV.out X ?_ ?_ ?_ HX1.out ?_
  · rw [HXL.out]; congr 1; show _ = min _ _; omega
  · intro j u hj
    rw [addr_off]; simp only [World.cell?, HGG.out]
    exact HXC.out j u hj
  · rw [HXL.out, HS1.out]; have := Nat.mul_le_mul_right 4 hGn; have e : (i + 1) * 4 + (n - i) * 4 = (n + 1) * 4 := by rw [← Nat.add_mul]; congr 1; omega
    omega
  have hfin : ((c1.toList.take ((i + 1) * 4) ++ X ++ c1.toList.drop ((i + 1) * 4 + X.length)).toArray.toList.take ((n + 1) * 4) = Y ++ news ++ X) := by
    have hn1 : (n + 1) * 4 = i * 4 + (4 + (n - i) * 4) := by rw [← Nat.add_assoc, ← Nat.succ_mul, ← Nat.add_mul]; congr 1; omega
    have hl : i * 4 + (4 + (n - i) * 4) ≤ ROW.toList.length := by rw [Array.length_toList, HRS.out, ← hn1]; exact Nat.mul_le_mul_right _ hGn
    have hz : (i + 1) * 4 = i * 4 + 4 := Nat.succ_mul _ _
    rw [hz, hn1, HC1.out]
    have h := grow_cells ROW.toList news X (i * 4) 4 ((n - i) * 4) HNL.out HXL.out hl
    rw [h, HRT.out]
  have HFIN := hid_mk hfin
  have HSZ : Hid ((c1.toList.take ((i + 1) * 4) ++ X ++ c1.toList.drop ((i + 1) * 4 + X.length)).toArray.size = G * 4) := hid_mk (by
    simp; rw [HS1.out, HXL.out]; have := Nat.mul_le_mul_right 4 hGn; have e : (i + 1) * 4 + (n - i) * 4 = (n + 1) * 4 := by rw [← Nat.add_mul]; congr 1; omega
    omega)
  clear hfin
  obtain ⟨c2, hc2⟩ : ∃ c2 : Array Value, c2 = (c1.toList.take ((i + 1) * 4) ++ X ++ c1.toList.drop ((i + 1) * 4 + X.length)).toArray := ⟨_, rfl⟩
  rw [← hc2] at HFIN HSZ ⊢
  clear hc2
  have HR := hid_mk (show ∃ G', (.returned (.slice (some ⟨w.heap.size, 0, none⟩) (n + 1) G) : Ending) = .returned (.slice (some ⟨w.heap.size, 0, none⟩) (n + 1) G') ∧
      ∃ cur' : Array Value, (V.setRow w.heap.size c2).heap[w.heap.size]? = some (.cells cur' 38 (0, 0)) ∧ n + 1 ≤ G' ∧ G' ≤ maxLen ∧ cur'.size = G' * 4 ∧ cur'.toList.take ((n + 1) * 4) = cur.toList.take (i * 4) ++ news ++ (cur.toList.take (n * 4)).drop (i * 4) ∧ Below w.heap.size w (V.setRow w.heap.size c2) from
    ⟨G, rfl, c2, setRow_heap V w.heap.size c1 c2 38 _ HGV.out, hGn, HGM.out, HSZ.out, by rw [← HX.out, ← HY.out]; exact HFIN.out, below_row HBV.out (Nat.le_refl _) c2⟩)
  go_wp2
  go_ret
  exact HR.out

theorem insT_any (v : Value) (n i : Nat) (xs news : List Value) (vb base : Nat) (w : World) (hown : w.ownsRow base 38 4 v n xs) (hi : i ≤ n) (hn : n ≤ 1000) (hnl : news.length = 4) (h1n : ∀ u ∈ news, u.oneCell' = true)
    (hvb : w.heap[vb]? = some (.cells news.toArray 38 (0, 0))) (hne : v.ownBlock ≠ some vb) (hbase : base ≤ w.heap.size) (h1x : ∀ u ∈ xs, u.oneCell' = true) :
    Calls Try.prog 65 #[v, .int .i64 i, .slice (some ⟨vb, 0, none⟩) 1 1] w (InsPost base 38 4 v n i xs news w) := by
  by_cases hin : i = n
  · subst hin
    exact insT_end v i xs news vb base w hown hn hnl h1n hvb hbase
  have hlt : i < n := by omega
  have hxl := hown.1
  rcases hown.2 with ⟨rfl, h0⟩ | ⟨g, cap, cur, rfl, hbg, hg, hnc, hcm, hcs, hct⟩
  · omega
  have hle : (n + 1) * 4 = n * 4 + 4 := Nat.succ_mul _ _
  have hiz : i * 4 ≤ n * 4 := Nat.mul_le_mul_right _ hi
  have hlen : (xs.take (i * 4) ++ news ++ xs.drop (i * 4)).length = (n + 1) * 4 := by
    rw [List.length_append, List.length_append, List.length_take, List.length_drop, hnl, hxl]; omega
  have htk : cur.toList.take (i * 4) = xs.take (i * 4) := list_take_own hct hiz
  by_cases hr : n + 1 ≤ cap
  · refine (insT_room g n cap i vb cur news w hg hcs hlt hr (by unfold maxLen at hcm; exact hcm) hn hnl h1n hvb (fun e => hne (by rw [e]; rfl)) (by rw [hct]; exact h1x)).mono ?_
    rintro e w' ⟨rfl, cur', h1, h2, h3, h4⟩
    refine ⟨_, rfl, ⟨hlen, Or.inr ⟨g, cap, cur', rfl, hbg, h1, hr, hcm, h2, ?_⟩⟩, h4, Or.inl rfl⟩
    rw [h3, hct, htk]
  · refine (insT_grow g n cap i vb cur news w hg hcs hlt hnc (by omega) hn hnl h1n hvb (by rw [hct]; exact h1x)).mono ?_
    rintro e w' ⟨G, rfl, cur', h1, h2, h3, h4, h5, h6⟩
    refine ⟨_, rfl, ⟨hlen, Or.inr ⟨w.heap.size, G, cur', rfl, hbase, h1, h2, h3, h4, ?_⟩⟩, grown_below h6, Or.inr rfl⟩
    rw [h5, hct, htk]

end Go.Proofs.Ytgcgilcalmefgaa
