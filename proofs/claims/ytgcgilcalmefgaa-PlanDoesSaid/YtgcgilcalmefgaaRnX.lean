/- Walks: porterref38.with: keys with one more. -/
import Derived.Test.YtgcgilcalmefgaaRnV
import Derived.OwnWalk
import Derived.Maps.AppendAt
import Derived.Deep.AppendLies
import Derived.Laws.OwnMore
namespace Go.Proofs.Ytgcgilcalmefgaa
open Go Go.RowKit Go.Sort
set_option maxRecDepth 100000
set_option linter.unusedSimpArgs false
set_option linter.unusedVariables false
set_option maxHeartbeats 2000000
namespace Rn
def withStep (k : K) (p : List K × Bool) (x : K) : List K × Bool := if p.2 = false ∧ k.num < x.num then (p.1 ++ [k] ++ [x], true) else (p.1 ++ [x], p.2)
def withRun (k : K) (l : List K) : List K × Bool := l.foldl (withStep k) ([], false)
def withK (l : List K) (k : K) : List K := if (withRun k l).2 = false then (withRun k l).1 ++ [k] else (withRun k l).1
theorem withRun_take {k : K} {l : List K} {j : Nat} (h : j < l.length) : withRun k (l.take (j + 1)) = withStep k (withRun k (l.take j)) l[j] := by
  unfold withRun
  rw [List.take_succ_eq_append_getElem h, List.foldl_append]
  rfl
theorem withRun_len (k : K) (l : List K) : (withRun k l).1.length = l.length + (if (withRun k l).2 = true then 1 else 0) := by
  have : ∀ (l : List K) (p : List K × Bool), (l.foldl (withStep k) p).1.length + (if p.2 = true then 1 else 0) = p.1.length + l.length + (if (l.foldl (withStep k) p).2 = true then 1 else 0) := by
    intro l
    induction l with
    | nil => intro p; rw [List.foldl_nil, List.length_nil]; omega
    | cons x r ih =>
      intro p
      have h := ih (withStep k p x)
      rw [List.foldl_cons, List.length_cons]
      unfold withStep at h ⊢
      by_cases hc : p.2 = false ∧ k.num < x.num
      · simp only [if_pos hc] at h ⊢
        simp [hc.1] at h ⊢
        omega
      · simp only [if_neg hc] at h ⊢
        simp at h ⊢
        omega
  have h := this l ([], false)
  unfold withRun
  simpa using h
theorem withRun_mem {k : K} {l : List K} {x : K} (h : x ∈ (withRun k l).1) : x = k ∨ x ∈ l := by
  have : ∀ (l : List K) (p : List K × Bool), x ∈ (l.foldl (withStep k) p).1 → x ∈ p.1 ∨ x = k ∨ x ∈ l := by
    intro l
    induction l with
    | nil => intro p h; exact Or.inl h
    | cons y r ih =>
      intro p h
      rw [List.foldl_cons] at h
      rcases ih _ h with h1 | h1 | h1
      · unfold withStep at h1
        split at h1
        · simp at h1
          rcases h1 with h1 | h1 | h1
          · exact Or.inl h1
          · exact Or.inr (Or.inl h1)
          · exact Or.inr (Or.inr (by simp [h1]))
        · simp at h1
          rcases h1 with h1 | h1
          · exact Or.inl h1
          · exact Or.inr (Or.inr (by simp [h1]))
      · exact Or.inr (Or.inl h1)
      · exact Or.inr (Or.inr (by simp [h1]))
  rcases this l ([], false) h with h1 | h1
  · simp at h1
  · exact h1
end Rn
def keyV (k : Rn.K) : List Value := [.int .i64 (k).num, .string (k).txt]
/-- a call hands back these keys, in memory of its own -/
def RetKeys (ks : List Rn.K) (w : World) (e : Ending) (w' : World) : Prop :=
  ∃ (A : Option Addr) (c : Nat), e = .returned (.slice A ks.length c) ∧ Fits A ks.length c ∧ Below w.heap.size w w' ∧ KeysAt (fun b => w.heap.size ≤ b ∧ b < w'.heap.size) w' A ks
def WithAt (k : Rn.K) (l : List Rn.K) (B : Nat) (w : World) (u d v : Value) (wr : World) : Prop :=
  ∃ j : Nat, j ≤ l.length ∧ v = .int .i64 (j : Nat) ∧ d = .bool (Rn.withRun k (l.take j)).2 ∧ wr.ownsRow B 44 2 u (Rn.withRun k (l.take j)).1.length ((Rn.withRun k (l.take j)).1.flatMap keyV) ∧ Below B w wr
theorem key_info : (Try.prog.info? 44).map (fun i => (i.zero, i.size, i.bytes)) = some (some (.agg #[.int .i64 0, .string ByteArray.empty]), 2, 24) := by kernel_rfl
theorem own_below {base n len B : Nat} {e : TypeId} {v : Value} {xs : List Value} {w w' : World} (h : w.ownsRow base e n v len xs) (hb : Below B w w') (hB : w.heap.size ≤ B) : w'.ownsRow base e n v len xs := by
  refine ⟨h.1, ?_⟩
  have hlt := h.lt
  rcases h.2 with h0 | ⟨g, cap, cur, rfl, hbg, hg, hr⟩
  · exact Or.inl h0
  · exact Or.inr ⟨g, cap, cur, rfl, hbg, by rw [hb.block g (Nat.lt_of_lt_of_le (hlt g rfl).2 hB)]; exact hg, hr⟩
theorem withAt_keep {k : Rn.K} {l : List Rn.K} {B : Nat} {w : World} {u d v : Value} {wr V : World} (h : WithAt k l B w u d v wr) (hb : Below wr.heap.size wr V) (hB : B ≤ wr.heap.size) : WithAt k l B w u d v V := by
  obtain ⟨j, h1, h2, h3, h4, h5⟩ := h
  exact ⟨j, h1, h2, h3, own_below h4 hb (Nat.le_refl _), h5.trans (hb.mono hB)⟩
theorem withRun_put {k x : Rn.K} {l : List Rn.K} {j : Nat} (h : j < l.length) : (Rn.withRun k (l.take (j + 1))).2 = (if (Rn.withRun k (l.take j)).2 = false ∧ k.num < l[j].num then true else (Rn.withRun k (l.take j)).2) := by
  rw [Rn.withRun_take h]
  unfold Rn.withStep
  split <;> rfl
theorem with_any (l : List Rn.K) (k : Rn.K) (A : Option Addr) (c : Nat) (G : Nat → Prop) (w : World) (hG : ∀ b, G b → b < w.heap.size) (hl : l.length ≤ 1000) (hx : ∀ x ∈ l, x.txt.size ≤ maxLen) (hkx : k.txt.size ≤ maxLen) (hk : KeysAt G w A l) :
    Calls Try.prog 34 #[.slice A l.length c, .agg #[.int .i64 (k).num, .string (k).txt]] w (RetKeys (Rn.withK l k) w) := by
  obtain ⟨i0, hi, hz0, hz1, hz2⟩ := info_parts key_info
  have HK := hid_mk hk
  have HG := hid_mk hG
  have HBX := hid_mk (Blk.new w #[.int .i64 (k).num, .string (k).txt] 44)
  have hb0 : Below w.heap.size w (w.alloc (.cells #[.int .i64 (k).num, .string (k).txt] 44)) := (by repeat (first | with_reducible exact Below.refl _ _ | with_reducible assumption | with_reducible refine Below.setCell ?_ (by first | omega | (dsimp only; omega) | (simp <;> omega)) _ | with_reducible refine Below.alloc ?_ (by first | omega | (simp <;> omega)) _ | with_reducible refine below_drewN ?_ _ | with_reducible refine Below.drew ?_))
  have HB0 := hid_mk hb0
  have hs0 : (w.alloc (.cells #[.int .i64 (k).num, .string (k).txt] 44)).heap.size = w.heap.size + 1 := by simp
  have hrow : ∀ x ∈ (Rn.withK l k), keyR x (keyV x) := fun x hx' => by
    refine ⟨rfl, ?_⟩
    unfold Rn.withK at hx'
    split at hx'
    · rcases List.mem_append.1 hx' with h | h
      · rcases Rn.withRun_mem h with rfl | h2
        · exact hkx
        · exact hx _ h2
      · simp at h; subst h; exact hkx
    · rcases Rn.withRun_mem hx' with rfl | h2
      · exact hkx
      · exact hx _ h2
  have HROW := hid_mk hrow
  have HEND : Hid (∀ (u : Value) (w' : World), w'.ownsRow (w.heap.size + 1) 44 2 u (Rn.withK l k).length ((Rn.withK l k).flatMap keyV) → Below (w.heap.size + 1) (w.alloc (.cells #[.int .i64 (k).num, .string (k).txt] 44)) w' → RetKeys (Rn.withK l k) w (.returned u) w') := hid_mk (by
    intro u w' h1 h2
    obtain ⟨A', c', rfl, h3, h4⟩ := rows_own (n := 2) (R := keyR) (fun x _ => rfl) hrow h1
    exact ⟨A', c', rfl, h3, hb0.trans (h2.mono (by omega)), rows_keep h4 (fun _ _ _ h => h) (fun b hb => ⟨by omega, hb.2⟩) (fun b _ => rfl)⟩)
  clear hk hG hb0 hrow hx hkx
  go_enter Try.func34, Try.ntmps34
  go_wp2
  go_loopw [5, 6, 7] (fun u d v wr => WithAt k l (w.heap.size + 1) (w.alloc (.cells #[.int .i64 (k).num, .string (k).txt] 44)) u d v wr) (fun _ _ v _ => l.length - (intOf v).toNat)
  case atStart => exact ⟨0, Nat.zero_le _, rfl, rfl, World.ownsRow_nil _ _ _ _, Below.refl _ _⟩
  case round =>
    obtain ⟨j, hj, rfl, rfl, hown, hb⟩ := hrel
    have hlen : (Rn.withRun k (l.take j)).1.length ≤ 1001 := by
      have h := Rn.withRun_len k (l.take j)
      rw [List.length_take] at h
      split at h <;> omega
    have hsw : w.heap.size + 1 ≤ wr.heap.size := by have := hb.size; omega
    by_cases hlt : j < l.length
    case neg =>
      have hn : ¬ ((j : Int) < (l.length : Int)) := by omega
      have hjl : l.take j = l := List.take_of_length_le (by omega)
      rw [hjl] at hown hlen
      rw [hjl]
      have HE : ∀ (u : Value) (w' : World), w'.ownsRow (w.heap.size + 1) 44 2 u (if (Rn.withRun k l).2 = false then (Rn.withRun k l).1 ++ [k] else (Rn.withRun k l).1).length ((if (Rn.withRun k l).2 = false then (Rn.withRun k l).1 ++ [k] else (Rn.withRun k l).1).flatMap keyV) → Below (w.heap.size + 1) (w.alloc (.cells #[.int .i64 (k).num, .string (k).txt] 44)) w' → RetKeys (Rn.withK l k) w (.returned u) w' := HEND.out
      have HEN := hid_mk HE
      have hxk := HBX.out.below hb (by omega)
      (have x0 : wr.cell? ⟨w.heap.size, 0, none⟩ = some (.int .i64 (k).num) := hxk.cell 0; have x1 : wr.cell? ⟨w.heap.size, 1, none⟩ = some (.string (k).txt) := hxk.cell 1; have xf : ∀ i, wr.frozen? ⟨w.heap.size, i, none⟩ = false := hxk.frozen)
      have HB := hid_mk hb
      clear HROW HEND HE hxk hb
      generalize Rn.withRun k l = r at *
      obtain ⟨ps, d⟩ := r
      dsimp only at hlen hown HEN ⊢
      cases d with
      | true =>
        have HR := hid_mk (HEN.out _ wr (by simpa using hown) HB.out)
        clear hown HEN
        go_wp2
        exact bodyPost_ret (v := u5) (by simp [results, Try.results34, go_sem]) rfl HR.out
      | false =>
        have HLB := hid_mk (fun g hg => (hown.lt g hg).1)
        have HNB := hid_mk (World.news_of_block (Blk.new wr #[.int .i64 (k).num, .string (k).txt] 44))
        have hownA := hown.alloc (.cells #[.int .i64 (k).num, .string (k).txt] 44)
        clear hown
        go_wp2_with (at_builtin; refine wpList_append_own_at _ rfl _ _ 36 rfl (w.heap.size + 1) 44 i0 _ 2 24 Try.underlying36 hi hz0 hz1 hz2 rfl (by decide) _ _ (ps.flatMap keyV) rfl hownA ⟨wr.heap.size, 0, none⟩ 1 1 [.int .i64 (k).num, .string (k).txt] rfl rfl ?_ ?_ ?_ ?_ ?_ ?_)
        any_goals (first | exact HNB.out | exact ⟨rfl, rfl⟩ | (unfold maxLen; simp; omega) | omega | (simp; omega))
        intro v' w' hown' hg hnil hat
        have HR := hid_mk (HEN.out v' w' (by simpa [keyV] using hown') ((HB.out.alloc (by omega) _).grown hg (by simp; omega) (fun g hg' => HLB.out g hg')))
        clear hown' hg hnil hat HEN
        go_wp2
        exact bodyPost_ret (v := v') (by simp [results, Try.results34, go_sem]) rfl HR.out
    have hK2 := keysAt_keep HK.out (fun b h => h) (kept_below (HB0.out.trans (hb.mono (by omega))) HG.out)
    obtain ⟨b, o, e1, hg1, -, x0, x1⟩ := keys_at hK2 hlt
    have hgb := HG.out b hg1
    subst e1
    have HST := hid_mk (Rn.withRun_take (k := k) hlt)
    have hxk := HBX.out.below hb (by omega)
    have HB := hid_mk hb
    clear hK2 hb HEND HROW
    unfold Rn.withStep at HST
    generalize Rn.withRun k (l.take j) = r at *
    generalize l[j] = q at *
    obtain ⟨ps, d⟩ := r
    dsimp only at hlen hown HST ⊢
    have za0 : ∀ d os, (grow (redrawn wr d) os).cell? ⟨b, o + j * 2, none⟩ = some (.int .i64 q.num) := fun d os => cell_regrown x0 d os
    have zk0 : ∀ d os, (grow (redrawn wr d) os).cell? ⟨w.heap.size, 0, none⟩ = some (.int .i64 k.num) := fun d os => cell_regrown (hxk.cell 0) d os
    cases d with
    | true =>
      rw [if_neg (by simp)] at HST
      have HO := hid_mk hown
      clear hown
      go_wp2
      (refine wp_region_quiet_below (by kernel_rfl) (by kernel_rfl) ?_; (repeat (first | go_big_quiet_step (fail) | quiet_step (fail))); refine wpQuiet_nil ?_; intro _ hw'; obtain ⟨⟨nq, osq⟩, hw''⟩ := hw'; subst hw'')
      have hvb := below_regrown wr nq osq
      have HBV := hid_mk (HB.out.trans (hvb.mono hsw))
      have HOV := hid_mk (own_below HO.out hvb (Nat.le_refl _))
      have hsv : w.heap.size + 1 ≤ (grow (redrawn wr nq) osq).heap.size := by have := hvb.size; omega
      have y0 : (grow (redrawn wr nq) osq).cell? ⟨b, o + j * 2, none⟩ = some (.int .i64 q.num) := cell_regrown x0 nq osq
      have y1 : (grow (redrawn wr nq) osq).cell? ⟨b, o + j * 2 + 1, none⟩ = some (.string q.txt) := cell_regrown x1 nq osq
      have hxv := HBX.out.below HBV.out (by omega)
      clear hvb za0 zk0 x0 x1 hxk
      generalize grow (redrawn wr nq) osq = V at *
      have HLB1 := hid_mk (fun g hg => (HOV.out.lt g hg).1)
      have HNB1 := hid_mk (World.news_of_block (Blk.new V #[.int .i64 (q).num, .string (q).txt] 44))
      have hownA1 := HOV.out.alloc (.cells #[.int .i64 (q).num, .string (q).txt] 44)
      go_wp2_with (at_builtin; refine wpList_append_own_at _ rfl _ _ 36 rfl (w.heap.size + 1) 44 i0 _ 2 24 Try.underlying36 hi hz0 hz1 hz2 rfl (by decide) _ _ (ps.flatMap keyV) rfl hownA1 ⟨V.heap.size, 0, none⟩ 1 1 [.int .i64 (q).num, .string (q).txt] rfl rfl ?_ ?_ ?_ ?_ ?_ ?_)
      any_goals (first | exact HNB1.out | exact ⟨rfl, rfl⟩ | (unfold maxLen; simp; omega) | omega | (simp; omega))
      intro v1 w1 hown1 hgr hnil1 hat1
      have HB1 := hid_mk ((HBV.out.alloc (by omega) _).grown hgr (by simp; omega) (fun g hg' => HLB1.out g hg'))
      have hsz1 : V.heap.size < w1.heap.size := by have := hgr.size; simp at this; omega
      have HX := hid_mk (show WithAt k l (w.heap.size + 1) (w.alloc (.cells #[.int .i64 (k).num, .string (k).txt] 44)) v1 (.bool true) (.int .i64 ((j + 1 : Nat) : Int)) w1 from ⟨j + 1, by omega, rfl, by rw [HST.out], by rw [HST.out]; simpa [keyV] using hown1, HB1.out⟩)
      clear hown1 hgr hnil1 hat1
      go_wp2
      go_roundw
      case rel => exact HX.out
      case measure => simp [intOf]; omega
    | false =>
      by_cases hq : k.num < q.num
      · rw [if_pos ⟨rfl, hq⟩] at HST
        have hq2 : decide (k.num < q.num) = true := by simpa using hq
        have HO := hid_mk hown
        clear hown hq
        go_wp2
        (refine wp_region_quiet_below (by kernel_rfl) (by kernel_rfl) ?_; (repeat (first | go_big_quiet_step (fail) | quiet_step (fail))); refine wpQuiet_nil ?_; intro _ hw'; obtain ⟨⟨nq, osq⟩, hw''⟩ := hw'; subst hw'')
        have hvb := below_regrown wr nq osq
        have HBV := hid_mk (HB.out.trans (hvb.mono hsw))
        have HOV := hid_mk (own_below HO.out hvb (Nat.le_refl _))
        have hsv : w.heap.size + 1 ≤ (grow (redrawn wr nq) osq).heap.size := by have := hvb.size; omega
        have y0 : (grow (redrawn wr nq) osq).cell? ⟨b, o + j * 2, none⟩ = some (.int .i64 q.num) := cell_regrown x0 nq osq
        have y1 : (grow (redrawn wr nq) osq).cell? ⟨b, o + j * 2 + 1, none⟩ = some (.string q.txt) := cell_regrown x1 nq osq
        have hxv := HBX.out.below HBV.out (by omega)
        clear hvb za0 zk0 x0 x1 hxk
        generalize grow (redrawn wr nq) osq = V at *
        (have x0 : V.cell? ⟨w.heap.size, 0, none⟩ = some (.int .i64 (k).num) := hxv.cell 0; have x1 : V.cell? ⟨w.heap.size, 1, none⟩ = some (.string (k).txt) := hxv.cell 1; have xf : ∀ i, V.frozen? ⟨w.heap.size, i, none⟩ = false := hxv.frozen)
        have HLB1 := hid_mk (fun g hg => (HOV.out.lt g hg).1)
        have HNB1 := hid_mk (World.news_of_block (Blk.new V #[.int .i64 (k).num, .string (k).txt] 44))
        have hownA1 := HOV.out.alloc (.cells #[.int .i64 (k).num, .string (k).txt] 44)
        go_wp2_with (at_builtin; refine wpList_append_own_at _ rfl _ _ 36 rfl (w.heap.size + 1) 44 i0 _ 2 24 Try.underlying36 hi hz0 hz1 hz2 rfl (by decide) _ _ (ps.flatMap keyV) rfl hownA1 ⟨V.heap.size, 0, none⟩ 1 1 [.int .i64 (k).num, .string (k).txt] rfl rfl ?_ ?_ ?_ ?_ ?_ ?_)
        any_goals (first | exact HNB1.out | exact ⟨rfl, rfl⟩ | (unfold maxLen; simp; omega) | omega | (simp; omega))
        intro v1 w1 hown1 hgr hnil1 hat1
        have HB1 := hid_mk ((HBV.out.alloc (by omega) _).grown hgr (by simp; omega) (fun g hg' => HLB1.out g hg'))
        have hsz1 : V.heap.size < w1.heap.size := by have := hgr.size; simp at this; omega
        have hk1 : Kept G V w1 := fun b' hb' => by rw [hgr.block b' (by have := HG.out b' hb'; simp; omega) (fun e => by have := HLB1.out b' e.symm; have := HG.out b' hb'; omega)]; exact heap_alloc_old V _ (by have := HG.out b' hb'; omega)
        have z0 : w1.cell? ⟨b, o + j * 2, none⟩ = some (.int .i64 q.num) := (hk1.cell hg1 _).trans y0
        have z1 : w1.cell? ⟨b, o + j * 2 + 1, none⟩ = some (.string q.txt) := (hk1.cell hg1 _).trans y1
        have HO1 := hid_mk (show w1.ownsRow (w.heap.size + 1) 44 2 v1 (ps ++ [k]).length ((ps ++ [k]).flatMap keyV) by simpa [keyV] using hown1)
        clear y0 y1 hk1 hown1 hgr hnil1 hat1
        have HLB2 := hid_mk (fun g hg => (HO1.out.lt g hg).1)
        have HNB2 := hid_mk (World.news_of_block (Blk.new w1 #[.int .i64 (q).num, .string (q).txt] 44))
        have hownA2 := HO1.out.alloc (.cells #[.int .i64 (q).num, .string (q).txt] 44)
        go_wp2_with (at_builtin; refine wpList_append_own_at _ rfl _ _ 36 rfl (w.heap.size + 1) 44 i0 _ 2 24 Try.underlying36 hi hz0 hz1 hz2 rfl (by decide) _ _ ((ps ++ [k]).flatMap keyV) rfl hownA2 ⟨w1.heap.size, 0, none⟩ 1 1 [.int .i64 (q).num, .string (q).txt] rfl rfl ?_ ?_ ?_ ?_ ?_ ?_)
        any_goals (first | exact HNB2.out | exact ⟨rfl, rfl⟩ | (unfold maxLen; simp; omega) | omega | (simp; omega))
        intro v2 w2 hown2 hg2 hnil2 hat2
        have HB2 := hid_mk ((HB1.out.alloc (by omega) _).grown hg2 (by simp; omega) (fun g hg' => HLB2.out g hg'))
        have hsz2 : w1.heap.size < w2.heap.size := by have := hg2.size; simp at this; omega
        have HX := hid_mk (show WithAt k l (w.heap.size + 1) (w.alloc (.cells #[.int .i64 (k).num, .string (k).txt] 44)) v2 (.bool true) (.int .i64 ((j + 1 : Nat) : Int)) w2 from ⟨j + 1, by omega, rfl, by rw [HST.out], by rw [HST.out]; simpa [keyV] using hown2, HB2.out⟩)
        clear hown2 hg2 hnil2 hat2
        go_wp2
        go_roundw
        case rel => exact HX.out
        case measure => simp [intOf]; omega
      · rw [if_neg (by simpa using hq)] at HST
        have hq2 : decide (k.num < q.num) = false := by simpa using hq
        have HO := hid_mk hown
        clear hown hq
        go_wp2
        (refine wp_region_quiet_below (by kernel_rfl) (by kernel_rfl) ?_; (repeat (first | go_big_quiet_step (fail) | quiet_step (fail))); refine wpQuiet_nil ?_; intro _ hw'; obtain ⟨⟨nq, osq⟩, hw''⟩ := hw'; subst hw'')
        have hvb := below_regrown wr nq osq
        have HBV := hid_mk (HB.out.trans (hvb.mono hsw))
        have HOV := hid_mk (own_below HO.out hvb (Nat.le_refl _))
        have hsv : w.heap.size + 1 ≤ (grow (redrawn wr nq) osq).heap.size := by have := hvb.size; omega
        have y0 : (grow (redrawn wr nq) osq).cell? ⟨b, o + j * 2, none⟩ = some (.int .i64 q.num) := cell_regrown x0 nq osq
        have y1 : (grow (redrawn wr nq) osq).cell? ⟨b, o + j * 2 + 1, none⟩ = some (.string q.txt) := cell_regrown x1 nq osq
        have hxv := HBX.out.below HBV.out (by omega)
        clear hvb za0 zk0 x0 x1 hxk
        generalize grow (redrawn wr nq) osq = V at *
        have HLB1 := hid_mk (fun g hg => (HOV.out.lt g hg).1)
        have HNB1 := hid_mk (World.news_of_block (Blk.new V #[.int .i64 (q).num, .string (q).txt] 44))
        have hownA1 := HOV.out.alloc (.cells #[.int .i64 (q).num, .string (q).txt] 44)
        go_wp2_with (at_builtin; refine wpList_append_own_at _ rfl _ _ 36 rfl (w.heap.size + 1) 44 i0 _ 2 24 Try.underlying36 hi hz0 hz1 hz2 rfl (by decide) _ _ (ps.flatMap keyV) rfl hownA1 ⟨V.heap.size, 0, none⟩ 1 1 [.int .i64 (q).num, .string (q).txt] rfl rfl ?_ ?_ ?_ ?_ ?_ ?_)
        any_goals (first | exact HNB1.out | exact ⟨rfl, rfl⟩ | (unfold maxLen; simp; omega) | omega | (simp; omega))
        intro v1 w1 hown1 hgr hnil1 hat1
        have HB1 := hid_mk ((HBV.out.alloc (by omega) _).grown hgr (by simp; omega) (fun g hg' => HLB1.out g hg'))
        have hsz1 : V.heap.size < w1.heap.size := by have := hgr.size; simp at this; omega
        have HX := hid_mk (show WithAt k l (w.heap.size + 1) (w.alloc (.cells #[.int .i64 (k).num, .string (k).txt] 44)) v1 (.bool false) (.int .i64 ((j + 1 : Nat) : Int)) w1 from ⟨j + 1, by omega, rfl, by rw [HST.out], by rw [HST.out]; simpa [keyV] using hown1, HB1.out⟩)
        clear hown1 hgr hnil1 hat1
        go_wp2
        go_roundw
        case rel => exact HX.out
        case measure => simp [intOf]; omega
end Go.Proofs.Ytgcgilcalmefgaa
