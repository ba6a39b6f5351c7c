/- Walks: porterref38.put: a state with a tenant, in its place. -/
import Derived.Test.YtgcgilcalmefgaaRnY
import Derived.Test.YtgcgilcalmefgaaRnR
import Derived.Test.YtgcgilcalmefgaaRow
namespace Go.Proofs.Ytgcgilcalmefgaa
open Go Go.RowKit Go.Sort
set_option maxRecDepth 100000
set_option linter.unusedSimpArgs false
set_option linter.unusedVariables false
set_option maxHeartbeats 2000000
namespace Rn
def putStep (t : T) (p : List T × Bool) (x : T) : List T × Bool :=
  if p.2 = false ∧ 0 ≤ cmpL x.name.data.toList t.name.data.toList then (if cmpL x.name.data.toList t.name.data.toList = 0 then (p.1 ++ [t], true) else (p.1 ++ [t] ++ [x], true))
  else (if cmpL x.name.data.toList t.name.data.toList = 0 then p else (p.1 ++ [x], p.2))
def putRun (t : T) (l : List T) : List T × Bool := l.foldl (putStep t) ([], false)
def putT (l : List T) (t : T) : List T := if (putRun t l).2 = false then (putRun t l).1 ++ [t] else (putRun t l).1
theorem putRun_take {t : T} {l : List T} {j : Nat} (h : j < l.length) : putRun t (l.take (j + 1)) = putStep t (putRun t (l.take j)) l[j] := by
  unfold putRun
  rw [List.take_succ_eq_append_getElem h, List.foldl_append]
  rfl
theorem putRun_len (t : T) (l : List T) : (putRun t l).1.length ≤ l.length + (if (putRun t l).2 = true then 1 else 0) := by
  have : ∀ (l : List T) (p : List T × Bool), (l.foldl (putStep t) p).1.length + (if p.2 = true then 1 else 0) ≤ p.1.length + l.length + (if (l.foldl (putStep t) p).2 = true then 1 else 0) := by
    intro l
    induction l with
    | nil => intro p; rw [List.foldl_nil, List.length_nil]; omega
    | cons x r ih =>
      intro p
      have h := ih (putStep t p x)
      rw [List.foldl_cons, List.length_cons]
      unfold putStep at h ⊢
      by_cases hc : p.2 = false ∧ 0 ≤ cmpL x.name.data.toList t.name.data.toList
      · by_cases hz : cmpL x.name.data.toList t.name.data.toList = 0
        · simp only [if_pos hc, if_pos hz] at h ⊢
          simp [hc.1] at h ⊢
          omega
        · simp only [if_pos hc, if_neg hz] at h ⊢
          simp [hc.1] at h ⊢
          omega
      · by_cases hz : cmpL x.name.data.toList t.name.data.toList = 0
        · simp only [if_neg hc, if_pos hz] at h ⊢
          omega
        · simp only [if_neg hc, if_neg hz] at h ⊢
          simp at h ⊢
          omega
  have h := this l ([], false)
  unfold putRun
  simpa using h
end Rn
/-- a call hands back this state: its memory is of G, or new -/
def RetState (G : Nat → Prop) (s : Rn.S) (w : World) (e : Ending) (w' : World) : Prop :=
  ∃ (A : Option Addr) (c : Nat), e = .returned (.agg #[.slice (A) (s).tens.length (c), .int .i64 (s).serial]) ∧ Fits A s.tens.length c ∧ Below w.heap.size w w' ∧ TensAt (fun b => G b ∨ (w.heap.size ≤ b ∧ b < w'.heap.size)) w' A s.tens
/-- out as it stands: its rows, its box -/
def PutI (G : Nat → Prop) (ob : Nat) (w : World) (ser : Int) (ps : List (Rn.T × List Value)) (u : Value) (V : World) : Prop :=
  (∀ p ∈ ps, tenR G V p.1 p.2) ∧ Blk V ob #[u, .int .i64 ser] 24 ∧ V.ownsRow (ob + 1) 38 4 u ps.length (ps.flatMap Prod.snd) ∧ Below ob w V
theorem putI_keep {G : Nat → Prop} {ob : Nat} {w : World} {ser : Int} {ps : List (Rn.T × List Value)} {u : Value} {V V' : World} (hG : ∀ b, G b → b < ob) (h : PutI G ob w ser ps u V) (hb : Below V.heap.size V V') : PutI G ob w ser ps u V' := by
  obtain ⟨h1, h2, h3, h4⟩ := h
  have hs := h2.lt
  exact ⟨fun p hp => tenR_keep (h1 p hp) (fun b h => h) (kept_below hb (fun b h => by have := hG b h; omega)), h2.call hb, own_below h3 hb (Nat.le_refl _), h4.trans (hb.mono (by omega))⟩
theorem putI_grown {G : Nat → Prop} {ob : Nat} {w : World} {ser : Int} {ps : List (Rn.T × List Value)} {u v' : Value} {V w1 : World} {x : Rn.T} {cs : List Value} (hG : ∀ b, G b → b < ob) (h : PutI G ob w ser ps u V) (hx : tenR G V x cs) (o : Obj)
    (hown : w1.ownsRow (ob + 1) 38 4 v' (ps.length + 1) (ps.flatMap Prod.snd ++ cs)) (hg : (V.alloc o).grownBy w1 u.ownBlock) : PutI G ob w ser (ps ++ [(x, cs)]) v' (w1.setCell ⟨ob, 0, none⟩ v') := by
  obtain ⟨h1, h2, h3, h4⟩ := h
  have hs := h2.lt
  have hu := h3.lt
  have hblk : ∀ b, b ≤ ob → w1.heap[b]? = V.heap[b]? := fun b hb => by
    rw [hg.block b (by simp; omega) (fun e => by have := (hu b e.symm).1; omega)]
    exact heap_alloc_old V _ (by omega)
  have hsz : V.heap.size < w1.heap.size := by have := hg.size; simp at this; omega
  have hk : Kept G V (w1.setCell ⟨ob, 0, none⟩ v') := fun b hb => by
    have := hG b hb
    rw [Below.heap_setCell w1 ⟨ob, 0, none⟩ v' b (by show b ≠ ob; omega)]
    exact hblk b (by omega)
  have hBo : Blk w1 ob #[u, .int .i64 ser] 24 := (hblk ob (Nat.le_refl _)).trans h2
  refine ⟨fun p hp => ?_, (hBo.put 0 v').is (by simp), ?_, ?_⟩
  · rcases List.mem_append.1 hp with hp | hp
    · exact tenR_keep (h1 p hp) (fun b h => h) hk
    · simp at hp; subst hp; exact tenR_keep hx (fun b h => h) hk
  · rw [show (ps ++ [(x, cs)]).length = ps.length + 1 by simp, show (ps ++ [(x, cs)]).flatMap Prod.snd = ps.flatMap Prod.snd ++ cs by simp]
    refine ⟨hown.1, ?_⟩
    rcases hown.2 with h0 | ⟨g, cap, cur, e, hbg, hgg, hr⟩
    · exact Or.inl h0
    · exact Or.inr ⟨g, cap, cur, e, hbg, by rw [Below.heap_setCell w1 ⟨ob, 0, none⟩ v' g (by show g ≠ ob; omega)]; exact hgg, hr⟩
  · exact ((h4.alloc (by omega) o).grown hg (by simp; omega) (fun k e => by have := (hu k e).1; omega)).setCell (by show ob ≤ ob; omega) _
theorem ten_info : (Try.prog.info? 38).map (fun i => (i.zero, i.size, i.bytes)) = some (some (.agg #[.string ByteArray.empty, .int .i64 0, .int .i64 0, .slice none 0 0]), 4, 56) := by kernel_rfl
def PutAt (t : Rn.T) (l : List Rn.T) (ser : Int) (G : Nat → Prop) (ob : Nat) (W0 : World) (d v : Value) (wr : World) : Prop :=
  ∃ (j : Nat) (u : Value) (ps : List (Rn.T × List Value)), j ≤ l.length ∧ v = .int .i64 (j : Nat) ∧ d = .bool (Rn.putRun t (l.take j)).2 ∧ ps.map Prod.fst = (Rn.putRun t (l.take j)).1 ∧ PutI G ob W0 ser ps u wr
theorem putI_box {G : Nat → Prop} {ob : Nat} {w : World} {ser : Int} {ps : List (Rn.T × List Value)} {u : Value} {V w1 : World} {o : Obj} (h : PutI G ob w ser ps u V) (hg : (V.alloc o).grownBy w1 u.ownBlock) : Blk w1 ob #[u, .int .i64 ser] 24 := by
  obtain ⟨h1, h2, h3, h4⟩ := h
  have hs := h2.lt
  have hu := h3.lt
  refine Eq.trans ?_ h2
  rw [hg.block ob (by simp; omega) (fun e => by have := (hu ob e.symm).1; omega)]
  exact heap_alloc_old V _ hs
theorem putI_kept {G : Nat → Prop} {ob : Nat} {w : World} {ser : Int} {ps : List (Rn.T × List Value)} {u v' : Value} {V w1 : World} {o : Obj} (h : PutI G ob w ser ps u V) (hg : (V.alloc o).grownBy w1 u.ownBlock) : Kept (fun b => b < ob) V (w1.setCell ⟨ob, 0, none⟩ v') := fun b hb => by
  obtain ⟨h1, h2, h3, h4⟩ := h
  have hs := h2.lt
  have hu := h3.lt
  rw [Below.heap_setCell w1 ⟨ob, 0, none⟩ v' b (by show b ≠ ob; omega), hg.block b (by simp; omega) (fun e => by have := (hu b e.symm).1; omega)]
  exact heap_alloc_old V _ (by omega)
theorem put_end {G : Nat → Prop} {w W0 : World} {ser : Int} {ps : List (Rn.T × List Value)} {u : Value} {V : World} {r : List Rn.T} (hG : ∀ b, G b → b < w.heap.size) (hb : Below w.heap.size w W0) (hp : ps.map Prod.fst = r) (h : PutI G (w.heap.size + 1 + 1 + 1) W0 ser ps u V) :
    RetState G ⟨r, ser⟩ w (.returned (.agg #[u, .int .i64 ser])) (V.setRow (w.heap.size + 1 + 1) #[u, .int .i64 ser]) := by
  subst hp
  obtain ⟨h1, h2, h3, h4⟩ := h
  have hs := h2.lt
  have hu := h3.lt
  have hbk : ∀ b, b ≠ w.heap.size + 1 + 1 → (V.setRow (w.heap.size + 1 + 1) #[u, .int .i64 ser]).heap[b]? = V.heap[b]? := fun b hb => setRow_other V _ _ hb
  have hBV : Below w.heap.size w V := hb.trans (h4.mono (by omega))
  have hrow : ∀ p ∈ ps, (Prod.snd p).length = 4 := fun p hp => by
    obtain ⟨A', c', e1, -⟩ := h1 p hp
    rw [e1]; rfl
  obtain ⟨A', c', rfl, h5, h6⟩ := rows_own (n := 4) (R := fun (p : Rn.T × List Value) cs => tenR G V p.1 cs) hrow h1 h3
  refine ⟨A', c', by rw [List.length_map], by rw [List.length_map]; exact h5, below_row hBV (by omega) _, ?_⟩
  have h7 := rows_map (R := tenR G V) Prod.fst h6
  refine rows_keep h7 (fun x cs _ h => tenR_keep h (fun b h => Or.inl h) (fun b h => hbk b (by have := hG b h; omega))) (fun b h => Or.inr ⟨by omega, by rw [setRow_size]; exact h.2⟩) (fun b h => hbk b (by omega))
theorem put_any (s : Rn.S) (t : Rn.T) (A B : Option Addr) (c d : Nat) (G : Nat → Prop) (w : World) (hG : ∀ b, G b → b < w.heap.size) (hl : s.tens.length ≤ 1000) (hT : TensAt G w A s.tens) (ht : tenR G w t [.string (t).name, .int .i64 (t).epoch, .int .i64 (t).next, .slice (B) (t).keys.length (d)]) :
    Calls Try.prog 32 #[.agg #[.slice (A) (s).tens.length (c), .int .i64 (s).serial], .agg #[.string (t).name, .int .i64 (t).epoch, .int .i64 (t).next, .slice (B) (t).keys.length (d)]] w (RetState G ⟨Rn.putT s.tens t, s.serial⟩ w) := by
  obtain ⟨i0, hi, hz0, hz1, hz2⟩ := info_parts ten_info
  have HG := hid_mk hG
  have HG3 : Hid (∀ b, G b → b < w.heap.size + 1 + 1 + 1) := hid_mk (fun b h => by have := hG b h; omega)
  obtain ⟨W0, hW0⟩ : ∃ W0, W0 = ((((w.alloc (.cells #[.slice (A) (s).tens.length (c), .int .i64 (s).serial] 24)).alloc (.cells #[.string (t).name, .int .i64 (t).epoch, .int .i64 (t).next, .slice (B) (t).keys.length (d)] 38)).alloc (.cells #[.slice none 0 0, .int .i64 0] 24)).alloc (.cells #[.slice none 0 0, .int .i64 s.serial] 24)) := ⟨_, rfl⟩
  have hb0 : Below w.heap.size w W0 := by rw [hW0]; exact ((((Below.refl _ _).alloc (Nat.le_refl _) _).alloc (by simp) _).alloc (by simp; omega) _).alloc (by simp; omega) _
  have hs0 : W0.heap.size = w.heap.size + 4 := by rw [hW0]; simp
  have hB1 : Blk W0 w.heap.size #[.slice (A) (s).tens.length (c), .int .i64 (s).serial] 24 := by rw [hW0]; exact (((Blk.new w _ _).alloc _).alloc _).alloc _
  have hB2 : Blk W0 (w.heap.size + 1) #[.string (t).name, .int .i64 (t).epoch, .int .i64 (t).next, .slice (B) (t).keys.length (d)] 38 := by rw [hW0]; exact ((blk_new (by simp)).alloc _).alloc _
  have hB3 : Blk W0 (w.heap.size + 1 + 1) #[.slice none 0 0, .int .i64 0] 24 := by rw [hW0]; exact (blk_new (by simp)).alloc _
  have hB4 : Blk W0 (w.heap.size + 1 + 1 + 1) #[.slice none 0 0, .int .i64 s.serial] 24 := by rw [hW0]; exact blk_new (by simp)
  have HB0 := hid_mk hb0
  have HS0 := hid_mk hs0
  have HX1 := hid_mk hB1
  have HX2 := hid_mk hB2
  have HX3 := hid_mk hB3
  have HT := hid_mk hT
  have HTN := hid_mk ht
  have H4 := hid_mk hB4
  have HEND : Hid (∀ (ps : List (Rn.T × List Value)) (u : Value) (V : World), ps.map Prod.fst = Rn.putT s.tens t → PutI G (w.heap.size + 1 + 1 + 1) W0 s.serial ps u V → RetState G ⟨Rn.putT s.tens t, s.serial⟩ w (.returned (.agg #[u, .int .i64 s.serial])) (V.setRow (w.heap.size + 1 + 1) #[u, .int .i64 s.serial])) := hid_mk (fun ps u V h1 h2 => put_end (W0 := W0) hG hb0 h1 h2)
  have hW := hid_mk hW0
  clear hG hb0 hs0 hB1 hB2 hB3 hB4 hT ht hW0
  go_enter Try.func32, Try.ntmps32
  go_wp2
  rw [← hW.out]
  go_loopw [6, 7] (fun d v wr => PutAt t s.tens s.serial G (w.heap.size + 1 + 1 + 1) W0 d v wr) (fun _ v _ => s.tens.length - (intOf v).toNat)
  case atStart => exact ⟨0, _, [], Nat.zero_le _, rfl, rfl, rfl, fun p hp => absurd hp (by simp), H4.out, World.ownsRow_nil _ _ _ _, Below.refl _ _⟩
  case round =>
    obtain ⟨j, u, ps, hj, rfl, rfl, hps, hI⟩ := hrel
    obtain ⟨uA, uc, rfl⟩ := own_slice hI.2.2.1
    have hpl : ps.length ≤ 1001 := by
      have h := Rn.putRun_len t (s.tens.take j)
      rw [List.length_take, ← hps, List.length_map] at h
      split at h <;> omega
    have hbw : Below w.heap.size w wr := HB0.out.trans (hI.2.2.2.mono (by omega))
    have hsw : w.heap.size + 4 ≤ wr.heap.size := by have := hI.2.2.2.size; have := HS0.out; omega
    have hsx := HX1.out.below hI.2.2.2 (by omega)
    have hsy := HX2.out.below hI.2.2.2 (by omega)
    have HX1R := hid_mk hsx
    have HX2R := hid_mk hsy
    have HI := hid_mk hI
    have HPS := hid_mk hps
    have HTR := hid_mk (tenR_keep HTN.out (fun b h => h) (kept_below hbw HG.out))
    have hK2 := tensAt_keep HT.out (fun b h => h) (kept_below hbw HG.out)
    clear hI hps
    by_cases hlt : j < s.tens.length
    case neg =>
      have hn : ¬ ((j : Int) < (s.tens.length : Int)) := by omega
      have hjl : s.tens.take j = s.tens := List.take_of_length_le (by omega)
      rw [hjl] at HPS
      rw [hjl]
      have HEN : Hid (∀ (ps : List (Rn.T × List Value)) (u : Value) (V : World), ps.map Prod.fst = (if (Rn.putRun t s.tens).2 = false then (Rn.putRun t s.tens).1 ++ [t] else (Rn.putRun t s.tens).1) → PutI G (w.heap.size + 1 + 1 + 1) W0 s.serial ps u V → RetState G ⟨Rn.putT s.tens t, s.serial⟩ w (.returned (.agg #[u, .int .i64 s.serial])) (V.setRow (w.heap.size + 1 + 1) #[u, .int .i64 s.serial])) := hid_mk HEND.out
      (have s0 : wr.cell? ⟨w.heap.size, 0, none⟩ = some (.slice (A) (s).tens.length (c)) := hsx.cell 0; have s1 : wr.cell? ⟨w.heap.size, 1, none⟩ = some (.int .i64 (s).serial) := hsx.cell 1; have sf : ∀ i, wr.frozen? ⟨w.heap.size, i, none⟩ = false := hsx.frozen)
      (have t0 : wr.cell? ⟨w.heap.size + 1, 0, none⟩ = some (.string (t).name) := hsy.cell 0; have t1 : wr.cell? ⟨w.heap.size + 1, 1, none⟩ = some (.int .i64 (t).epoch) := hsy.cell 1; have t2 : wr.cell? ⟨w.heap.size + 1, 2, none⟩ = some (.int .i64 (t).next) := hsy.cell 2; have t3 : wr.cell? ⟨w.heap.size + 1, 3, none⟩ = some (.slice (B) (t).keys.length (d)) := hsy.cell 3; have tf : ∀ i, wr.frozen? ⟨w.heap.size + 1, i, none⟩ = false := hsy.frozen)
      clear HEND hK2 hsx hsy hbw
      generalize Rn.putRun t s.tens = r at *
      obtain ⟨qs, dn⟩ := r
      dsimp only at HPS HEN ⊢
      cases dn with
      | true =>
        have HR := hid_mk (HEN.out ps _ wr HPS.out HI.out)
        have hob := HI.out.2.1
        have HO3 := hid_mk (HX3.out.below HI.out.2.2.2 (by omega))
        clear HEN hob
        go_wp2_with (first | (refine load_row 24 rfl _ rfl (w.heap.size + 1 + 1 + 1) _ 24 HI.out.2.1 rfl _ Try.underlying24 rfl (by kernel_rfl) ?_) | (refine store_row 24 rfl _ _ rfl (w.heap.size + 1 + 1) _ _ 24 HO3.out rfl rfl (by kernel_rfl) rfl rfl ?_))
        refine ret_row rfl (w.heap.size + 1 + 1) _ _ HO3.out.row rfl _ Try.underlying24 rfl ?_ rfl ?_
        · kernel_rfl
        · exact HR.out
      | false =>
        have hob := HI.out.2.1
        (have o0 : wr.cell? ⟨w.heap.size + 1 + 1 + 1, 0, none⟩ = some (.slice uA ps.length uc) := hob.cell 0; have o1 : wr.cell? ⟨w.heap.size + 1 + 1 + 1, 1, none⟩ = some (.int .i64 s.serial) := hob.cell 1; have of : ∀ i, wr.frozen? ⟨w.heap.size + 1 + 1 + 1, i, none⟩ = false := hob.frozen)
        clear hob
        have HLB1 := hid_mk (fun g hg => (HI.out.2.2.1.lt g hg).1)
        have HNB1 := hid_mk (World.news_of_block (Blk.new wr #[.string (t).name, .int .i64 (t).epoch, .int .i64 (t).next, .slice (B) (t).keys.length (d)] 38))
        have hownA1 := HI.out.2.2.1.alloc (.cells #[.string (t).name, .int .i64 (t).epoch, .int .i64 (t).next, .slice (B) (t).keys.length (d)] 38)
        go_wp2_with (at_builtin; refine wpList_append_own_at _ rfl _ _ 22 rfl (w.heap.size + 1 + 1 + 1 + 1) 38 i0 _ 4 56 Try.underlying22 hi hz0 hz1 hz2 rfl (by decide) _ _ (ps.flatMap Prod.snd) rfl hownA1 ⟨wr.heap.size, 0, none⟩ 1 1 [.string (t).name, .int .i64 (t).epoch, .int .i64 (t).next, .slice (B) (t).keys.length (d)] rfl rfl ?_ ?_ ?_ ?_ ?_ ?_)
        any_goals (first | exact HNB1.out | exact ⟨rfl, rfl, rfl, rfl⟩ | (unfold maxLen; simp; omega) | omega | (simp; omega))
        intro v1 w1 hown1 hg1 hnil1 hat1
        obtain ⟨Av1, cv1, rfl⟩ := own_slice hown1
        have hsz1 : wr.heap.size < w1.heap.size := by have := hg1.size; simp at this; omega
        have HI1 := hid_mk (putI_grown HG3.out HI.out HTR.out _ hown1 hg1)
        have HK1 := hid_mk (putI_kept (v' := .slice Av1 (ps.length + 1) cv1) HI.out hg1)
        have hob1 := putI_box HI.out hg1
        (have p10 : w1.cell? ⟨w.heap.size + 1 + 1 + 1, 0, none⟩ = some ((.slice uA ps.length uc)) := hob1.cell 0; have p11 : w1.cell? ⟨w.heap.size + 1 + 1 + 1, 1, none⟩ = some (.int .i64 s.serial) := hob1.cell 1; have p1f : ∀ i, w1.frozen? ⟨w.heap.size + 1 + 1 + 1, i, none⟩ = false := hob1.frozen)
        clear hown1 hg1 hnil1 hat1 hob1
        have HR := hid_mk (HEN.out _ _ _ (by rw [List.map_append, HPS.out]; simp) HI1.out)
        have HO3 := hid_mk (HX3.out.below HI1.out.2.2.2 (by omega))
        go_wp2_with (first | (refine load_row 24 rfl _ rfl (w.heap.size + 1 + 1 + 1) _ 24 HI1.out.2.1 rfl _ Try.underlying24 rfl (by kernel_rfl) ?_) | (refine store_row 24 rfl _ _ rfl (w.heap.size + 1 + 1) _ _ 24 HO3.out rfl rfl (by kernel_rfl) rfl rfl ?_))
        refine ret_row rfl (w.heap.size + 1 + 1) _ _ HO3.out.row rfl _ Try.underlying24 rfl ?_ rfl ?_
        · kernel_rfl
        · exact HR.out
    obtain ⟨b, o, A', c', e1, hg1, hft, hsl, hsn, hks, y0, y1, y2, y3⟩ := tens_at hK2 hlt
    have hgb := HG.out b hg1
    have hgw : b < wr.heap.size := Nat.lt_of_lt_of_le hgb hbw.size
    subst e1
    have HST := hid_mk (Rn.putRun_take (t := t) hlt)
    unfold Rn.putStep at HST
    have HXR : Hid (tenR G wr s.tens[j] [.string (s.tens[j]).name, .int .i64 (s.tens[j]).epoch, .int .i64 (s.tens[j]).next, .slice (A') (s.tens[j]).keys.length (c')]) := hid_mk ⟨A', c', rfl, hft, hsl, hsn, hks⟩
    obtain ⟨A9, c9, -, -, -, htn, -⟩ := HTR.out
    clear hK2 HEND hft hsl hks
    generalize s.tens[j] = q at *
    generalize hr : Rn.putRun t (s.tens.take j) = r at *
    obtain ⟨qs, dn⟩ := r
    dsimp only at HST HPS ⊢
    have hqs := HPS.out
    subst hqs
    obtain ⟨cv, hcv⟩ : ∃ cv, cv = cmpL q.name.data.toList t.name.data.toList := ⟨_, rfl⟩
    rw [← hcv] at HST
    have HC : Hid (∀ d os, Calls Try.prog 41 #[.string q.name, .string t.name] (grow (redrawn wr d) os) (fun e w'' => e = .returned (.int .i64 cv) ∧ ∃ p : Regrown, w'' = grow (redrawn wr p.d) p.os)) := hid_mk (fun d os => by rw [hcv]; exact retN_qq (rcmp_any _ _ _ hsn htn))
    have zs : ∀ d os, (grow (redrawn wr d) os).cell? ⟨w.heap.size, 0, none⟩ = some (.slice (some ⟨b, o, none⟩) s.tens.length c) := fun d os => cell_regrown (hsx.cell 0) d os
    have zt : ∀ d os, (grow (redrawn wr d) os).cell? ⟨w.heap.size + 1, 0, none⟩ = some (.string t.name) := fun d os => cell_regrown (hsy.cell 0) d os
    have zx : ∀ d os, (grow (redrawn wr d) os).cell? ⟨b, o + j * 4, none⟩ = some (.string q.name) := fun d os => cell_regrown y0 d os
    have hjl : (j : Int) < (s.tens.length : Int) := by omega
    have hjl2 : j < s.tens.length := hlt
    (have s0 : wr.cell? ⟨w.heap.size, 0, none⟩ = some (.slice ((some ⟨b, o, none⟩)) (s).tens.length (c)) := hsx.cell 0; have s1 : wr.cell? ⟨w.heap.size, 1, none⟩ = some (.int .i64 (s).serial) := hsx.cell 1; have sf : ∀ i, wr.frozen? ⟨w.heap.size, i, none⟩ = false := hsx.frozen)
    clear hcv hr hsx hsy htn hsn
    go_wp2
    (refine wp_region_quiet_below (by kernel_rfl) (by kernel_rfl) ?_; (repeat (first | go_big_quiet_step ((go_at_call 41; exact HC.out _ _)) | quiet_step ((go_at_call 41; exact HC.out _ _)))); refine wpQuiet_nil ?_; intro _ hw'; obtain ⟨⟨nq, osq⟩, hw''⟩ := hw'; subst hw'')
    have hvb := below_regrown wr nq osq
    have HBV := hid_mk (hbw.trans (hvb.mono hbw.size))
    have HIV := hid_mk (putI_keep HG3.out HI.out hvb)
    have HXV := hid_mk (tenR_keep HXR.out (fun b h => h) (kept_below hvb (fun b h => Nat.lt_of_lt_of_le (HG.out b h) hbw.size)))
    have HTV := hid_mk (tenR_keep HTR.out (fun b h => h) (kept_below hvb (fun b h => Nat.lt_of_lt_of_le (HG.out b h) hbw.size)))
    have hsv : w.heap.size + 4 ≤ (grow (redrawn wr nq) osq).heap.size := by have := hvb.size; omega
    have k0 : (grow (redrawn wr nq) osq).cell? ⟨b, o + j * 4, none⟩ = some (.string q.name) := cell_regrown y0 nq osq
    have k1 : (grow (redrawn wr nq) osq).cell? ⟨b, o + j * 4 + 1, none⟩ = some (.int .i64 q.epoch) := cell_regrown y1 nq osq
    have k2 : (grow (redrawn wr nq) osq).cell? ⟨b, o + j * 4 + 2, none⟩ = some (.int .i64 q.next) := cell_regrown y2 nq osq
    have k3 : (grow (redrawn wr nq) osq).cell? ⟨b, o + j * 4 + 3, none⟩ = some (.slice A' q.keys.length c') := cell_regrown y3 nq osq
    have HX1V := hid_mk (HX1R.out.call hvb)
    have HX2V := hid_mk (HX2R.out.call hvb)
    clear hvb zs zt zx y0 y1 y2 y3 HC
    generalize grow (redrawn wr nq) osq = V at *
    clear HI HXR HTR HX1R HX2R
    by_cases hz : cv = 0
    · subst hz
      have hq0 : ((0 : Int) != 0) = false := rfl
      cases dn with
      | true =>
        rw [if_neg (by simp), if_pos rfl] at HST
        have hob := HIV.out.2.1
        have HIZ := HIV
        have HX := hid_mk (show PutAt t s.tens s.serial G (w.heap.size + 1 + 1 + 1) W0 (.bool true) (.int .i64 ((j + 1 : Nat) : Int)) V from ⟨j + 1, (.slice uA ps.length uc), ps, by omega, rfl, by rw [HST.out], by rw [HST.out], HIZ.out⟩)
        go_wp2
        go_roundw
        case rel => exact HX.out
        case measure => simp [intOf]; omega
      | false =>
        rw [if_pos ⟨rfl, Int.le_refl _⟩, if_pos rfl] at HST
        have hob := HIV.out.2.1
        have hsy := HX2V.out
        (have o0 : V.cell? ⟨w.heap.size + 1 + 1 + 1, 0, none⟩ = some (.slice uA ps.length uc) := hob.cell 0; have o1 : V.cell? ⟨w.heap.size + 1 + 1 + 1, 1, none⟩ = some (.int .i64 s.serial) := hob.cell 1; have of : ∀ i, V.frozen? ⟨w.heap.size + 1 + 1 + 1, i, none⟩ = false := hob.frozen)
        (have t0 : V.cell? ⟨w.heap.size + 1, 0, none⟩ = some (.string (t).name) := hsy.cell 0; have t1 : V.cell? ⟨w.heap.size + 1, 1, none⟩ = some (.int .i64 (t).epoch) := hsy.cell 1; have t2 : V.cell? ⟨w.heap.size + 1, 2, none⟩ = some (.int .i64 (t).next) := hsy.cell 2; have t3 : V.cell? ⟨w.heap.size + 1, 3, none⟩ = some (.slice (B) (t).keys.length (d)) := hsy.cell 3; have tf : ∀ i, V.frozen? ⟨w.heap.size + 1, i, none⟩ = false := hsy.frozen)
        clear hob hsy
        have HLB1 := hid_mk (fun g hg => (HIV.out.2.2.1.lt g hg).1)
        have HNB1 := hid_mk (World.news_of_block (Blk.new V #[.string (t).name, .int .i64 (t).epoch, .int .i64 (t).next, .slice (B) (t).keys.length (d)] 38))
        have hownA1 := HIV.out.2.2.1.alloc (.cells #[.string (t).name, .int .i64 (t).epoch, .int .i64 (t).next, .slice (B) (t).keys.length (d)] 38)
        go_wp2_with (at_builtin; refine wpList_append_own_at _ rfl _ _ 22 rfl (w.heap.size + 1 + 1 + 1 + 1) 38 i0 _ 4 56 Try.underlying22 hi hz0 hz1 hz2 rfl (by decide) _ _ (ps.flatMap Prod.snd) rfl hownA1 ⟨V.heap.size, 0, none⟩ 1 1 [.string (t).name, .int .i64 (t).epoch, .int .i64 (t).next, .slice (B) (t).keys.length (d)] rfl rfl ?_ ?_ ?_ ?_ ?_ ?_)
        any_goals (first | exact HNB1.out | exact ⟨rfl, rfl, rfl, rfl⟩ | (unfold maxLen; simp; omega) | omega | (simp; omega))
        intro v1 w1 hown1 hg1 hnil1 hat1
        obtain ⟨Av1, cv1, rfl⟩ := own_slice hown1
        have hsz1 : V.heap.size < w1.heap.size := by have := hg1.size; simp at this; omega
        have HI1 := hid_mk (putI_grown HG3.out HIV.out HTV.out _ hown1 hg1)
        have HK1 := hid_mk (putI_kept (v' := .slice Av1 (ps.length + 1) cv1) HIV.out hg1)
        have hob1 := putI_box HIV.out hg1
        (have p10 : w1.cell? ⟨w.heap.size + 1 + 1 + 1, 0, none⟩ = some ((.slice uA ps.length uc)) := hob1.cell 0; have p11 : w1.cell? ⟨w.heap.size + 1 + 1 + 1, 1, none⟩ = some (.int .i64 s.serial) := hob1.cell 1; have p1f : ∀ i, w1.frozen? ⟨w.heap.size + 1 + 1 + 1, i, none⟩ = false := hob1.frozen)
        clear hown1 hg1 hnil1 hat1 hob1
        have HIZ := HI1
        have HX := hid_mk (show PutAt t s.tens s.serial G (w.heap.size + 1 + 1 + 1) W0 (.bool true) (.int .i64 ((j + 1 : Nat) : Int)) (w1.setCell ⟨w.heap.size + 1 + 1 + 1, 0, none⟩ (.slice Av1 (ps.length + 1) cv1)) from ⟨j + 1, (.slice Av1 (ps.length + 1) cv1), (ps ++ [(t, ([.string (t).name, .int .i64 (t).epoch, .int .i64 (t).next, .slice (B) (t).keys.length (d)] : List Value))]), by omega, rfl, by rw [HST.out], by rw [HST.out]; simp, HIZ.out⟩)
        go_wp2
        go_roundw
        case rel => exact HX.out
        case measure => simp [intOf]; omega
    · have hq0 : (cv != 0) = true := by simpa using hz
      cases dn with
      | true =>
        rw [if_neg (by simp), if_neg hz] at HST
        have hobX := HIV.out.2.1
        have zo2 : ∀ p : InB (fun x => Below V.heap.size V x), p.w.cell? ⟨w.heap.size + 1 + 1 + 1, 0, none⟩ = some (.slice uA ps.length uc) := fun p => cell_in p.ok (hobX.cell 0)
        have zs2 : ∀ p : InB (fun x => Below V.heap.size V x), p.w.cell? ⟨w.heap.size, 0, none⟩ = some (.slice (some ⟨b, o, none⟩) s.tens.length c) := fun p => cell_in p.ok (HX1V.out.cell 0)
        have za2 : ∀ p : InB (fun x => Below V.heap.size V x), p.w.cell? ⟨b, o + j * 4, none⟩ = some (.string q.name) := fun p => cell_in p.ok k0
        have zb2 : ∀ p : InB (fun x => Below V.heap.size V x), p.w.cell? ⟨b, o + j * 4 + 1, none⟩ = some (.int .i64 q.epoch) := fun p => cell_in p.ok k1
        have zc2 : ∀ p : InB (fun x => Below V.heap.size V x), p.w.cell? ⟨b, o + j * 4 + 2, none⟩ = some (.int .i64 q.next) := fun p => cell_in p.ok k2
        have zd2 : ∀ p : InB (fun x => Below V.heap.size V x), p.w.cell? ⟨b, o + j * 4 + 3, none⟩ = some (.slice A' q.keys.length c') := fun p => cell_in p.ok k3
        go_wp2
        (refine region_lead (S := Meets (fun x => Below V.heap.size V x)) 7 8 [0, 1, 2, 3, 4, 5, 6] _ [_, _, _, _, _, _, _] (by kernel_rfl) (by kernel_rfl) rfl rfl (fun d v c a w h => by cases d <;> exact h) (meets_mk ?_) ?_)
        · exact (Below.refl _ _).drew
        ((repeat (refine wpReads_step (fun K hK => ?_); go_simp; (first | (refine hK _ ?_; clear hK K) | (apply Exists.intro; refine ⟨fun _ => rfl, hK _ ?_⟩; clear hK K)))); refine wpReads_nil ?_; intro J hJ; go_simp)
        refine hJ _ _ (meets_mk ?_) ?_
        · exact ((Below.refl _ _).alloc (Nat.le_refl _) _).drew
        clear hJ zo2 zs2 za2 zb2 zc2 zd2
        have HIV2 := hid_mk (putI_keep HG3.out HIV.out (Below.refl _ _).drew)
        have HXV2 : Hid (tenR G V.drew q [.string (q).name, .int .i64 (q).epoch, .int .i64 (q).next, .slice (A') (q).keys.length (c')]) := hid_mk (tenR_keep HXV.out (fun b h => h) (fun b h => rfl))
        clear hobX
        have HLB2 := hid_mk (fun g hg => (HIV2.out.2.2.1.lt g hg).1)
        have HNB2 := hid_mk (World.news_of_block (Blk.new V #[.string (q).name, .int .i64 (q).epoch, .int .i64 (q).next, .slice (A') (q).keys.length (c')] 38))
        have hownA2 : ((V.alloc (.cells #[.string (q).name, .int .i64 (q).epoch, .int .i64 (q).next, .slice (A') (q).keys.length (c')] 38)).drew).ownsRow (w.heap.size + 1 + 1 + 1 + 1) 38 4 (.slice uA ps.length uc) ps.length (ps.flatMap Prod.snd) := HIV2.out.2.2.1.alloc (.cells #[.string (q).name, .int .i64 (q).epoch, .int .i64 (q).next, .slice (A') (q).keys.length (c')] 38)
        simp only [List.drop_succ_cons, List.drop_zero]
        go_wp2_with (at_builtin; refine wpList_append_own_at _ rfl _ _ 22 rfl (w.heap.size + 1 + 1 + 1 + 1) 38 i0 _ 4 56 Try.underlying22 hi hz0 hz1 hz2 rfl (by decide) _ _ (ps.flatMap Prod.snd) rfl hownA2 ⟨V.heap.size, 0, none⟩ 1 1 [.string (q).name, .int .i64 (q).epoch, .int .i64 (q).next, .slice (A') (q).keys.length (c')] rfl rfl ?_ ?_ ?_ ?_ ?_ ?_)
        any_goals (first | exact HNB2.out | exact ⟨rfl, rfl, rfl, rfl⟩ | (unfold maxLen; simp; omega) | omega | (simp; omega))
        intro v2 w2 hown2 hg2 hnil2 hat2
        obtain ⟨Av2, cv2, rfl⟩ := own_slice hown2
        have hsz2 : V.heap.size < w2.heap.size := by have := hg2.size; simp at this; omega
        have HI2 := hid_mk (putI_grown (v' := .slice Av2 (ps.length + 1) cv2) HG3.out HIV2.out HXV2.out (.cells #[.string (q).name, .int .i64 (q).epoch, .int .i64 (q).next, .slice (A') (q).keys.length (c')] 38) hown2 hg2)
        have hob2 := putI_box (o := .cells #[.string (q).name, .int .i64 (q).epoch, .int .i64 (q).next, .slice (A') (q).keys.length (c')] 38) HIV2.out hg2
        (have p20 : w2.cell? ⟨w.heap.size + 1 + 1 + 1, 0, none⟩ = some ((.slice uA ps.length uc)) := hob2.cell 0; have p21 : w2.cell? ⟨w.heap.size + 1 + 1 + 1, 1, none⟩ = some (.int .i64 s.serial) := hob2.cell 1; have p2f : ∀ i, w2.frozen? ⟨w.heap.size + 1 + 1 + 1, i, none⟩ = false := hob2.frozen)
        clear hown2 hg2 hnil2 hat2 hob2
        have HIZ := HI2
        have HX := hid_mk (show PutAt t s.tens s.serial G (w.heap.size + 1 + 1 + 1) W0 (.bool true) (.int .i64 ((j + 1 : Nat) : Int)) (w2.setCell ⟨w.heap.size + 1 + 1 + 1, 0, none⟩ (.slice Av2 (ps.length + 1) cv2)) from ⟨j + 1, (.slice Av2 (ps.length + 1) cv2), (ps ++ [(q, [.string (q).name, .int .i64 (q).epoch, .int .i64 (q).next, .slice (A') (q).keys.length (c')])]), by omega, rfl, by rw [HST.out], by rw [HST.out]; simp, HIZ.out⟩)
        go_wp2
        go_roundw
        case rel => exact HX.out
        case measure => simp [intOf]; omega
      | false =>
        by_cases hp : 0 ≤ cv
        · rw [if_pos ⟨rfl, hp⟩, if_neg hz] at HST
          have hp2 : decide (0 ≤ cv) = true := by simpa using hp
          have hob := HIV.out.2.1
          have hsy := HX2V.out
          (have o0 : V.cell? ⟨w.heap.size + 1 + 1 + 1, 0, none⟩ = some (.slice uA ps.length uc) := hob.cell 0; have o1 : V.cell? ⟨w.heap.size + 1 + 1 + 1, 1, none⟩ = some (.int .i64 s.serial) := hob.cell 1; have of : ∀ i, V.frozen? ⟨w.heap.size + 1 + 1 + 1, i, none⟩ = false := hob.frozen)
          (have t0 : V.cell? ⟨w.heap.size + 1, 0, none⟩ = some (.string (t).name) := hsy.cell 0; have t1 : V.cell? ⟨w.heap.size + 1, 1, none⟩ = some (.int .i64 (t).epoch) := hsy.cell 1; have t2 : V.cell? ⟨w.heap.size + 1, 2, none⟩ = some (.int .i64 (t).next) := hsy.cell 2; have t3 : V.cell? ⟨w.heap.size + 1, 3, none⟩ = some (.slice (B) (t).keys.length (d)) := hsy.cell 3; have tf : ∀ i, V.frozen? ⟨w.heap.size + 1, i, none⟩ = false := hsy.frozen)
          clear hob hsy
          have HLB1 := hid_mk (fun g hg => (HIV.out.2.2.1.lt g hg).1)
          have HNB1 := hid_mk (World.news_of_block (Blk.new V #[.string (t).name, .int .i64 (t).epoch, .int .i64 (t).next, .slice (B) (t).keys.length (d)] 38))
          have hownA1 := HIV.out.2.2.1.alloc (.cells #[.string (t).name, .int .i64 (t).epoch, .int .i64 (t).next, .slice (B) (t).keys.length (d)] 38)
          go_wp2_with (at_builtin; refine wpList_append_own_at _ rfl _ _ 22 rfl (w.heap.size + 1 + 1 + 1 + 1) 38 i0 _ 4 56 Try.underlying22 hi hz0 hz1 hz2 rfl (by decide) _ _ (ps.flatMap Prod.snd) rfl hownA1 ⟨V.heap.size, 0, none⟩ 1 1 [.string (t).name, .int .i64 (t).epoch, .int .i64 (t).next, .slice (B) (t).keys.length (d)] rfl rfl ?_ ?_ ?_ ?_ ?_ ?_)
          any_goals (first | exact HNB1.out | exact ⟨rfl, rfl, rfl, rfl⟩ | (unfold maxLen; simp; omega) | omega | (simp; omega))
          intro v1 w1 hown1 hg1 hnil1 hat1
          obtain ⟨Av1, cv1, rfl⟩ := own_slice hown1
          have hsz1 : V.heap.size < w1.heap.size := by have := hg1.size; simp at this; omega
          have HI1 := hid_mk (putI_grown HG3.out HIV.out HTV.out _ hown1 hg1)
          have HK1 := hid_mk (putI_kept (v' := .slice Av1 (ps.length + 1) cv1) HIV.out hg1)
          have hob1 := putI_box HIV.out hg1
          (have p10 : w1.cell? ⟨w.heap.size + 1 + 1 + 1, 0, none⟩ = some ((.slice uA ps.length uc)) := hob1.cell 0; have p11 : w1.cell? ⟨w.heap.size + 1 + 1 + 1, 1, none⟩ = some (.int .i64 s.serial) := hob1.cell 1; have p1f : ∀ i, w1.frozen? ⟨w.heap.size + 1 + 1 + 1, i, none⟩ = false := hob1.frozen)
          clear hown1 hg1 hnil1 hat1 hob1
          go_wp2_with fail
          have hkv := HK1.out
          have m0 := (hkv.cell (by omega) _).trans k0
          have m1 := (hkv.cell (by omega) _).trans k1
          have m2 := (hkv.cell (by omega) _).trans k2
          have m3 := (hkv.cell (by omega) _).trans k3
          have HX1Z := hid_mk (show Blk (w1.setCell ⟨w.heap.size + 1 + 1 + 1, 0, none⟩ (.slice Av1 (ps.length + 1) cv1)) w.heap.size #[.slice (some ⟨b, o, none⟩) (s).tens.length (c), .int .i64 (s).serial] 24 from (hkv _ (by omega)).trans HX1V.out)
          have HXZ := hid_mk (tenR_keep HXV.out (fun b h => h) (fun b hb => hkv b (HG3.out b hb)))
          have hsz : V.heap.size < (w1.setCell ⟨w.heap.size + 1 + 1 + 1, 0, none⟩ (.slice Av1 (ps.length + 1) cv1)).heap.size := by simp; omega
          clear hkv k0 k1 k2 k3 HX1V HXV
          generalize w1.setCell ⟨w.heap.size + 1 + 1 + 1, 0, none⟩ (.slice Av1 (ps.length + 1) cv1) = U at *
          have k0 := m0
          have k1 := m1
          have k2 := m2
          have k3 := m3
          have HX1V := HX1Z
          have HXV := HXZ
          clear m0 m1 m2 m3 HX1Z HXZ
          have hobX := HI1.out.2.1
          have zo2 : ∀ p : InB (fun x => Below U.heap.size U x), p.w.cell? ⟨w.heap.size + 1 + 1 + 1, 0, none⟩ = some (.slice Av1 (ps.length + 1) cv1) := fun p => cell_in p.ok (hobX.cell 0)
          have zs2 : ∀ p : InB (fun x => Below U.heap.size U x), p.w.cell? ⟨w.heap.size, 0, none⟩ = some (.slice (some ⟨b, o, none⟩) s.tens.length c) := fun p => cell_in p.ok (HX1V.out.cell 0)
          have za2 : ∀ p : InB (fun x => Below U.heap.size U x), p.w.cell? ⟨b, o + j * 4, none⟩ = some (.string q.name) := fun p => cell_in p.ok k0
          have zb2 : ∀ p : InB (fun x => Below U.heap.size U x), p.w.cell? ⟨b, o + j * 4 + 1, none⟩ = some (.int .i64 q.epoch) := fun p => cell_in p.ok k1
          have zc2 : ∀ p : InB (fun x => Below U.heap.size U x), p.w.cell? ⟨b, o + j * 4 + 2, none⟩ = some (.int .i64 q.next) := fun p => cell_in p.ok k2
          have zd2 : ∀ p : InB (fun x => Below U.heap.size U x), p.w.cell? ⟨b, o + j * 4 + 3, none⟩ = some (.slice A' q.keys.length c') := fun p => cell_in p.ok k3
          go_wp2
          (refine region_lead (S := Meets (fun x => Below U.heap.size U x)) 7 8 [0, 1, 2, 3, 4, 5, 6] _ [_, _, _, _, _, _, _] (by kernel_rfl) (by kernel_rfl) rfl rfl (fun d v c a w h => by cases d <;> exact h) (meets_mk ?_) ?_)
          · exact (Below.refl _ _).drew
          ((repeat (refine wpReads_step (fun K hK => ?_); go_simp; (first | (refine hK _ ?_; clear hK K) | (apply Exists.intro; refine ⟨fun _ => rfl, hK _ ?_⟩; clear hK K)))); refine wpReads_nil ?_; intro J hJ; go_simp)
          refine hJ _ _ (meets_mk ?_) ?_
          · exact ((Below.refl _ _).alloc (Nat.le_refl _) _).drew
          clear hJ zo2 zs2 za2 zb2 zc2 zd2
          have HIV2 := hid_mk (putI_keep HG3.out HI1.out (Below.refl _ _).drew)
          have HXV2 : Hid (tenR G U.drew q [.string (q).name, .int .i64 (q).epoch, .int .i64 (q).next, .slice (A') (q).keys.length (c')]) := hid_mk (tenR_keep HXV.out (fun b h => h) (fun b h => rfl))
          clear hobX
          have HLB2 := hid_mk (fun g hg => (HIV2.out.2.2.1.lt g hg).1)
          have HNB2 := hid_mk (World.news_of_block (Blk.new U #[.string (q).name, .int .i64 (q).epoch, .int .i64 (q).next, .slice (A') (q).keys.length (c')] 38))
          have hownA2 : ((U.alloc (.cells #[.string (q).name, .int .i64 (q).epoch, .int .i64 (q).next, .slice (A') (q).keys.length (c')] 38)).drew).ownsRow (w.heap.size + 1 + 1 + 1 + 1) 38 4 (.slice Av1 (ps.length + 1) cv1) (ps.length + 1) ((ps ++ [(t, ([.string (t).name, .int .i64 (t).epoch, .int .i64 (t).next, .slice (B) (t).keys.length (d)] : List Value))]).flatMap Prod.snd) := (by have h := HIV2.out.2.2.1.alloc (.cells #[.string (q).name, .int .i64 (q).epoch, .int .i64 (q).next, .slice (A') (q).keys.length (c')] 38); rw [show (ps ++ [(t, ([.string (t).name, .int .i64 (t).epoch, .int .i64 (t).next, .slice (B) (t).keys.length (d)] : List Value))]).length = (ps.length + 1) by simp] at h; exact h)
          simp only [List.drop_succ_cons, List.drop_zero]
          go_wp2_with (at_builtin; refine wpList_append_own_at _ rfl _ _ 22 rfl (w.heap.size + 1 + 1 + 1 + 1) 38 i0 _ 4 56 Try.underlying22 hi hz0 hz1 hz2 rfl (by decide) _ _ ((ps ++ [(t, ([.string (t).name, .int .i64 (t).epoch, .int .i64 (t).next, .slice (B) (t).keys.length (d)] : List Value))]).flatMap Prod.snd) rfl hownA2 ⟨U.heap.size, 0, none⟩ 1 1 [.string (q).name, .int .i64 (q).epoch, .int .i64 (q).next, .slice (A') (q).keys.length (c')] rfl rfl ?_ ?_ ?_ ?_ ?_ ?_)
          any_goals (first | exact HNB2.out | exact ⟨rfl, rfl, rfl, rfl⟩ | (unfold maxLen; simp; omega) | omega | (simp; omega))
          intro v2 w2 hown2 hg2 hnil2 hat2
          obtain ⟨Av2, cv2, rfl⟩ := own_slice hown2
          have hsz2 : U.heap.size < w2.heap.size := by have := hg2.size; simp at this; omega
          have HI2 := hid_mk (putI_grown (v' := .slice Av2 ((ps.length + 1) + 1) cv2) HG3.out HIV2.out HXV2.out (.cells #[.string (q).name, .int .i64 (q).epoch, .int .i64 (q).next, .slice (A') (q).keys.length (c')] 38) (by rw [show (ps ++ [(t, ([.string (t).name, .int .i64 (t).epoch, .int .i64 (t).next, .slice (B) (t).keys.length (d)] : List Value))]).length = (ps.length + 1) by simp]; simpa using hown2) hg2)
          have hob2 := putI_box (o := .cells #[.string (q).name, .int .i64 (q).epoch, .int .i64 (q).next, .slice (A') (q).keys.length (c')] 38) HIV2.out hg2
          (have p20 : w2.cell? ⟨w.heap.size + 1 + 1 + 1, 0, none⟩ = some ((.slice Av1 (ps.length + 1) cv1)) := hob2.cell 0; have p21 : w2.cell? ⟨w.heap.size + 1 + 1 + 1, 1, none⟩ = some (.int .i64 s.serial) := hob2.cell 1; have p2f : ∀ i, w2.frozen? ⟨w.heap.size + 1 + 1 + 1, i, none⟩ = false := hob2.frozen)
          clear hown2 hg2 hnil2 hat2 hob2
          have HIZ := HI2
          have HX := hid_mk (show PutAt t s.tens s.serial G (w.heap.size + 1 + 1 + 1) W0 (.bool true) (.int .i64 ((j + 1 : Nat) : Int)) (w2.setCell ⟨w.heap.size + 1 + 1 + 1, 0, none⟩ (.slice Av2 (ps.length + 1 + 1) cv2)) from ⟨j + 1, (.slice Av2 (ps.length + 1 + 1) cv2), (ps ++ [(t, ([.string (t).name, .int .i64 (t).epoch, .int .i64 (t).next, .slice (B) (t).keys.length (d)] : List Value))] ++ [(q, [.string (q).name, .int .i64 (q).epoch, .int .i64 (q).next, .slice (A') (q).keys.length (c')])]), by omega, rfl, by rw [HST.out], by rw [HST.out]; simp, HIZ.out⟩)
          go_wp2
          go_roundw
          case rel => exact HX.out
          case measure => simp [intOf]; omega
        · rw [if_neg (fun h => hp h.2), if_neg hz] at HST
          have hp2 : decide (0 ≤ cv) = false := by simpa using hp
          have hobX := HIV.out.2.1
          have zo2 : ∀ p : InB (fun x => Below V.heap.size V x), p.w.cell? ⟨w.heap.size + 1 + 1 + 1, 0, none⟩ = some (.slice uA ps.length uc) := fun p => cell_in p.ok (hobX.cell 0)
          have zs2 : ∀ p : InB (fun x => Below V.heap.size V x), p.w.cell? ⟨w.heap.size, 0, none⟩ = some (.slice (some ⟨b, o, none⟩) s.tens.length c) := fun p => cell_in p.ok (HX1V.out.cell 0)
          have za2 : ∀ p : InB (fun x => Below V.heap.size V x), p.w.cell? ⟨b, o + j * 4, none⟩ = some (.string q.name) := fun p => cell_in p.ok k0
          have zb2 : ∀ p : InB (fun x => Below V.heap.size V x), p.w.cell? ⟨b, o + j * 4 + 1, none⟩ = some (.int .i64 q.epoch) := fun p => cell_in p.ok k1
          have zc2 : ∀ p : InB (fun x => Below V.heap.size V x), p.w.cell? ⟨b, o + j * 4 + 2, none⟩ = some (.int .i64 q.next) := fun p => cell_in p.ok k2
          have zd2 : ∀ p : InB (fun x => Below V.heap.size V x), p.w.cell? ⟨b, o + j * 4 + 3, none⟩ = some (.slice A' q.keys.length c') := fun p => cell_in p.ok k3
          go_wp2
          (refine region_lead (S := Meets (fun x => Below V.heap.size V x)) 7 8 [0, 1, 2, 3, 4, 5, 6] _ [_, _, _, _, _, _, _] (by kernel_rfl) (by kernel_rfl) rfl rfl (fun d v c a w h => by cases d <;> exact h) (meets_mk ?_) ?_)
          · exact (Below.refl _ _).drew
          ((repeat (refine wpReads_step (fun K hK => ?_); go_simp; (first | (refine hK _ ?_; clear hK K) | (apply Exists.intro; refine ⟨fun _ => rfl, hK _ ?_⟩; clear hK K)))); refine wpReads_nil ?_; intro J hJ; go_simp)
          refine hJ _ _ (meets_mk ?_) ?_
          · exact ((Below.refl _ _).alloc (Nat.le_refl _) _).drew
          clear hJ zo2 zs2 za2 zb2 zc2 zd2
          have HIV2 := hid_mk (putI_keep HG3.out HIV.out (Below.refl _ _).drew)
          have HXV2 : Hid (tenR G V.drew q [.string (q).name, .int .i64 (q).epoch, .int .i64 (q).next, .slice (A') (q).keys.length (c')]) := hid_mk (tenR_keep HXV.out (fun b h => h) (fun b h => rfl))
          clear hobX
          have HLB2 := hid_mk (fun g hg => (HIV2.out.2.2.1.lt g hg).1)
          have HNB2 := hid_mk (World.news_of_block (Blk.new V #[.string (q).name, .int .i64 (q).epoch, .int .i64 (q).next, .slice (A') (q).keys.length (c')] 38))
          have hownA2 : ((V.alloc (.cells #[.string (q).name, .int .i64 (q).epoch, .int .i64 (q).next, .slice (A') (q).keys.length (c')] 38)).drew).ownsRow (w.heap.size + 1 + 1 + 1 + 1) 38 4 (.slice uA ps.length uc) ps.length (ps.flatMap Prod.snd) := HIV2.out.2.2.1.alloc (.cells #[.string (q).name, .int .i64 (q).epoch, .int .i64 (q).next, .slice (A') (q).keys.length (c')] 38)
          simp only [List.drop_succ_cons, List.drop_zero]
          go_wp2_with (at_builtin; refine wpList_append_own_at _ rfl _ _ 22 rfl (w.heap.size + 1 + 1 + 1 + 1) 38 i0 _ 4 56 Try.underlying22 hi hz0 hz1 hz2 rfl (by decide) _ _ (ps.flatMap Prod.snd) rfl hownA2 ⟨V.heap.size, 0, none⟩ 1 1 [.string (q).name, .int .i64 (q).epoch, .int .i64 (q).next, .slice (A') (q).keys.length (c')] rfl rfl ?_ ?_ ?_ ?_ ?_ ?_)
          any_goals (first | exact HNB2.out | exact ⟨rfl, rfl, rfl, rfl⟩ | (unfold maxLen; simp; omega) | omega | (simp; omega))
          intro v2 w2 hown2 hg2 hnil2 hat2
          obtain ⟨Av2, cv2, rfl⟩ := own_slice hown2
          have hsz2 : V.heap.size < w2.heap.size := by have := hg2.size; simp at this; omega
          have HI2 := hid_mk (putI_grown (v' := .slice Av2 (ps.length + 1) cv2) HG3.out HIV2.out HXV2.out (.cells #[.string (q).name, .int .i64 (q).epoch, .int .i64 (q).next, .slice (A') (q).keys.length (c')] 38) hown2 hg2)
          have hob2 := putI_box (o := .cells #[.string (q).name, .int .i64 (q).epoch, .int .i64 (q).next, .slice (A') (q).keys.length (c')] 38) HIV2.out hg2
          (have p20 : w2.cell? ⟨w.heap.size + 1 + 1 + 1, 0, none⟩ = some ((.slice uA ps.length uc)) := hob2.cell 0; have p21 : w2.cell? ⟨w.heap.size + 1 + 1 + 1, 1, none⟩ = some (.int .i64 s.serial) := hob2.cell 1; have p2f : ∀ i, w2.frozen? ⟨w.heap.size + 1 + 1 + 1, i, none⟩ = false := hob2.frozen)
          clear hown2 hg2 hnil2 hat2 hob2
          have HIZ := HI2
          have HX := hid_mk (show PutAt t s.tens s.serial G (w.heap.size + 1 + 1 + 1) W0 (.bool false) (.int .i64 ((j + 1 : Nat) : Int)) (w2.setCell ⟨w.heap.size + 1 + 1 + 1, 0, none⟩ (.slice Av2 (ps.length + 1) cv2)) from ⟨j + 1, (.slice Av2 (ps.length + 1) cv2), (ps ++ [(q, [.string (q).name, .int .i64 (q).epoch, .int .i64 (q).next, .slice (A') (q).keys.length (c')])]), by omega, rfl, by rw [HST.out], by rw [HST.out]; simp, HIZ.out⟩)
          go_wp2
          go_roundw
          case rel => exact HX.out
          case measure => simp [intOf]; omega
end Go.Proofs.Ytgcgilcalmefgaa
