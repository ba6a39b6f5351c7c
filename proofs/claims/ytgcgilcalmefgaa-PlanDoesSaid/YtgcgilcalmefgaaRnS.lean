/- Walks: two states that are the same are held to be; is a state too great? -/
import Derived.Test.YtgcgilcalmefgaaRnW3
import Derived.Test.YtgcgilcalmefgaaReg2
namespace Go.Proofs.Ytgcgilcalmefgaa
open Go Go.RowKit Go.Sort
set_option maxRecDepth 100000
set_option linter.unusedSimpArgs false
set_option linter.unusedVariables false
set_option maxHeartbeats 2000000
theorem cell_in {W V : World} (h : Below W.heap.size W V) {a : Addr} {v : Value} (hc : W.cell? a = some v) : V.cell? a = some v := by rw [h.cell (block_lt_of_cell hc)]; exact hc
def UpAt (N : Nat) (w : World) (v : Value) (wr : World) : Prop := ∃ k : Nat, v = .int .i64 (k : Nat) ∧ k ≤ N ∧ Below w.heap.size w wr
/-- some Bool; memory is made at most -/
def RetBit (w : World) (e : Ending) (w' : World) : Prop := ∃ b : Bool, e = .returned (.bool b) ∧ Below w.heap.size w w'
theorem key_eq_run (k : Rn.K) (w : World) : (Op.equalIn 10000 44 (.agg #[.int .i64 (k).num, .string (k).txt]) (.agg #[.int .i64 (k).num, .string (k).txt])).run Try.prog w = .ok true w := by
  rw [run_equalIn_agg w 9999 44 _ _ (by kernel_rfl) (by kernel_rfl)]
  have hf : (Try.prog.fieldsOf 44).toList = [⟨"Num", 3, 0, false, "", "", 0⟩, ⟨"Text", 9, 1, false, "", "", 8⟩] := by kernel_rfl
  rw [hf]
  simp only [Op.eqFields, Sem.run_bind, Sem.run_ite]
  simp [go_sem, part]
theorem same_any (s : Rn.S) (A B : Option Addr) (ca cb : Nat) (G : Nat → Prop) (w : World) (hG : ∀ b, G b → b < w.heap.size) (hl : s.tens.length ≤ maxLen) (hTA : TensAt G w A s.tens) (hTB : TensAt G w B s.tens) :
    Calls Try.prog 17 #[.agg #[.slice (A) (s).tens.length (ca), .int .i64 (s).serial], .agg #[.slice (B) (s).tens.length (cb), .int .i64 (s).serial]] w (RetG (.bool true) w) := by
  obtain ⟨W, hW⟩ : ∃ W, W = (w.alloc (.cells #[.slice (A) (s).tens.length (ca), .int .i64 (s).serial] 24)).alloc (.cells #[.slice (B) (s).tens.length (cb), .int .i64 (s).serial] 24) := ⟨_, rfl⟩
  have hb0 : Below w.heap.size w W := by rw [hW]; exact (by repeat (first | with_reducible exact Below.refl _ _ | with_reducible assumption | with_reducible refine Below.setCell ?_ (by first | omega | (dsimp only; omega) | (simp <;> omega)) _ | with_reducible refine Below.alloc ?_ (by first | omega | (simp <;> omega)) _ | with_reducible refine below_drewN ?_ _ | with_reducible refine Below.drew ?_))
  have HXA := hid_mk (show Blk W w.heap.size #[.slice (A) (s).tens.length (ca), .int .i64 (s).serial] 24 by rw [hW]; exact Blk.alloc (Blk.new w _ _) _)
  have HXB := hid_mk (show Blk W (w.heap.size + 1) #[.slice (B) (s).tens.length (cb), .int .i64 (s).serial] 24 by rw [hW]; exact blk_new (by simp))
  have HB0 := hid_mk hb0
  have HTA := hid_mk hTA
  have HTB := hid_mk hTB
  have HG := hid_mk hG
  have hke := fun k w => key_eq_run k w
  unfold maxLen at hl
  subst hW
  clear hG hTA hTB hb0
  go_enter Try.func17, Try.ntmps17
  go_wp2
  go_loopw [5] (fun v wr => UpAt s.tens.length ((w.alloc (.cells #[.slice (A) (s).tens.length (ca), .int .i64 (s).serial] 24)).alloc (.cells #[.slice (B) (s).tens.length (cb), .int .i64 (s).serial] 24)) v wr) (fun v _ => s.tens.length - (intOf v).toNat)
  case atStart => exact ⟨0, rfl, Nat.zero_le _, Below.refl _ _⟩
  case round =>
    obtain ⟨wo, hwo⟩ : ∃ wo, wo = wr := ⟨_, rfl⟩
    subst hwo
    obtain ⟨k, rfl, hk, hb⟩ := hrel
    have HB := hid_mk hb
    have HXA1 := hid_mk (HXA.out.call hb)
    have HXB1 := hid_mk (HXB.out.call hb)
    have HBW := hid_mk (HB0.out.trans (hb.mono HB0.out.size))
    have hxa0 : wo.cell? ⟨w.heap.size, 0, none⟩ = some (.slice A s.tens.length ca) := HXA1.out.cell 0
    have hxb0 : wo.cell? ⟨w.heap.size + 1, 0, none⟩ = some (.slice B s.tens.length cb) := HXB1.out.cell 0
    clear hb
    by_cases hlt : k < s.tens.length
    case neg =>
      have hn : ¬ ((k : Int) < (s.tens.length : Int)) := by omega
      go_wp2
      exact bodyPost_ret (v := .bool true) (by simp [results, Try.results17, go_sem]) rfl ⟨rfl, HBW.out⟩
    have hTA2 := tensAt_keep HTA.out (fun b h => h) (kept_below HBW.out HG.out)
    have hTB2 := tensAt_keep HTB.out (fun b h => h) (kept_below HBW.out HG.out)
    obtain ⟨ba, oa, A1, c1, e1, hg1, -, hkl, -, hka, x0, x1, x2, x3⟩ := tens_at hTA2 hlt
    obtain ⟨bb, ob, B1, d1, e2, hg2, -, -, -, hkb, y0, y1, y2, y3⟩ := tens_at hTB2 hlt
    subst e1
    subst e2
    generalize s.tens[k] = p at *
    have HKA := hid_mk hka
    have HKB := hid_mk hkb
    clear hTA2 hTB2 hka hkb
    unfold maxLen at hkl
    have za0 : ∀ q : InB (Below wo.heap.size wo), q.w.cell? ⟨ba, oa + k * 4, none⟩ = some (.string p.name) := fun q => cell_in q.ok x0
    have za1 : ∀ q : InB (Below wo.heap.size wo), q.w.cell? ⟨ba, oa + k * 4 + 1, none⟩ = some (.int .i64 p.epoch) := fun q => cell_in q.ok x1
    have za2 : ∀ q : InB (Below wo.heap.size wo), q.w.cell? ⟨ba, oa + k * 4 + 2, none⟩ = some (.int .i64 p.next) := fun q => cell_in q.ok x2
    have za3 : ∀ q : InB (Below wo.heap.size wo), q.w.cell? ⟨ba, oa + k * 4 + 3, none⟩ = some (.slice A1 p.keys.length c1) := fun q => cell_in q.ok x3
    have zb0 : ∀ q : InB (Below wo.heap.size wo), q.w.cell? ⟨bb, ob + k * 4, none⟩ = some (.string p.name) := fun q => cell_in q.ok y0
    have zb1 : ∀ q : InB (Below wo.heap.size wo), q.w.cell? ⟨bb, ob + k * 4 + 1, none⟩ = some (.int .i64 p.epoch) := fun q => cell_in q.ok y1
    have zb2 : ∀ q : InB (Below wo.heap.size wo), q.w.cell? ⟨bb, ob + k * 4 + 2, none⟩ = some (.int .i64 p.next) := fun q => cell_in q.ok y2
    have zb3 : ∀ q : InB (Below wo.heap.size wo), q.w.cell? ⟨bb, ob + k * 4 + 3, none⟩ = some (.slice B1 p.keys.length d1) := fun q => cell_in q.ok y3
    have zs0 : ∀ q : InB (Below wo.heap.size wo), q.w.cell? ⟨w.heap.size, 0, none⟩ = some (.slice (some ⟨ba, oa, none⟩) s.tens.length ca) := fun q => cell_in q.ok hxa0
    have zs1 : ∀ q : InB (Below wo.heap.size wo), q.w.cell? ⟨w.heap.size + 1, 0, none⟩ = some (.slice (some ⟨bb, ob, none⟩) s.tens.length cb) := fun q => cell_in q.ok hxb0
    clear x0 x1 x2 x3 y0 y1 y2 y3
    go_wp2
    clear hxa0 hxb0
    (refine region_two (S := Meets (Below wo.heap.size wo)) [0, 1, 2, 3, 4, 5, 6, 7, 8, 9] 10 11 [12, 13] 14 _ _ [_, _] [_, _, _, _, _, _, _, _, _, _] (by kernel_rfl) (by kernel_rfl) rfl rfl rfl rfl (fun d v c a w h => by cases d <;> exact h) (fun w p h => by obtain ⟨q, rfl⟩ := h; exact meets_mk (below_grew q.ok p)) (meets_mk ?_) ?_)
    case _ => exact (Below.refl _ _).drew
    ((repeat (refine wpReads_step (fun K hK => ?_); go_simp; (first | (refine hK _ ?_; clear hK K) | (apply Exists.intro; refine ⟨fun _ => rfl, hK _ ?_⟩; clear hK K)))); refine wpReads_nil ?_; intro J hJ; go_simp)
    have HJ := hid_mk hJ
    clear hJ za0 za1 za2 za3 zb0 zb1 zb2 zb3 zs0 zs1
    constructor
    · refine ⟨⟨⟨_, ?_⟩, rfl⟩, ⟨⟨_, ?_⟩, rfl⟩, ⟨⟨_, ?_⟩, rfl⟩, ⟨⟨_, ?_⟩, rfl⟩, HJ.out _ _ ⟨⟨_, ?_⟩, rfl⟩ ?_⟩
      any_goals (refine Below.drew ?_; exact (by repeat (first | with_reducible exact Below.refl _ _ | with_reducible assumption | with_reducible refine Below.setCell ?_ (by first | omega | (dsimp only; omega) | (simp <;> omega)) _ | with_reducible refine Below.alloc ?_ (by first | omega | (simp <;> omega)) _ | with_reducible refine below_drewN ?_ _ | with_reducible refine Below.drew ?_)))
      clear HJ
      unfold PairEnd
      simp only [List.drop_succ_cons, List.drop_zero]
      refine wpQuiet_nil ?_
      intro _ hw'
      obtain ⟨⟨nq, osq⟩, hw''⟩ := hw'
      subst hw''
      have hbw0 : Below wo.heap.size wo ((wo.alloc (.cells #[.string (p).name, .int .i64 (p).epoch, .int .i64 (p).next, .slice (A1) (p).keys.length (c1)] 38)).alloc (.cells #[.string (p).name, .int .i64 (p).epoch, .int .i64 (p).next, .slice (B1) (p).keys.length (d1)] 38)) := (by repeat (first | with_reducible exact Below.refl _ _ | with_reducible assumption | with_reducible refine Below.setCell ?_ (by first | omega | (dsimp only; omega) | (simp <;> omega)) _ | with_reducible refine Below.alloc ?_ (by first | omega | (simp <;> omega)) _ | with_reducible refine below_drewN ?_ _ | with_reducible refine Below.drew ?_))
      have hbw1 : Below wo.heap.size wo ((wo.alloc (.cells #[.string (p).name, .int .i64 (p).epoch, .int .i64 (p).next, .slice (A1) (p).keys.length (c1)] 38)).alloc (.cells #[.string (p).name, .int .i64 (p).epoch, .int .i64 (p).next, .slice (B1) (p).keys.length (d1)] 38)).drew := hbw0.drew
      have h6 : Blk ((wo.alloc (.cells #[.string (p).name, .int .i64 (p).epoch, .int .i64 (p).next, .slice (A1) (p).keys.length (c1)] 38)).alloc (.cells #[.string (p).name, .int .i64 (p).epoch, .int .i64 (p).next, .slice (B1) (p).keys.length (d1)] 38)) (wo.heap.size) #[.string (p).name, .int .i64 (p).epoch, .int .i64 (p).next, .slice (A1) (p).keys.length (c1)] 38 := by first | exact Blk.alloc (Blk.new wo _ _) _ | exact blk_new (by simp)
      have h7 : Blk ((wo.alloc (.cells #[.string (p).name, .int .i64 (p).epoch, .int .i64 (p).next, .slice (A1) (p).keys.length (c1)] 38)).alloc (.cells #[.string (p).name, .int .i64 (p).epoch, .int .i64 (p).next, .slice (B1) (p).keys.length (d1)] 38)) (wo.heap.size + 1) #[.string (p).name, .int .i64 (p).epoch, .int .i64 (p).next, .slice (B1) (p).keys.length (d1)] 38 := by first | exact Blk.alloc (Blk.new wo _ _) _ | exact blk_new (by simp)
      have hbg : Below ((wo.alloc (.cells #[.string (p).name, .int .i64 (p).epoch, .int .i64 (p).next, .slice (A1) (p).keys.length (c1)] 38)).alloc (.cells #[.string (p).name, .int .i64 (p).epoch, .int .i64 (p).next, .slice (B1) (p).keys.length (d1)] 38)).drew.heap.size ((wo.alloc (.cells #[.string (p).name, .int .i64 (p).epoch, .int .i64 (p).next, .slice (A1) (p).keys.length (c1)] 38)).alloc (.cells #[.string (p).name, .int .i64 (p).epoch, .int .i64 (p).next, .slice (B1) (p).keys.length (d1)] 38)).drew (grow (redrawn ((wo.alloc (.cells #[.string (p).name, .int .i64 (p).epoch, .int .i64 (p).next, .slice (A1) (p).keys.length (c1)] 38)).alloc (.cells #[.string (p).name, .int .i64 (p).epoch, .int .i64 (p).next, .slice (B1) (p).keys.length (d1)] 38)).drew nq) osq) := below_regrown _ nq osq
      have HX6 := hid_mk ((show Blk ((wo.alloc (.cells #[.string (p).name, .int .i64 (p).epoch, .int .i64 (p).next, .slice (A1) (p).keys.length (c1)] 38)).alloc (.cells #[.string (p).name, .int .i64 (p).epoch, .int .i64 (p).next, .slice (B1) (p).keys.length (d1)] 38)).drew (wo.heap.size) #[.string (p).name, .int .i64 (p).epoch, .int .i64 (p).next, .slice (A1) (p).keys.length (c1)] 38 from h6).call hbg)
      have HX7 := hid_mk ((show Blk ((wo.alloc (.cells #[.string (p).name, .int .i64 (p).epoch, .int .i64 (p).next, .slice (A1) (p).keys.length (c1)] 38)).alloc (.cells #[.string (p).name, .int .i64 (p).epoch, .int .i64 (p).next, .slice (B1) (p).keys.length (d1)] 38)).drew (wo.heap.size + 1) #[.string (p).name, .int .i64 (p).epoch, .int .i64 (p).next, .slice (B1) (p).keys.length (d1)] 38 from h7).call hbg)
      have HBV := hid_mk (below_grew hbw1 ⟨nq, osq⟩)
      clear hbw0 hbw1 h6 h7 hbg
      dsimp only at HBV
      generalize grow (redrawn ((wo.alloc (.cells #[.string (p).name, .int .i64 (p).epoch, .int .i64 (p).next, .slice (A1) (p).keys.length (c1)] 38)).alloc (.cells #[.string (p).name, .int .i64 (p).epoch, .int .i64 (p).next, .slice (B1) (p).keys.length (d1)] 38)).drew nq) osq = V at *
      have HBWV := hid_mk (HBW.out.trans (HBV.out.mono HBW.out.size))
      have HBOV := hid_mk (HB.out.trans (HBV.out.mono HB.out.size))
      have HKAV := hid_mk (keysAt_keep HKA.out (fun b h => h) (kept_below HBV.out (fun b hb' => Nat.lt_of_lt_of_le (HG.out b hb') HBW.out.size)))
      have HKBV := hid_mk (keysAt_keep HKB.out (fun b h => h) (kept_below HBV.out (fun b hb' => Nat.lt_of_lt_of_le (HG.out b hb') HBW.out.size)))
      (have x0 : V.cell? ⟨wo.heap.size, 0, none⟩ = some (.string (p).name) := HX6.out.cell 0; have x1 : V.cell? ⟨wo.heap.size, 1, none⟩ = some (.int .i64 (p).epoch) := HX6.out.cell 1; have x2 : V.cell? ⟨wo.heap.size, 2, none⟩ = some (.int .i64 (p).next) := HX6.out.cell 2; have x3 : V.cell? ⟨wo.heap.size, 3, none⟩ = some (.slice (A1) (p).keys.length (c1)) := HX6.out.cell 3; have xf : ∀ i, V.frozen? ⟨wo.heap.size, i, none⟩ = false := HX6.out.frozen)
      (have y0 : V.cell? ⟨wo.heap.size + 1, 0, none⟩ = some (.string (p).name) := HX7.out.cell 0; have y1 : V.cell? ⟨wo.heap.size + 1, 1, none⟩ = some (.int .i64 (p).epoch) := HX7.out.cell 1; have y2 : V.cell? ⟨wo.heap.size + 1, 2, none⟩ = some (.int .i64 (p).next) := HX7.out.cell 2; have y3 : V.cell? ⟨wo.heap.size + 1, 3, none⟩ = some (.slice (B1) (p).keys.length (d1)) := HX7.out.cell 3; have yf : ∀ i, V.frozen? ⟨wo.heap.size + 1, i, none⟩ = false := HX7.out.frozen)
      clear HKA HKB
      go_wp2
      clear x0 x1 x2 x3 xf y0 y1 y2 y3 yf
      go_loopw [8] (fun v wr => UpAt p.keys.length V v wr) (fun v _ => p.keys.length - (intOf v).toNat)
      case atStart => exact ⟨0, rfl, Nat.zero_le _, Below.refl _ _⟩
      case round =>
        obtain ⟨m, rfl, hm, hbm⟩ := hrel
        have HBM := hid_mk hbm
        have HBMW := hid_mk (HBWV.out.trans (hbm.mono HBWV.out.size))
        have HBMO := hid_mk (HBOV.out.trans (hbm.mono HBOV.out.size))
        have hx3 : wr.cell? ⟨wo.heap.size, 3, none⟩ = some (.slice A1 p.keys.length c1) := (HX6.out.call hbm).cell 3
        have hy3 : wr.cell? ⟨wo.heap.size + 1, 3, none⟩ = some (.slice B1 p.keys.length d1) := (HX7.out.call hbm).cell 3
        by_cases hmt : m < p.keys.length
        case neg =>
          have hn : ¬ ((m : Int) < (p.keys.length : Int)) := by omega
          clear hbm
          go_wp2
          go_roundw
          case rel => exact ⟨k + 1, by go_num, by omega, HBMO.out⟩
          case measure => simp [intOf]; omega
        have hKA3 := keysAt_keep HKAV.out (fun b h => h) (kept_below hbm (fun b hb' => Nat.lt_of_lt_of_le (HG.out b hb') HBWV.out.size))
        have hKB3 := keysAt_keep HKBV.out (fun b h => h) (kept_below hbm (fun b hb' => Nat.lt_of_lt_of_le (HG.out b hb') HBWV.out.size))
        obtain ⟨ka, koa, e1, -, -, u0, u1⟩ := keys_at hKA3 hmt
        obtain ⟨kb, kob, e2, -, -, v0, v1⟩ := keys_at hKB3 hmt
        subst e1
        subst e2
        generalize p.keys[m] = q at *
        have hkq := fun w => key_eq_run q w
        have za0 : ∀ d os, (grow (redrawn wr d) os).cell? ⟨ka, koa + m * 2, none⟩ = some (.int .i64 q.num) := fun d os => cell_regrown u0 d os
        have za1 : ∀ d os, (grow (redrawn wr d) os).cell? ⟨ka, koa + m * 2 + 1, none⟩ = some (.string q.txt) := fun d os => cell_regrown u1 d os
        have zb0 : ∀ d os, (grow (redrawn wr d) os).cell? ⟨kb, kob + m * 2, none⟩ = some (.int .i64 q.num) := fun d os => cell_regrown v0 d os
        have zb1 : ∀ d os, (grow (redrawn wr d) os).cell? ⟨kb, kob + m * 2 + 1, none⟩ = some (.string q.txt) := fun d os => cell_regrown v1 d os
        have zs0 : ∀ d os, (grow (redrawn wr d) os).cell? ⟨wo.heap.size, 3, none⟩ = some (.slice (some ⟨ka, koa, none⟩) p.keys.length c1) := fun d os => cell_regrown hx3 d os
        have zs1 : ∀ d os, (grow (redrawn wr d) os).cell? ⟨wo.heap.size + 1, 3, none⟩ = some (.slice (some ⟨kb, kob, none⟩) p.keys.length d1) := fun d os => cell_regrown hy3 d os
        clear u0 u1 v0 v1 hKA3 hKB3 hbm
        go_wp2
        (refine wp_region_quiet_below (by kernel_rfl) (by kernel_rfl) ?_; (repeat (first | go_big_quiet_step (fail) | quiet_step (fail))); refine wpQuiet_nil ?_; intro _ hw'; obtain ⟨⟨nq, osq⟩, hw''⟩ := hw'; subst hw'')
        have HBY := hid_mk (HBM.out.trans ((below_regrown wr nq osq).mono HBM.out.size))
        clear za0 za1 zb0 zb1 zs0 zs1 hx3 hy3
        generalize grow (redrawn wr nq) osq = Y at *
        go_wp2
        go_roundw
        case rel => exact ⟨m + 1, by go_num, by omega, HBY.out⟩
        case measure => simp [intOf]; omega
    · refine ⟨⟨⟨_, ?_⟩, rfl⟩, ⟨⟨_, ?_⟩, rfl⟩, ⟨⟨_, ?_⟩, rfl⟩, ⟨⟨_, ?_⟩, rfl⟩, HJ.out _ _ ⟨⟨_, ?_⟩, rfl⟩ ?_⟩
      any_goals (refine Below.drew ?_; exact (by repeat (first | with_reducible exact Below.refl _ _ | with_reducible assumption | with_reducible refine Below.setCell ?_ (by first | omega | (dsimp only; omega) | (simp <;> omega)) _ | with_reducible refine Below.alloc ?_ (by first | omega | (simp <;> omega)) _ | with_reducible refine below_drewN ?_ _ | with_reducible refine Below.drew ?_)))
      clear HJ
      unfold PairEnd
      simp only [List.drop_succ_cons, List.drop_zero]
      refine wpQuiet_nil ?_
      intro _ hw'
      obtain ⟨⟨nq, osq⟩, hw''⟩ := hw'
      subst hw''
      have hbw0 : Below wo.heap.size wo ((wo.alloc (.cells #[.string (p).name, .int .i64 (p).epoch, .int .i64 (p).next, .slice (B1) (p).keys.length (d1)] 38)).alloc (.cells #[.string (p).name, .int .i64 (p).epoch, .int .i64 (p).next, .slice (A1) (p).keys.length (c1)] 38)) := (by repeat (first | with_reducible exact Below.refl _ _ | with_reducible assumption | with_reducible refine Below.setCell ?_ (by first | omega | (dsimp only; omega) | (simp <;> omega)) _ | with_reducible refine Below.alloc ?_ (by first | omega | (simp <;> omega)) _ | with_reducible refine below_drewN ?_ _ | with_reducible refine Below.drew ?_))
      have hbw1 : Below wo.heap.size wo ((wo.alloc (.cells #[.string (p).name, .int .i64 (p).epoch, .int .i64 (p).next, .slice (B1) (p).keys.length (d1)] 38)).alloc (.cells #[.string (p).name, .int .i64 (p).epoch, .int .i64 (p).next, .slice (A1) (p).keys.length (c1)] 38)).drew := hbw0.drew
      have h6 : Blk ((wo.alloc (.cells #[.string (p).name, .int .i64 (p).epoch, .int .i64 (p).next, .slice (B1) (p).keys.length (d1)] 38)).alloc (.cells #[.string (p).name, .int .i64 (p).epoch, .int .i64 (p).next, .slice (A1) (p).keys.length (c1)] 38)) (wo.heap.size + 1) #[.string (p).name, .int .i64 (p).epoch, .int .i64 (p).next, .slice (A1) (p).keys.length (c1)] 38 := by first | exact Blk.alloc (Blk.new wo _ _) _ | exact blk_new (by simp)
      have h7 : Blk ((wo.alloc (.cells #[.string (p).name, .int .i64 (p).epoch, .int .i64 (p).next, .slice (B1) (p).keys.length (d1)] 38)).alloc (.cells #[.string (p).name, .int .i64 (p).epoch, .int .i64 (p).next, .slice (A1) (p).keys.length (c1)] 38)) (wo.heap.size) #[.string (p).name, .int .i64 (p).epoch, .int .i64 (p).next, .slice (B1) (p).keys.length (d1)] 38 := by first | exact Blk.alloc (Blk.new wo _ _) _ | exact blk_new (by simp)
      have hbg : Below ((wo.alloc (.cells #[.string (p).name, .int .i64 (p).epoch, .int .i64 (p).next, .slice (B1) (p).keys.length (d1)] 38)).alloc (.cells #[.string (p).name, .int .i64 (p).epoch, .int .i64 (p).next, .slice (A1) (p).keys.length (c1)] 38)).drew.heap.size ((wo.alloc (.cells #[.string (p).name, .int .i64 (p).epoch, .int .i64 (p).next, .slice (B1) (p).keys.length (d1)] 38)).alloc (.cells #[.string (p).name, .int .i64 (p).epoch, .int .i64 (p).next, .slice (A1) (p).keys.length (c1)] 38)).drew (grow (redrawn ((wo.alloc (.cells #[.string (p).name, .int .i64 (p).epoch, .int .i64 (p).next, .slice (B1) (p).keys.length (d1)] 38)).alloc (.cells #[.string (p).name, .int .i64 (p).epoch, .int .i64 (p).next, .slice (A1) (p).keys.length (c1)] 38)).drew nq) osq) := below_regrown _ nq osq
      have HX6 := hid_mk ((show Blk ((wo.alloc (.cells #[.string (p).name, .int .i64 (p).epoch, .int .i64 (p).next, .slice (B1) (p).keys.length (d1)] 38)).alloc (.cells #[.string (p).name, .int .i64 (p).epoch, .int .i64 (p).next, .slice (A1) (p).keys.length (c1)] 38)).drew (wo.heap.size + 1) #[.string (p).name, .int .i64 (p).epoch, .int .i64 (p).next, .slice (A1) (p).keys.length (c1)] 38 from h6).call hbg)
      have HX7 := hid_mk ((show Blk ((wo.alloc (.cells #[.string (p).name, .int .i64 (p).epoch, .int .i64 (p).next, .slice (B1) (p).keys.length (d1)] 38)).alloc (.cells #[.string (p).name, .int .i64 (p).epoch, .int .i64 (p).next, .slice (A1) (p).keys.length (c1)] 38)).drew (wo.heap.size) #[.string (p).name, .int .i64 (p).epoch, .int .i64 (p).next, .slice (B1) (p).keys.length (d1)] 38 from h7).call hbg)
      have HBV := hid_mk (below_grew hbw1 ⟨nq, osq⟩)
      clear hbw0 hbw1 h6 h7 hbg
      dsimp only at HBV
      generalize grow (redrawn ((wo.alloc (.cells #[.string (p).name, .int .i64 (p).epoch, .int .i64 (p).next, .slice (B1) (p).keys.length (d1)] 38)).alloc (.cells #[.string (p).name, .int .i64 (p).epoch, .int .i64 (p).next, .slice (A1) (p).keys.length (c1)] 38)).drew nq) osq = V at *
      have HBWV := hid_mk (HBW.out.trans (HBV.out.mono HBW.out.size))
      have HBOV := hid_mk (HB.out.trans (HBV.out.mono HB.out.size))
      have HKAV := hid_mk (keysAt_keep HKA.out (fun b h => h) (kept_below HBV.out (fun b hb' => Nat.lt_of_lt_of_le (HG.out b hb') HBW.out.size)))
      have HKBV := hid_mk (keysAt_keep HKB.out (fun b h => h) (kept_below HBV.out (fun b hb' => Nat.lt_of_lt_of_le (HG.out b hb') HBW.out.size)))
      (have x0 : V.cell? ⟨wo.heap.size + 1, 0, none⟩ = some (.string (p).name) := HX6.out.cell 0; have x1 : V.cell? ⟨wo.heap.size + 1, 1, none⟩ = some (.int .i64 (p).epoch) := HX6.out.cell 1; have x2 : V.cell? ⟨wo.heap.size + 1, 2, none⟩ = some (.int .i64 (p).next) := HX6.out.cell 2; have x3 : V.cell? ⟨wo.heap.size + 1, 3, none⟩ = some (.slice (A1) (p).keys.length (c1)) := HX6.out.cell 3; have xf : ∀ i, V.frozen? ⟨wo.heap.size + 1, i, none⟩ = false := HX6.out.frozen)
      (have y0 : V.cell? ⟨wo.heap.size, 0, none⟩ = some (.string (p).name) := HX7.out.cell 0; have y1 : V.cell? ⟨wo.heap.size, 1, none⟩ = some (.int .i64 (p).epoch) := HX7.out.cell 1; have y2 : V.cell? ⟨wo.heap.size, 2, none⟩ = some (.int .i64 (p).next) := HX7.out.cell 2; have y3 : V.cell? ⟨wo.heap.size, 3, none⟩ = some (.slice (B1) (p).keys.length (d1)) := HX7.out.cell 3; have yf : ∀ i, V.frozen? ⟨wo.heap.size, i, none⟩ = false := HX7.out.frozen)
      clear HKA HKB
      go_wp2
      clear x0 x1 x2 x3 xf y0 y1 y2 y3 yf
      go_loopw [8] (fun v wr => UpAt p.keys.length V v wr) (fun v _ => p.keys.length - (intOf v).toNat)
      case atStart => exact ⟨0, rfl, Nat.zero_le _, Below.refl _ _⟩
      case round =>
        obtain ⟨m, rfl, hm, hbm⟩ := hrel
        have HBM := hid_mk hbm
        have HBMW := hid_mk (HBWV.out.trans (hbm.mono HBWV.out.size))
        have HBMO := hid_mk (HBOV.out.trans (hbm.mono HBOV.out.size))
        have hx3 : wr.cell? ⟨wo.heap.size + 1, 3, none⟩ = some (.slice A1 p.keys.length c1) := (HX6.out.call hbm).cell 3
        have hy3 : wr.cell? ⟨wo.heap.size, 3, none⟩ = some (.slice B1 p.keys.length d1) := (HX7.out.call hbm).cell 3
        by_cases hmt : m < p.keys.length
        case neg =>
          have hn : ¬ ((m : Int) < (p.keys.length : Int)) := by omega
          clear hbm
          go_wp2
          go_roundw
          case rel => exact ⟨k + 1, by go_num, by omega, HBMO.out⟩
          case measure => simp [intOf]; omega
        have hKA3 := keysAt_keep HKAV.out (fun b h => h) (kept_below hbm (fun b hb' => Nat.lt_of_lt_of_le (HG.out b hb') HBWV.out.size))
        have hKB3 := keysAt_keep HKBV.out (fun b h => h) (kept_below hbm (fun b hb' => Nat.lt_of_lt_of_le (HG.out b hb') HBWV.out.size))
        obtain ⟨ka, koa, e1, -, -, u0, u1⟩ := keys_at hKA3 hmt
        obtain ⟨kb, kob, e2, -, -, v0, v1⟩ := keys_at hKB3 hmt
        subst e1
        subst e2
        generalize p.keys[m] = q at *
        have hkq := fun w => key_eq_run q w
        have za0 : ∀ d os, (grow (redrawn wr d) os).cell? ⟨ka, koa + m * 2, none⟩ = some (.int .i64 q.num) := fun d os => cell_regrown u0 d os
        have za1 : ∀ d os, (grow (redrawn wr d) os).cell? ⟨ka, koa + m * 2 + 1, none⟩ = some (.string q.txt) := fun d os => cell_regrown u1 d os
        have zb0 : ∀ d os, (grow (redrawn wr d) os).cell? ⟨kb, kob + m * 2, none⟩ = some (.int .i64 q.num) := fun d os => cell_regrown v0 d os
        have zb1 : ∀ d os, (grow (redrawn wr d) os).cell? ⟨kb, kob + m * 2 + 1, none⟩ = some (.string q.txt) := fun d os => cell_regrown v1 d os
        have zs0 : ∀ d os, (grow (redrawn wr d) os).cell? ⟨wo.heap.size + 1, 3, none⟩ = some (.slice (some ⟨ka, koa, none⟩) p.keys.length c1) := fun d os => cell_regrown hx3 d os
        have zs1 : ∀ d os, (grow (redrawn wr d) os).cell? ⟨wo.heap.size, 3, none⟩ = some (.slice (some ⟨kb, kob, none⟩) p.keys.length d1) := fun d os => cell_regrown hy3 d os
        clear u0 u1 v0 v1 hKA3 hKB3 hbm
        go_wp2
        (refine wp_region_quiet_below (by kernel_rfl) (by kernel_rfl) ?_; (repeat (first | go_big_quiet_step (fail) | quiet_step (fail))); refine wpQuiet_nil ?_; intro _ hw'; obtain ⟨⟨nq, osq⟩, hw''⟩ := hw'; subst hw'')
        have HBY := hid_mk (HBM.out.trans ((below_regrown wr nq osq).mono HBM.out.size))
        clear za0 za1 zb0 zb1 zs0 zs1 hx3 hy3
        generalize grow (redrawn wr nq) osq = Y at *
        go_wp2
        go_roundw
        case rel => exact ⟨m + 1, by go_num, by omega, HBY.out⟩
        case measure => simp [intOf]; omega
end Go.Proofs.Ytgcgilcalmefgaa
