/- Walks: two lists of the same changes are held to be the same. -/
import Derived.Test.YtgcgilcalmefgaaRnS
namespace Go.Proofs.Ytgcgilcalmefgaa
open Go Go.RowKit Go.Sort
set_option maxRecDepth 100000
set_option linter.unusedSimpArgs false
set_option linter.unusedVariables false
set_option maxHeartbeats 2000000
def eventR (e : Rn.E) (cs : List Value) : Prop := cs = [.int .i64 (e).kind, .string (e).ten, .int .i64 (e).num, .int .i64 (e).epoch, .string (e).txt] ∧ e.ten.size ≤ maxLen ∧ e.txt.size ≤ maxLen
def EventsAt (G : Nat → Prop) (w : World) (A : Option Addr) (es : List Rn.E) : Prop := RowsAt 5 eventR G w A es
theorem eventsAt_keep {G G' : Nat → Prop} {w w' : World} {A : Option Addr} {es : List Rn.E} (h : EventsAt G w A es) (hG : ∀ b, G b → G' b) (hk : Kept G w w') : EventsAt G' w' A es := rows_keep h (fun _ _ _ h => h) hG hk
theorem events_at {G : Nat → Prop} {w : World} {A : Option Addr} {es : List Rn.E} (h : EventsAt G w A es) {k : Nat} (hk : k < es.length) :
    ∃ b o, A = some ⟨b, o, none⟩ ∧ G b ∧ es[k].ten.size ≤ maxLen ∧ es[k].txt.size ≤ maxLen ∧ w.cell? ⟨b, o + k * 5, none⟩ = some (.int .i64 es[k].kind) ∧ w.cell? ⟨b, o + k * 5 + 1, none⟩ = some (.string es[k].ten) ∧ w.cell? ⟨b, o + k * 5 + 2, none⟩ = some (.int .i64 es[k].num) ∧ w.cell? ⟨b, o + k * 5 + 3, none⟩ = some (.int .i64 es[k].epoch) ∧ w.cell? ⟨b, o + k * 5 + 4, none⟩ = some (.string es[k].txt) := by
  obtain ⟨b, o, cs, h1, h2, ⟨rfl, h3, h4⟩, h7⟩ := rows_at h hk
  exact ⟨b, o, h1, h2, h3, h4, h7 0 _ rfl, h7 1 _ rfl, h7 2 _ rfl, h7 3 _ rfl, h7 4 _ rfl⟩
theorem event_eq_run (e : Rn.E) (w : World) : (Op.equalIn 10000 26 (.agg #[.int .i64 (e).kind, .string (e).ten, .int .i64 (e).num, .int .i64 (e).epoch, .string (e).txt]) (.agg #[.int .i64 (e).kind, .string (e).ten, .int .i64 (e).num, .int .i64 (e).epoch, .string (e).txt])).run Try.prog w = .ok true w := by
  rw [run_equalIn_agg w 9999 26 _ _ (by kernel_rfl) (by kernel_rfl)]
  have hf : (Try.prog.fieldsOf 26).toList = [⟨"Kind", 3, 0, false, "", "", 0⟩, ⟨"Tenant", 9, 1, false, "", "", 8⟩, ⟨"Num", 3, 2, false, "", "", 24⟩, ⟨"Epoch", 3, 3, false, "", "", 32⟩, ⟨"Text", 9, 4, false, "", "", 40⟩] := by kernel_rfl
  rw [hf]
  simp only [Op.eqFields, Sem.run_bind, Sem.run_ite]
  simp [go_sem, part]
theorem events_any (es : List Rn.E) (A B : Option Addr) (ca cb : Nat) (G : Nat → Prop) (w : World) (hG : ∀ b, G b → b < w.heap.size) (hl : es.length ≤ maxLen) (hA : EventsAt G w A es) (hB : EventsAt G w B es) :
    Calls Try.prog 30 #[.slice A es.length ca, .slice B es.length cb] w (RetG (.bool true) w) := by
  have hee := fun e w => event_eq_run e w
  have HA := hid_mk hA
  have HB := hid_mk hB
  have HG := hid_mk hG
  unfold maxLen at hl
  clear hA hB hG
  go_enter Try.func30, Try.ntmps30
  go_wp2
  go_loopw [5] (fun v wr => UpAt es.length w v wr) (fun v _ => es.length - (intOf v).toNat)
  case atStart => exact ⟨0, rfl, Nat.zero_le _, Below.refl _ _⟩
  case round =>
    obtain ⟨k, rfl, hk, hb⟩ := hrel
    have HBW := hid_mk hb
    by_cases hlt : k < es.length
    case neg =>
      have hn : ¬ ((k : Int) < (es.length : Int)) := by omega
      clear hb
      go_wp2
      exact bodyPost_ret (v := .bool true) (by simp [results, Try.results30, go_sem]) rfl ⟨rfl, HBW.out⟩
    have hA2 := eventsAt_keep HA.out (fun b h => h) (kept_below hb HG.out)
    have hB2 := eventsAt_keep HB.out (fun b h => h) (kept_below hb HG.out)
    obtain ⟨ba, oa, e1, -, -, -, x0, x1, x2, x3, x4⟩ := events_at hA2 hlt
    obtain ⟨bb, ob, e2, -, -, -, y0, y1, y2, y3, y4⟩ := events_at hB2 hlt
    subst e1
    subst e2
    generalize es[k] = p at *
    have za0 : ∀ d os, (grow (redrawn wr d) os).cell? ⟨ba, oa + k * 5, none⟩ = some (.int .i64 p.kind) := fun d os => cell_regrown x0 d os
    have za1 : ∀ d os, (grow (redrawn wr d) os).cell? ⟨ba, oa + k * 5 + 1, none⟩ = some (.string p.ten) := fun d os => cell_regrown x1 d os
    have za2 : ∀ d os, (grow (redrawn wr d) os).cell? ⟨ba, oa + k * 5 + 2, none⟩ = some (.int .i64 p.num) := fun d os => cell_regrown x2 d os
    have za3 : ∀ d os, (grow (redrawn wr d) os).cell? ⟨ba, oa + k * 5 + 3, none⟩ = some (.int .i64 p.epoch) := fun d os => cell_regrown x3 d os
    have za4 : ∀ d os, (grow (redrawn wr d) os).cell? ⟨ba, oa + k * 5 + 4, none⟩ = some (.string p.txt) := fun d os => cell_regrown x4 d os
    have zb0 : ∀ d os, (grow (redrawn wr d) os).cell? ⟨bb, ob + k * 5, none⟩ = some (.int .i64 p.kind) := fun d os => cell_regrown y0 d os
    have zb1 : ∀ d os, (grow (redrawn wr d) os).cell? ⟨bb, ob + k * 5 + 1, none⟩ = some (.string p.ten) := fun d os => cell_regrown y1 d os
    have zb2 : ∀ d os, (grow (redrawn wr d) os).cell? ⟨bb, ob + k * 5 + 2, none⟩ = some (.int .i64 p.num) := fun d os => cell_regrown y2 d os
    have zb3 : ∀ d os, (grow (redrawn wr d) os).cell? ⟨bb, ob + k * 5 + 3, none⟩ = some (.int .i64 p.epoch) := fun d os => cell_regrown y3 d os
    have zb4 : ∀ d os, (grow (redrawn wr d) os).cell? ⟨bb, ob + k * 5 + 4, none⟩ = some (.string p.txt) := fun d os => cell_regrown y4 d os
    have hep := fun w => event_eq_run p w
    clear hA2 hB2 hb hee x0 x1 x2 x3 x4 y0 y1 y2 y3 y4
    go_wp2
    (refine wp_region_quiet_below (by kernel_rfl) (by kernel_rfl) ?_; (repeat (first | go_big_quiet_step (fail) | quiet_step (fail))); refine wpQuiet_nil ?_; intro _ hw'; obtain ⟨⟨nq, osq⟩, hw''⟩ := hw'; subst hw'')
    have HBY := hid_mk (HBW.out.trans ((below_regrown wr nq osq).mono HBW.out.size))
    clear za0 za1 za2 za3 za4 zb0 zb1 zb2 zb3 zb4
    generalize grow (redrawn wr nq) osq = Y at *
    go_wp2
    go_roundw
    case rel => exact ⟨k + 1, by go_num, by omega, HBY.out⟩
    case measure => simp [intOf]; omega
end Go.Proofs.Ytgcgilcalmefgaa
