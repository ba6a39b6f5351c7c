/- States and changes in memory; handed in from outside: opened. -/
import Derived.Test.YtgcgilcalmefgaaChecked
import Derived.Test.YtgcgilcalmefgaaRnP
import Derived.Test.YtgcgilcalmefgaaRw
namespace Go.Proofs.Ytgcgilcalmefgaa
open Go Go.RowKit Go.ChangeShapes Go.WideShapes
set_option maxRecDepth 100000
set_option maxHeartbeats 1000000
def keyR (k : Rn.K) (cs : List Value) : Prop := cs = [.int .i64 k.num, .string k.txt] ∧ k.txt.size ≤ maxLen
def KeysAt (G : Nat → Prop) (w : World) (A : Option Addr) (ks : List Rn.K) : Prop := RowsAt 2 keyR G w A ks
def tenR (G : Nat → Prop) (w : World) (t : Rn.T) (cs : List Value) : Prop :=
  ∃ (A : Option Addr) (c : Nat), cs = [.string t.name, .int .i64 t.epoch, .int .i64 t.next, .slice A t.keys.length c] ∧ Fits A t.keys.length c ∧ t.keys.length ≤ maxLen ∧ t.name.size ≤ maxLen ∧ KeysAt G w A t.keys
def TensAt (G : Nat → Prop) (w : World) (A : Option Addr) (ts : List Rn.T) : Prop := RowsAt 4 (tenR G w) G w A ts
theorem keysAt_keep {G G' : Nat → Prop} {w w' : World} {A : Option Addr} {ks : List Rn.K} (h : KeysAt G w A ks) (hG : ∀ b, G b → G' b) (hk : Kept G w w') : KeysAt G' w' A ks := rows_keep h (fun _ _ _ h => h) hG hk
theorem tenR_keep {G G' : Nat → Prop} {w w' : World} {t : Rn.T} {cs : List Value} (h : tenR G w t cs) (hG : ∀ b, G b → G' b) (hk : Kept G w w') : tenR G' w' t cs := by
  obtain ⟨A, c, h1, h2, h3, h4, h5⟩ := h
  exact ⟨A, c, h1, h2, h3, h4, keysAt_keep h5 hG hk⟩
theorem tensAt_keep {G G' : Nat → Prop} {w w' : World} {A : Option Addr} {ts : List Rn.T} (h : TensAt G w A ts) (hG : ∀ b, G b → G' b) (hk : Kept G w w') : TensAt G' w' A ts := rows_keep h (fun _ _ _ h => tenR_keep h hG hk) hG hk
theorem tens_at {G : Nat → Prop} {w : World} {A : Option Addr} {ts : List Rn.T} (h : TensAt G w A ts) {k : Nat} (hk : k < ts.length) :
    ∃ b o A' c, A = some ⟨b, o, none⟩ ∧ G b ∧ Fits A' ts[k].keys.length c ∧ ts[k].keys.length ≤ maxLen ∧ ts[k].name.size ≤ maxLen ∧ KeysAt G w A' ts[k].keys ∧
      w.cell? ⟨b, o + k * 4, none⟩ = some (.string ts[k].name) ∧ w.cell? ⟨b, o + k * 4 + 1, none⟩ = some (.int .i64 ts[k].epoch) ∧ w.cell? ⟨b, o + k * 4 + 2, none⟩ = some (.int .i64 ts[k].next) ∧ w.cell? ⟨b, o + k * 4 + 3, none⟩ = some (.slice A' ts[k].keys.length c) := by
  obtain ⟨b, o, cs, h1, h2, ⟨A', c, rfl, h3, h4, h5, h6⟩, h7⟩ := rows_at h hk
  exact ⟨b, o, A', c, h1, h2, h3, h4, h5, h6, h7 0 _ rfl, h7 1 _ rfl, h7 2 _ rfl, h7 3 _ rfl⟩
theorem keys_at {G : Nat → Prop} {w : World} {A : Option Addr} {ks : List Rn.K} (h : KeysAt G w A ks) {k : Nat} (hk : k < ks.length) :
    ∃ b o, A = some ⟨b, o, none⟩ ∧ G b ∧ ks[k].txt.size ≤ maxLen ∧ w.cell? ⟨b, o + k * 2, none⟩ = some (.int .i64 ks[k].num) ∧ w.cell? ⟨b, o + k * 2 + 1, none⟩ = some (.string ks[k].txt) := by
  obtain ⟨b, o, cs, h1, h2, ⟨rfl, h3⟩, h7⟩ := rows_at h hk
  exact ⟨b, o, h1, h2, h3, h7 0 _ rfl, h7 1 _ rfl⟩
section
variable {H : Type} {enc : TypeId × Value → H} {W : World} {sp : Nat → Bool} {held : Bool}
theorem open_key {fuel : Nat} {cs : List Value} {x : DataW H × List MemPlace} (h : DataW.trod enc Try.prog W 0 sp held fuel 44 cs = some x) : ∃ k, keyR k cs ∧ cs.length = 2 := by
  obtain ⟨xs, m, rfl, hx, hl, hxl, hf⟩ := DataW.trod_struct Try.underlying44 h
  have c3 : Try.prog.cellsOf 3 = 1 := by kernel_rfl
  have c9 : Try.prog.cellsOf 9 = 1 := by kernel_rfl
  have c44 : Try.prog.cellsOf 44 = 2 := by kernel_rfl
  rw [c44] at hl
  have hx2 : xs.length = 2 := hxl
  match cs, hl with
  | [v0, v1], _ =>
  have f0 : DataW.trod enc Try.prog W 0 sp held m 3 (([v0, v1].drop 0).take (Try.prog.cellsOf 3)) = xs[0]? := hf 0 _ rfl
  have f1 : DataW.trod enc Try.prog W 0 sp held m 9 (([v0, v1].drop 1).take (Try.prog.cellsOf 9)) = xs[1]? := hf 1 _ rfl
  rw [List.getElem?_eq_getElem (by omega)] at f0 f1
  rw [c3] at f0
  rw [c9] at f1
  obtain ⟨a, e0, -, -⟩ := DataW.trod_int Try.underlying3 (cs := [v0]) f0
  obtain ⟨s, e1, -, hs⟩ := DataW.trod_string Try.underlying9 (cs := [v1]) f1
  injection e0 with e0 _
  injection e1 with e1 _
  subst e0 e1
  exact ⟨⟨a, s⟩, ⟨rfl, hs⟩, rfl⟩
theorem open_ten {fuel : Nat} {cs : List Value} {x : DataW H × List MemPlace} (h : DataW.trod enc Try.prog W 0 sp held fuel 38 cs = some x) : ∃ t, tenR (fun b => b < W.heap.size) W t cs ∧ cs.length = 4 := by
  obtain ⟨xs, m, rfl, hx, hl, hxl, hf⟩ := DataW.trod_struct Try.underlying38 h
  have c3 : Try.prog.cellsOf 3 = 1 := by kernel_rfl
  have c9 : Try.prog.cellsOf 9 = 1 := by kernel_rfl
  have c36 : Try.prog.cellsOf 36 = 1 := by kernel_rfl
  have c44 : Try.prog.cellsOf 44 = 2 := by kernel_rfl
  have c38 : Try.prog.cellsOf 38 = 4 := by kernel_rfl
  rw [c38] at hl
  have hx4 : xs.length = 4 := hxl
  match cs, hl with
  | [v0, v1, v2, v3], _ =>
  have f0 : DataW.trod enc Try.prog W 0 sp held m 9 (([v0, v1, v2, v3].drop 0).take (Try.prog.cellsOf 9)) = xs[0]? := hf 0 _ rfl
  have f1 : DataW.trod enc Try.prog W 0 sp held m 3 (([v0, v1, v2, v3].drop 1).take (Try.prog.cellsOf 3)) = xs[1]? := hf 1 _ rfl
  have f2 : DataW.trod enc Try.prog W 0 sp held m 3 (([v0, v1, v2, v3].drop 2).take (Try.prog.cellsOf 3)) = xs[2]? := hf 2 _ rfl
  have f3 : DataW.trod enc Try.prog W 0 sp held m 36 (([v0, v1, v2, v3].drop 3).take (Try.prog.cellsOf 36)) = xs[3]? := hf 3 _ rfl
  rw [List.getElem?_eq_getElem (by omega)] at f0 f1 f2 f3
  rw [c9] at f0
  rw [c3] at f1 f2
  rw [c36] at f3
  obtain ⟨s, e0, -, hs⟩ := DataW.trod_string Try.underlying9 (cs := [v0]) f0
  obtain ⟨a, e1, -, -⟩ := DataW.trod_int Try.underlying3 (cs := [v1]) f1
  obtain ⟨b, e2, -, -⟩ := DataW.trod_int Try.underlying3 (cs := [v2]) f2
  obtain ⟨A, ks, cap, e3, h1, h2, h3⟩ := rows_open (R := keyR) Try.underlying36 c44 (by decide) (fun fuel cs x h => open_key h) (v := v3) f3
  injection e0 with e0 _
  injection e1 with e1 _
  injection e2 with e2 _
  subst e0 e1 e2 e3
  exact ⟨⟨s, a, b, ks⟩, ⟨A, cap, rfl, h1, h2, hs, h3⟩, rfl⟩
theorem open_state {fuel : Nat} {cs : List Value} {x : DataW H × List MemPlace} (h : DataW.trod enc Try.prog W 0 sp held fuel 24 cs = some x) :
    ∃ (s : Rn.S) (A : Option Addr) (cap : Nat), cs = [.slice A s.tens.length cap, .int .i64 s.serial] ∧ Fits A s.tens.length cap ∧ s.tens.length ≤ maxLen ∧ TensAt (fun b => b < W.heap.size) W A s.tens := by
  obtain ⟨xs, m, rfl, hx, hl, hxl, hf⟩ := DataW.trod_struct Try.underlying24 h
  have c3 : Try.prog.cellsOf 3 = 1 := by kernel_rfl
  have c22 : Try.prog.cellsOf 22 = 1 := by kernel_rfl
  have c38 : Try.prog.cellsOf 38 = 4 := by kernel_rfl
  have c24 : Try.prog.cellsOf 24 = 2 := by kernel_rfl
  rw [c24] at hl
  have hx2 : xs.length = 2 := hxl
  match cs, hl with
  | [v0, v1], _ =>
  have f0 : DataW.trod enc Try.prog W 0 sp held m 22 (([v0, v1].drop 0).take (Try.prog.cellsOf 22)) = xs[0]? := hf 0 _ rfl
  have f1 : DataW.trod enc Try.prog W 0 sp held m 3 (([v0, v1].drop 1).take (Try.prog.cellsOf 3)) = xs[1]? := hf 1 _ rfl
  rw [List.getElem?_eq_getElem (by omega)] at f0 f1
  rw [c22] at f0
  rw [c3] at f1
  obtain ⟨b, e1, -, -⟩ := DataW.trod_int Try.underlying3 (cs := [v1]) f1
  obtain ⟨A, ts, cap, e0, h1, h2, h3⟩ := rows_open (R := tenR (fun b => b < W.heap.size) W) Try.underlying22 c38 (by decide) (fun fuel cs x h => open_ten h) (v := v0) f0
  injection e1 with e1 _
  subst e0 e1
  exact ⟨⟨ts, b⟩, A, cap, rfl, h1, h2, h3⟩
theorem open_event {fuel : Nat} {cs : List Value} {x : DataW H × List MemPlace} (h : DataW.trod enc Try.prog W 0 sp held fuel 26 cs = some x) :
    ∃ e : Rn.E, cs = [.int .i64 e.kind, .string e.ten, .int .i64 e.num, .int .i64 e.epoch, .string e.txt] ∧ e.ten.size ≤ maxLen ∧ e.txt.size ≤ maxLen := by
  obtain ⟨xs, m, rfl, hx, hl, hxl, hf⟩ := DataW.trod_struct Try.underlying26 h
  have c3 : Try.prog.cellsOf 3 = 1 := by kernel_rfl
  have c9 : Try.prog.cellsOf 9 = 1 := by kernel_rfl
  have c26 : Try.prog.cellsOf 26 = 5 := by kernel_rfl
  rw [c26] at hl
  have hx5 : xs.length = 5 := hxl
  match cs, hl with
  | [v0, v1, v2, v3, v4], _ =>
  have f0 : DataW.trod enc Try.prog W 0 sp held m 3 (([v0, v1, v2, v3, v4].drop 0).take (Try.prog.cellsOf 3)) = xs[0]? := hf 0 _ rfl
  have f1 : DataW.trod enc Try.prog W 0 sp held m 9 (([v0, v1, v2, v3, v4].drop 1).take (Try.prog.cellsOf 9)) = xs[1]? := hf 1 _ rfl
  have f2 : DataW.trod enc Try.prog W 0 sp held m 3 (([v0, v1, v2, v3, v4].drop 2).take (Try.prog.cellsOf 3)) = xs[2]? := hf 2 _ rfl
  have f3 : DataW.trod enc Try.prog W 0 sp held m 3 (([v0, v1, v2, v3, v4].drop 3).take (Try.prog.cellsOf 3)) = xs[3]? := hf 3 _ rfl
  have f4 : DataW.trod enc Try.prog W 0 sp held m 9 (([v0, v1, v2, v3, v4].drop 4).take (Try.prog.cellsOf 9)) = xs[4]? := hf 4 _ rfl
  rw [List.getElem?_eq_getElem (by omega)] at f0 f1 f2 f3 f4
  rw [c3] at f0 f2 f3
  rw [c9] at f1 f4
  obtain ⟨k, e0, -, -⟩ := DataW.trod_int Try.underlying3 (cs := [v0]) f0
  obtain ⟨s, e1, -, hs⟩ := DataW.trod_string Try.underlying9 (cs := [v1]) f1
  obtain ⟨a, e2, -, -⟩ := DataW.trod_int Try.underlying3 (cs := [v2]) f2
  obtain ⟨b, e3, -, -⟩ := DataW.trod_int Try.underlying3 (cs := [v3]) f3
  obtain ⟨t, e4, -, ht⟩ := DataW.trod_string Try.underlying9 (cs := [v4]) f4
  injection e0 with e0 _
  injection e1 with e1 _
  injection e2 with e2 _
  injection e3 with e3 _
  injection e4 with e4 _
  subst e0 e1 e2 e3 e4
  exact ⟨⟨k, s, a, b, t⟩, rfl, hs, ht⟩
end
end Go.Proofs.Ytgcgilcalmefgaa
