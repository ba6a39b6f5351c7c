/- Walks: porterref38.Apply: a change done, or what is wrong. -/
import Derived.Test.YtgcgilcalmefgaaRnZ
import Derived.Test.YtgcgilcalmefgaaRnF
import Derived.Test.YtgcgilcalmefgaaRnK
import Derived.Test.YtgcgilcalmefgaaReg3
import Derived.Test.YtgcgilcalmefgaaRow
namespace Go.Proofs.Ytgcgilcalmefgaa
open Go Go.RowKit Go.Sort
set_option maxRecDepth 100000
set_option linter.unusedSimpArgs false
set_option linter.unusedVariables false
set_option maxHeartbeats 2000000
/-- a call hands back this state, or this error -/
def RetSE (G : Nat → Prop) (r : Rn.R) (w : World) (e : Ending) (w' : World) : Prop :=
  ∃ (A : Option Addr) (c : Nat), e = .returned (.tuple #[.agg #[.slice (A) ((Rn.state r)).tens.length (c), .int .i64 ((Rn.state r)).serial], .int .i64 (Rn.err r)]) ∧ Fits A (Rn.state r).tens.length c ∧ Below w.heap.size w w' ∧ TensAt (fun b => G b ∨ (w.heap.size ≤ b ∧ b < w'.heap.size)) w' A (Rn.state r).tens
theorem retSE_bad {G : Nat → Prop} {w w' : World} (x : Int) (hb : Below w.heap.size w w') : RetSE G (.bad x) w (.returned (.tuple #[.agg #[.slice none 0 0, .int .i64 0], .int .i64 x])) w' :=
  ⟨none, 0, rfl, Fits.none_, hb, rows_nil⟩
theorem retSE_ok {G G' : Nat → Prop} {s : Rn.S} {w W w' : World} {A : Option Addr} {c : Nat} {cs : Array Value} (hG : ∀ b, G b → b < w.heap.size) (hbW : Below w.heap.size w W) (hz : w.heap.size + 1 + 1 < W.heap.size) (hG' : ∀ b, G' b → G b ∨ (w.heap.size + 1 + 1 < b ∧ b < W.heap.size)) (hf : Fits A s.tens.length c) (hb : Below W.heap.size W w') (hT : TensAt (fun b => G' b ∨ (W.heap.size ≤ b ∧ b < w'.heap.size)) w' A s.tens) :
    RetSE G (.ok s) w (.returned (.tuple #[.agg #[.slice (A) (s).tens.length (c), .int .i64 (s).serial], .int .i64 0])) (w'.setRow (w.heap.size + 1 + 1) cs) := by
  have hs := hbW.size
  have hs2 := hb.size
  refine ⟨A, c, rfl, hf, below_row (hbW.trans (hb.mono hs)) (by omega) _, tensAt_keep hT (fun b h => ?_) (fun b h => setRow_other _ _ _ ?_)⟩
  · rw [setRow_size]
    rcases h with h | h
    · rcases hG' b h with h | h
      · exact Or.inl h
      · exact Or.inr ⟨by omega, by omega⟩
    · exact Or.inr ⟨by omega, by omega⟩
  · rcases h with h | h
    · rcases hG' b h with h | h
      · have := hG b h; omega
      · omega
    · omega
theorem flatK_len (ks : List Rn.K) : (ks.flatMap keyV).length = ks.length * 2 := by
  induction ks with
  | nil => rfl
  | cons a r ih => rw [List.flatMap_cons, List.length_append, ih, List.length_cons]; show 2 + _ = _; omega
theorem flatK_one (ks : List Rn.K) : ∀ u ∈ ks.flatMap keyV, u.oneCell' = true := by
  intro u hu
  obtain ⟨x, -, hx⟩ := List.mem_flatMap.1 hu
  simp [keyV] at hx
  rcases hx with rfl | rfl <;> rfl
theorem keys_own {base n : Nat} {w : World} {v : Value} {ks : List Rn.K} {xs : List Value} (hx : ∀ x ∈ ks, x.txt.size ≤ maxLen) (h : w.ownsRow base 44 2 v n xs) (hn : n = ks.length) (hxs : xs = ks.flatMap keyV) :
    ∃ A c, v = .slice A ks.length c ∧ Fits A ks.length c ∧ KeysAt (fun b => base ≤ b ∧ b < w.heap.size) w A ks := by
  subst hn hxs
  exact rows_own (n := 2) (R := keyR) (fun x _ => rfl) (fun x hx' => ⟨rfl, hx x hx'⟩) h
theorem with_len {l : List Rn.K} {k : Rn.K} (h : l.length ≤ 1000) : (Rn.withK l k).length ≤ maxLen := by
  have h1 := Rn.withRun_len k l
  unfold Rn.withK maxLen
  split
  · rw [List.length_append, List.length_singleton]; split at h1 <;> omega
  · split at h1 <;> omega
theorem rap_right (s : Rn.S) (e : Rn.E) (hen : e.ten.size ≤ maxLen) (A : Option Addr) (c : Nat) (G : Nat → Prop) (w : World) (hG : ∀ b, G b → b < w.heap.size) (hl : s.tens.length ≤ 1000) (hT : TensAt G w A s.tens) (hr : Rn.right s = false)  :
    Calls Try.prog 12 #[.agg #[.slice (A) (s).tens.length (c), .int .i64 (s).serial], .agg #[.int .i64 (e).kind, .string (e).ten, .int .i64 (e).num, .int .i64 (e).epoch, .string (e).txt]] w (RetSE G (.bad 7) w) := by
  have HG := hid_mk hG
  have HT := hid_mk hT
  have hlm : s.tens.length ≤ maxLen := by unfold maxLen; omega
  obtain ⟨W0, hW0⟩ : ∃ W0, W0 = (((w.alloc (.cells #[.slice (A) (s).tens.length (c), .int .i64 (s).serial] 24)).alloc (.cells #[.int .i64 (e).kind, .string (e).ten, .int .i64 (e).num, .int .i64 (e).epoch, .string (e).txt] 26)).alloc (.cells #[.slice none 0 0, .int .i64 0] 24)) := ⟨_, rfl⟩
  have hb0 : Below w.heap.size w W0 := by rw [hW0]; exact (((Below.refl _ _).alloc (Nat.le_refl _) _).alloc (by simp) _).alloc (by simp; omega) _
  have hx0 : Blk W0 w.heap.size #[.slice (A) (s).tens.length (c), .int .i64 (s).serial] 24 := by rw [hW0]; exact ((Blk.new w _ _).alloc _).alloc _
  have hy0 : Blk W0 (w.heap.size + 1) #[.int .i64 (e).kind, .string (e).ten, .int .i64 (e).num, .int .i64 (e).epoch, .string (e).txt] 26 := by rw [hW0]; exact (blk_new (by simp)).alloc _
  have hz0 : Blk W0 (w.heap.size + 1 + 1) #[.slice none 0 0, .int .i64 0] 24 := by rw [hW0]; exact blk_new (by simp)
  have HB0 := hid_mk hb0
  have HX0 := hid_mk hx0
  have HY0 := hid_mk hy0
  have HZ0 := hid_mk hz0
  have HR1 := hide (fun w (hG : ∀ b, G b → b < w.heap.size) (hT : TensAt G w A s.tens) => rright38_any s A c G w hG hlm hT)
  rw [hr] at HR1
  have HKG : Hid (∀ b, G b → b < W0.heap.size) := hid_mk (fun b h => Nat.lt_of_lt_of_le (hG b h) hb0.size)
  have HTG : Hid (TensAt G W0 A s.tens) := hid_mk (tensAt_keep hT (fun b h => h) (kept_below hb0 hG))
  have hW := hid_mk hW0
  clear hG hT hb0 hx0 hy0 hz0 hW0 hr 
  go_enter Try.func12, Try.ntmps12
  go_wp2_with fail
  rw [← hW.out]
  refine (unhide HR1 _ HKG.out HTG.out).mono ?_
  rintro e' W1 ⟨rfl, hb1⟩
  have HX1 := hid_mk (HX0.out.call hb1)
  have HY1 := hid_mk (HY0.out.call hb1)
  have HZ1 := hid_mk (HZ0.out.call hb1)
  have HB1 := hid_mk (HB0.out.trans (hb1.mono HB0.out.size))
  have HKG1 : Hid (∀ b, G b → b < W1.heap.size) := hid_mk (fun b h => Nat.lt_of_lt_of_le (HG.out b h) HB1.out.size)
  have HTG1 := hid_mk (tensAt_keep HT.out (fun b h => h) (kept_below HB1.out HG.out))
  have hx1 := HX1.out
  have hy1 := HY1.out
  have hz1 := HZ1.out
  (have x10 : W1.cell? ⟨w.heap.size, 0, none⟩ = some (.slice (A) (s).tens.length (c)) := hx1.cell 0; have x11 : W1.cell? ⟨w.heap.size, 1, none⟩ = some (.int .i64 (s).serial) := hx1.cell 1; have x1f : ∀ i, W1.frozen? ⟨w.heap.size, i, none⟩ = false := hx1.frozen)
  (have y10 : W1.cell? ⟨w.heap.size + 1, 0, none⟩ = some (.int .i64 (e).kind) := hy1.cell 0; have y11 : W1.cell? ⟨w.heap.size + 1, 1, none⟩ = some (.string (e).ten) := hy1.cell 1; have y12 : W1.cell? ⟨w.heap.size + 1, 2, none⟩ = some (.int .i64 (e).num) := hy1.cell 2; have y13 : W1.cell? ⟨w.heap.size + 1, 3, none⟩ = some (.int .i64 (e).epoch) := hy1.cell 3; have y14 : W1.cell? ⟨w.heap.size + 1, 4, none⟩ = some (.string (e).txt) := hy1.cell 4; have y1f : ∀ i, W1.frozen? ⟨w.heap.size + 1, i, none⟩ = false := hy1.frozen)
  (have z10 : W1.cell? ⟨w.heap.size + 1 + 1, 0, none⟩ = some (.slice none 0 0) := hz1.cell 0; have z11 : W1.cell? ⟨w.heap.size + 1 + 1, 1, none⟩ = some (.int .i64 0) := hz1.cell 1; have z1f : ∀ i, W1.frozen? ⟨w.heap.size + 1 + 1, i, none⟩ = false := hz1.frozen)
  have hzs1 : w.heap.size + 1 + 1 < W1.heap.size := HZ1.out.lt
  have hys1 : w.heap.size + 1 < W1.heap.size := HY1.out.lt
  have hxs1 : w.heap.size < W1.heap.size := HX1.out.lt
  clear hb1 hx1 hy1 hz1
  go_wp2_with (refine store_row 24 rfl _ _ rfl (w.heap.size + 1 + 1) _ _ 24 HZ1.out rfl rfl (by kernel_rfl) rfl rfl ?_)
  refine ret_row_tmp rfl (w.heap.size + 1 + 1) #[.slice none 0 0, .int .i64 0] 24 (.int .i64 7) (HZ1.out.row) rfl rfl _ Try.underlying24 rfl ?_ rfl ?_
  · kernel_rfl
  · exact retSE_bad 7 (below_row HB1.out (by omega) _)
theorem rap_form (s : Rn.S) (e : Rn.E) (hen : e.ten.size ≤ maxLen) (A : Option Addr) (c : Nat) (G : Nat → Prop) (w : World) (hG : ∀ b, G b → b < w.heap.size) (hl : s.tens.length ≤ 1000) (hT : TensAt G w A s.tens) (hr : Rn.right s = true) (hf : Rn.form e = false)  :
    Calls Try.prog 12 #[.agg #[.slice (A) (s).tens.length (c), .int .i64 (s).serial], .agg #[.int .i64 (e).kind, .string (e).ten, .int .i64 (e).num, .int .i64 (e).epoch, .string (e).txt]] w (RetSE G (.bad 2) w) := by
  have HG := hid_mk hG
  have HT := hid_mk hT
  have hlm : s.tens.length ≤ maxLen := by unfold maxLen; omega
  obtain ⟨W0, hW0⟩ : ∃ W0, W0 = (((w.alloc (.cells #[.slice (A) (s).tens.length (c), .int .i64 (s).serial] 24)).alloc (.cells #[.int .i64 (e).kind, .string (e).ten, .int .i64 (e).num, .int .i64 (e).epoch, .string (e).txt] 26)).alloc (.cells #[.slice none 0 0, .int .i64 0] 24)) := ⟨_, rfl⟩
  have hb0 : Below w.heap.size w W0 := by rw [hW0]; exact (((Below.refl _ _).alloc (Nat.le_refl _) _).alloc (by simp) _).alloc (by simp; omega) _
  have hx0 : Blk W0 w.heap.size #[.slice (A) (s).tens.length (c), .int .i64 (s).serial] 24 := by rw [hW0]; exact ((Blk.new w _ _).alloc _).alloc _
  have hy0 : Blk W0 (w.heap.size + 1) #[.int .i64 (e).kind, .string (e).ten, .int .i64 (e).num, .int .i64 (e).epoch, .string (e).txt] 26 := by rw [hW0]; exact (blk_new (by simp)).alloc _
  have hz0 : Blk W0 (w.heap.size + 1 + 1) #[.slice none 0 0, .int .i64 0] 24 := by rw [hW0]; exact blk_new (by simp)
  have HB0 := hid_mk hb0
  have HX0 := hid_mk hx0
  have HY0 := hid_mk hy0
  have HZ0 := hid_mk hz0
  have HR1 := hide (fun w (hG : ∀ b, G b → b < w.heap.size) (hT : TensAt G w A s.tens) => rright38_any s A c G w hG hlm hT)
  rw [hr] at HR1
  have HKG : Hid (∀ b, G b → b < W0.heap.size) := hid_mk (fun b h => Nat.lt_of_lt_of_le (hG b h) hb0.size)
  have HTG : Hid (TensAt G W0 A s.tens) := hid_mk (tensAt_keep hT (fun b h => h) (kept_below hb0 hG))
  have HF1 := hide (fun w => rform_any e w hen)
  rw [hf] at HF1
  have hW := hid_mk hW0
  clear hG hT hb0 hx0 hy0 hz0 hW0 hr hf
  go_enter Try.func12, Try.ntmps12
  go_wp2_with fail
  rw [← hW.out]
  refine (unhide HR1 _ HKG.out HTG.out).mono ?_
  rintro e' W1 ⟨rfl, hb1⟩
  have HX1 := hid_mk (HX0.out.call hb1)
  have HY1 := hid_mk (HY0.out.call hb1)
  have HZ1 := hid_mk (HZ0.out.call hb1)
  have HB1 := hid_mk (HB0.out.trans (hb1.mono HB0.out.size))
  have HKG1 : Hid (∀ b, G b → b < W1.heap.size) := hid_mk (fun b h => Nat.lt_of_lt_of_le (HG.out b h) HB1.out.size)
  have HTG1 := hid_mk (tensAt_keep HT.out (fun b h => h) (kept_below HB1.out HG.out))
  have hx1 := HX1.out
  have hy1 := HY1.out
  have hz1 := HZ1.out
  (have x10 : W1.cell? ⟨w.heap.size, 0, none⟩ = some (.slice (A) (s).tens.length (c)) := hx1.cell 0; have x11 : W1.cell? ⟨w.heap.size, 1, none⟩ = some (.int .i64 (s).serial) := hx1.cell 1; have x1f : ∀ i, W1.frozen? ⟨w.heap.size, i, none⟩ = false := hx1.frozen)
  (have y10 : W1.cell? ⟨w.heap.size + 1, 0, none⟩ = some (.int .i64 (e).kind) := hy1.cell 0; have y11 : W1.cell? ⟨w.heap.size + 1, 1, none⟩ = some (.string (e).ten) := hy1.cell 1; have y12 : W1.cell? ⟨w.heap.size + 1, 2, none⟩ = some (.int .i64 (e).num) := hy1.cell 2; have y13 : W1.cell? ⟨w.heap.size + 1, 3, none⟩ = some (.int .i64 (e).epoch) := hy1.cell 3; have y14 : W1.cell? ⟨w.heap.size + 1, 4, none⟩ = some (.string (e).txt) := hy1.cell 4; have y1f : ∀ i, W1.frozen? ⟨w.heap.size + 1, i, none⟩ = false := hy1.frozen)
  (have z10 : W1.cell? ⟨w.heap.size + 1 + 1, 0, none⟩ = some (.slice none 0 0) := hz1.cell 0; have z11 : W1.cell? ⟨w.heap.size + 1 + 1, 1, none⟩ = some (.int .i64 0) := hz1.cell 1; have z1f : ∀ i, W1.frozen? ⟨w.heap.size + 1 + 1, i, none⟩ = false := hz1.frozen)
  have hzs1 : w.heap.size + 1 + 1 < W1.heap.size := HZ1.out.lt
  have hys1 : w.heap.size + 1 < W1.heap.size := HY1.out.lt
  have hxs1 : w.heap.size < W1.heap.size := HX1.out.lt
  clear hb1 hx1 hy1 hz1
  go_wp2_with fail
  refine (unhide HF1 _).mono ?_
  rintro e' W2 ⟨rfl, hb2⟩
  have HX2 := hid_mk (HX1.out.call hb2)
  have HY2 := hid_mk (HY1.out.call hb2)
  have HZ2 := hid_mk (HZ1.out.call hb2)
  have HB2 := hid_mk (HB1.out.trans (hb2.mono HB1.out.size))
  have HKG2 : Hid (∀ b, G b → b < W2.heap.size) := hid_mk (fun b h => Nat.lt_of_lt_of_le (HG.out b h) HB2.out.size)
  have HTG2 := hid_mk (tensAt_keep HT.out (fun b h => h) (kept_below HB2.out HG.out))
  have hx2 := HX2.out
  have hy2 := HY2.out
  have hz2 := HZ2.out
  (have x20 : W2.cell? ⟨w.heap.size, 0, none⟩ = some (.slice (A) (s).tens.length (c)) := hx2.cell 0; have x21 : W2.cell? ⟨w.heap.size, 1, none⟩ = some (.int .i64 (s).serial) := hx2.cell 1; have x2f : ∀ i, W2.frozen? ⟨w.heap.size, i, none⟩ = false := hx2.frozen)
  (have y20 : W2.cell? ⟨w.heap.size + 1, 0, none⟩ = some (.int .i64 (e).kind) := hy2.cell 0; have y21 : W2.cell? ⟨w.heap.size + 1, 1, none⟩ = some (.string (e).ten) := hy2.cell 1; have y22 : W2.cell? ⟨w.heap.size + 1, 2, none⟩ = some (.int .i64 (e).num) := hy2.cell 2; have y23 : W2.cell? ⟨w.heap.size + 1, 3, none⟩ = some (.int .i64 (e).epoch) := hy2.cell 3; have y24 : W2.cell? ⟨w.heap.size + 1, 4, none⟩ = some (.string (e).txt) := hy2.cell 4; have y2f : ∀ i, W2.frozen? ⟨w.heap.size + 1, i, none⟩ = false := hy2.frozen)
  (have z20 : W2.cell? ⟨w.heap.size + 1 + 1, 0, none⟩ = some (.slice none 0 0) := hz2.cell 0; have z21 : W2.cell? ⟨w.heap.size + 1 + 1, 1, none⟩ = some (.int .i64 0) := hz2.cell 1; have z2f : ∀ i, W2.frozen? ⟨w.heap.size + 1 + 1, i, none⟩ = false := hz2.frozen)
  have hzs2 : w.heap.size + 1 + 1 < W2.heap.size := HZ2.out.lt
  have hys2 : w.heap.size + 1 < W2.heap.size := HY2.out.lt
  have hxs2 : w.heap.size < W2.heap.size := HX2.out.lt
  clear hb2 hx2 hy2 hz2
  go_wp2_with (refine store_row 24 rfl _ _ rfl (w.heap.size + 1 + 1) _ _ 24 HZ2.out rfl rfl (by kernel_rfl) rfl rfl ?_)
  refine ret_row_tmp rfl (w.heap.size + 1 + 1) #[.slice none 0 0, .int .i64 0] 24 (.int .i64 2) (HZ2.out.row) rfl rfl _ Try.underlying24 rfl ?_ rfl ?_
  · kernel_rfl
  · exact retSE_bad 2 (below_row HB2.out (by omega) _)
theorem rap_four_no (s : Rn.S) (ten txt : ByteArray) (num epoch : Int) (hen : ten.size ≤ maxLen) (htx : txt.size ≤ maxLen) (A : Option Addr) (c : Nat) (G : Nat → Prop) (w : World) (hG : ∀ b, G b → b < w.heap.size) (hl : s.tens.length ≤ 1000) (hT : TensAt G w A s.tens) (hr : Rn.right s = true) (hf : Rn.form ⟨4, ten, num, epoch, txt⟩ = true) (hn : num < s.serial) :
    Calls Try.prog 12 #[.agg #[.slice (A) (s).tens.length (c), .int .i64 (s).serial], .agg #[.int .i64 4, .string ten, .int .i64 num, .int .i64 epoch, .string txt]] w (RetSE G (.bad 7) w) := by
  have HG := hid_mk hG
  have HT := hid_mk hT
  have hlm : s.tens.length ≤ maxLen := by unfold maxLen; omega
  obtain ⟨W0, hW0⟩ : ∃ W0, W0 = (((w.alloc (.cells #[.slice (A) (s).tens.length (c), .int .i64 (s).serial] 24)).alloc (.cells #[.int .i64 4, .string ten, .int .i64 num, .int .i64 epoch, .string txt] 26)).alloc (.cells #[.slice none 0 0, .int .i64 0] 24)) := ⟨_, rfl⟩
  have hb0 : Below w.heap.size w W0 := by rw [hW0]; exact (((Below.refl _ _).alloc (Nat.le_refl _) _).alloc (by simp) _).alloc (by simp; omega) _
  have hx0 : Blk W0 w.heap.size #[.slice (A) (s).tens.length (c), .int .i64 (s).serial] 24 := by rw [hW0]; exact ((Blk.new w _ _).alloc _).alloc _
  have hy0 : Blk W0 (w.heap.size + 1) #[.int .i64 4, .string ten, .int .i64 num, .int .i64 epoch, .string txt] 26 := by rw [hW0]; exact (blk_new (by simp)).alloc _
  have hz0 : Blk W0 (w.heap.size + 1 + 1) #[.slice none 0 0, .int .i64 0] 24 := by rw [hW0]; exact blk_new (by simp)
  have HB0 := hid_mk hb0
  have HX0 := hid_mk hx0
  have HY0 := hid_mk hy0
  have HZ0 := hid_mk hz0
  have HR1 := hide (fun w (hG : ∀ b, G b → b < w.heap.size) (hT : TensAt G w A s.tens) => rright38_any s A c G w hG hlm hT)
  rw [hr] at HR1
  have HKG : Hid (∀ b, G b → b < W0.heap.size) := hid_mk (fun b h => Nat.lt_of_lt_of_le (hG b h) hb0.size)
  have HTG : Hid (TensAt G W0 A s.tens) := hid_mk (tensAt_keep hT (fun b h => h) (kept_below hb0 hG))
  have HF1 := hide (fun w => rform_any ⟨4, ten, num, epoch, txt⟩ w hen)
  rw [hf] at HF1
  have hW := hid_mk hW0
  clear hG hT hb0 hx0 hy0 hz0 hW0 hr hf
  go_enter Try.func12, Try.ntmps12
  go_wp2_with fail
  rw [← hW.out]
  refine (unhide HR1 _ HKG.out HTG.out).mono ?_
  rintro e' W1 ⟨rfl, hb1⟩
  have HX1 := hid_mk (HX0.out.call hb1)
  have HY1 := hid_mk (HY0.out.call hb1)
  have HZ1 := hid_mk (HZ0.out.call hb1)
  have HB1 := hid_mk (HB0.out.trans (hb1.mono HB0.out.size))
  have HKG1 : Hid (∀ b, G b → b < W1.heap.size) := hid_mk (fun b h => Nat.lt_of_lt_of_le (HG.out b h) HB1.out.size)
  have HTG1 := hid_mk (tensAt_keep HT.out (fun b h => h) (kept_below HB1.out HG.out))
  have hx1 := HX1.out
  have hy1 := HY1.out
  have hz1 := HZ1.out
  (have x10 : W1.cell? ⟨w.heap.size, 0, none⟩ = some (.slice (A) (s).tens.length (c)) := hx1.cell 0; have x11 : W1.cell? ⟨w.heap.size, 1, none⟩ = some (.int .i64 (s).serial) := hx1.cell 1; have x1f : ∀ i, W1.frozen? ⟨w.heap.size, i, none⟩ = false := hx1.frozen)
  (have y10 : W1.cell? ⟨w.heap.size + 1, 0, none⟩ = some (.int .i64 4) := hy1.cell 0; have y11 : W1.cell? ⟨w.heap.size + 1, 1, none⟩ = some (.string ten) := hy1.cell 1; have y12 : W1.cell? ⟨w.heap.size + 1, 2, none⟩ = some (.int .i64 num) := hy1.cell 2; have y13 : W1.cell? ⟨w.heap.size + 1, 3, none⟩ = some (.int .i64 epoch) := hy1.cell 3; have y14 : W1.cell? ⟨w.heap.size + 1, 4, none⟩ = some (.string txt) := hy1.cell 4; have y1f : ∀ i, W1.frozen? ⟨w.heap.size + 1, i, none⟩ = false := hy1.frozen)
  (have z10 : W1.cell? ⟨w.heap.size + 1 + 1, 0, none⟩ = some (.slice none 0 0) := hz1.cell 0; have z11 : W1.cell? ⟨w.heap.size + 1 + 1, 1, none⟩ = some (.int .i64 0) := hz1.cell 1; have z1f : ∀ i, W1.frozen? ⟨w.heap.size + 1 + 1, i, none⟩ = false := hz1.frozen)
  have hzs1 : w.heap.size + 1 + 1 < W1.heap.size := HZ1.out.lt
  have hys1 : w.heap.size + 1 < W1.heap.size := HY1.out.lt
  have hxs1 : w.heap.size < W1.heap.size := HX1.out.lt
  clear hb1 hx1 hy1 hz1
  go_wp2_with fail
  refine (unhide HF1 _).mono ?_
  rintro e' W2 ⟨rfl, hb2⟩
  have HX2 := hid_mk (HX1.out.call hb2)
  have HY2 := hid_mk (HY1.out.call hb2)
  have HZ2 := hid_mk (HZ1.out.call hb2)
  have HB2 := hid_mk (HB1.out.trans (hb2.mono HB1.out.size))
  have HKG2 : Hid (∀ b, G b → b < W2.heap.size) := hid_mk (fun b h => Nat.lt_of_lt_of_le (HG.out b h) HB2.out.size)
  have HTG2 := hid_mk (tensAt_keep HT.out (fun b h => h) (kept_below HB2.out HG.out))
  have hx2 := HX2.out
  have hy2 := HY2.out
  have hz2 := HZ2.out
  (have x20 : W2.cell? ⟨w.heap.size, 0, none⟩ = some (.slice (A) (s).tens.length (c)) := hx2.cell 0; have x21 : W2.cell? ⟨w.heap.size, 1, none⟩ = some (.int .i64 (s).serial) := hx2.cell 1; have x2f : ∀ i, W2.frozen? ⟨w.heap.size, i, none⟩ = false := hx2.frozen)
  (have y20 : W2.cell? ⟨w.heap.size + 1, 0, none⟩ = some (.int .i64 4) := hy2.cell 0; have y21 : W2.cell? ⟨w.heap.size + 1, 1, none⟩ = some (.string ten) := hy2.cell 1; have y22 : W2.cell? ⟨w.heap.size + 1, 2, none⟩ = some (.int .i64 num) := hy2.cell 2; have y23 : W2.cell? ⟨w.heap.size + 1, 3, none⟩ = some (.int .i64 epoch) := hy2.cell 3; have y24 : W2.cell? ⟨w.heap.size + 1, 4, none⟩ = some (.string txt) := hy2.cell 4; have y2f : ∀ i, W2.frozen? ⟨w.heap.size + 1, i, none⟩ = false := hy2.frozen)
  (have z20 : W2.cell? ⟨w.heap.size + 1 + 1, 0, none⟩ = some (.slice none 0 0) := hz2.cell 0; have z21 : W2.cell? ⟨w.heap.size + 1 + 1, 1, none⟩ = some (.int .i64 0) := hz2.cell 1; have z2f : ∀ i, W2.frozen? ⟨w.heap.size + 1 + 1, i, none⟩ = false := hz2.frozen)
  have hzs2 : w.heap.size + 1 + 1 < W2.heap.size := HZ2.out.lt
  have hys2 : w.heap.size + 1 < W2.heap.size := HY2.out.lt
  have hxs2 : w.heap.size < W2.heap.size := HX2.out.lt
  clear hb2 hx2 hy2 hz2
  go_wp2_with (refine store_row 24 rfl _ _ rfl (w.heap.size + 1 + 1) _ _ 24 HZ2.out rfl rfl (by kernel_rfl) rfl rfl ?_)
  refine ret_row_tmp rfl (w.heap.size + 1 + 1) #[.slice none 0 0, .int .i64 0] 24 (.int .i64 7) (HZ2.out.row) rfl rfl _ Try.underlying24 rfl ?_ rfl ?_
  · kernel_rfl
  · exact retSE_bad 7 (below_row HB2.out (by omega) _)
theorem rap_four (s : Rn.S) (ten txt : ByteArray) (num epoch : Int) (hen : ten.size ≤ maxLen) (htx : txt.size ≤ maxLen) (A : Option Addr) (c : Nat) (G : Nat → Prop) (w : World) (hG : ∀ b, G b → b < w.heap.size) (hl : s.tens.length ≤ 1000) (hT : TensAt G w A s.tens) (hr : Rn.right s = true) (hf : Rn.form ⟨4, ten, num, epoch, txt⟩ = true) (hn : ¬ num < s.serial) (hfit : Fits A s.tens.length c) :
    Calls Try.prog 12 #[.agg #[.slice (A) (s).tens.length (c), .int .i64 (s).serial], .agg #[.int .i64 4, .string ten, .int .i64 num, .int .i64 epoch, .string txt]] w (RetSE G (.ok ⟨s.tens, num⟩) w) := by
  have HG := hid_mk hG
  have HT := hid_mk hT
  have hlm : s.tens.length ≤ maxLen := by unfold maxLen; omega
  obtain ⟨W0, hW0⟩ : ∃ W0, W0 = (((w.alloc (.cells #[.slice (A) (s).tens.length (c), .int .i64 (s).serial] 24)).alloc (.cells #[.int .i64 4, .string ten, .int .i64 num, .int .i64 epoch, .string txt] 26)).alloc (.cells #[.slice none 0 0, .int .i64 0] 24)) := ⟨_, rfl⟩
  have hb0 : Below w.heap.size w W0 := by rw [hW0]; exact (((Below.refl _ _).alloc (Nat.le_refl _) _).alloc (by simp) _).alloc (by simp; omega) _
  have hx0 : Blk W0 w.heap.size #[.slice (A) (s).tens.length (c), .int .i64 (s).serial] 24 := by rw [hW0]; exact ((Blk.new w _ _).alloc _).alloc _
  have hy0 : Blk W0 (w.heap.size + 1) #[.int .i64 4, .string ten, .int .i64 num, .int .i64 epoch, .string txt] 26 := by rw [hW0]; exact (blk_new (by simp)).alloc _
  have hz0 : Blk W0 (w.heap.size + 1 + 1) #[.slice none 0 0, .int .i64 0] 24 := by rw [hW0]; exact blk_new (by simp)
  have HB0 := hid_mk hb0
  have HX0 := hid_mk hx0
  have HY0 := hid_mk hy0
  have HZ0 := hid_mk hz0
  have HR1 := hide (fun w (hG : ∀ b, G b → b < w.heap.size) (hT : TensAt G w A s.tens) => rright38_any s A c G w hG hlm hT)
  rw [hr] at HR1
  have HKG : Hid (∀ b, G b → b < W0.heap.size) := hid_mk (fun b h => Nat.lt_of_lt_of_le (hG b h) hb0.size)
  have HTG : Hid (TensAt G W0 A s.tens) := hid_mk (tensAt_keep hT (fun b h => h) (kept_below hb0 hG))
  have HF1 := hide (fun w => rform_any ⟨4, ten, num, epoch, txt⟩ w hen)
  rw [hf] at HF1
  have hW := hid_mk hW0
  clear hG hT hb0 hx0 hy0 hz0 hW0 hr hf
  go_enter Try.func12, Try.ntmps12
  go_wp2_with fail
  rw [← hW.out]
  refine (unhide HR1 _ HKG.out HTG.out).mono ?_
  rintro e' W1 ⟨rfl, hb1⟩
  have HX1 := hid_mk (HX0.out.call hb1)
  have HY1 := hid_mk (HY0.out.call hb1)
  have HZ1 := hid_mk (HZ0.out.call hb1)
  have HB1 := hid_mk (HB0.out.trans (hb1.mono HB0.out.size))
  have HKG1 : Hid (∀ b, G b → b < W1.heap.size) := hid_mk (fun b h => Nat.lt_of_lt_of_le (HG.out b h) HB1.out.size)
  have HTG1 := hid_mk (tensAt_keep HT.out (fun b h => h) (kept_below HB1.out HG.out))
  have hx1 := HX1.out
  have hy1 := HY1.out
  have hz1 := HZ1.out
  (have x10 : W1.cell? ⟨w.heap.size, 0, none⟩ = some (.slice (A) (s).tens.length (c)) := hx1.cell 0; have x11 : W1.cell? ⟨w.heap.size, 1, none⟩ = some (.int .i64 (s).serial) := hx1.cell 1; have x1f : ∀ i, W1.frozen? ⟨w.heap.size, i, none⟩ = false := hx1.frozen)
  (have y10 : W1.cell? ⟨w.heap.size + 1, 0, none⟩ = some (.int .i64 4) := hy1.cell 0; have y11 : W1.cell? ⟨w.heap.size + 1, 1, none⟩ = some (.string ten) := hy1.cell 1; have y12 : W1.cell? ⟨w.heap.size + 1, 2, none⟩ = some (.int .i64 num) := hy1.cell 2; have y13 : W1.cell? ⟨w.heap.size + 1, 3, none⟩ = some (.int .i64 epoch) := hy1.cell 3; have y14 : W1.cell? ⟨w.heap.size + 1, 4, none⟩ = some (.string txt) := hy1.cell 4; have y1f : ∀ i, W1.frozen? ⟨w.heap.size + 1, i, none⟩ = false := hy1.frozen)
  (have z10 : W1.cell? ⟨w.heap.size + 1 + 1, 0, none⟩ = some (.slice none 0 0) := hz1.cell 0; have z11 : W1.cell? ⟨w.heap.size + 1 + 1, 1, none⟩ = some (.int .i64 0) := hz1.cell 1; have z1f : ∀ i, W1.frozen? ⟨w.heap.size + 1 + 1, i, none⟩ = false := hz1.frozen)
  have hzs1 : w.heap.size + 1 + 1 < W1.heap.size := HZ1.out.lt
  have hys1 : w.heap.size + 1 < W1.heap.size := HY1.out.lt
  have hxs1 : w.heap.size < W1.heap.size := HX1.out.lt
  clear hb1 hx1 hy1 hz1
  go_wp2_with fail
  refine (unhide HF1 _).mono ?_
  rintro e' W2 ⟨rfl, hb2⟩
  have HX2 := hid_mk (HX1.out.call hb2)
  have HY2 := hid_mk (HY1.out.call hb2)
  have HZ2 := hid_mk (HZ1.out.call hb2)
  have HB2 := hid_mk (HB1.out.trans (hb2.mono HB1.out.size))
  have HKG2 : Hid (∀ b, G b → b < W2.heap.size) := hid_mk (fun b h => Nat.lt_of_lt_of_le (HG.out b h) HB2.out.size)
  have HTG2 := hid_mk (tensAt_keep HT.out (fun b h => h) (kept_below HB2.out HG.out))
  have hx2 := HX2.out
  have hy2 := HY2.out
  have hz2 := HZ2.out
  (have x20 : W2.cell? ⟨w.heap.size, 0, none⟩ = some (.slice (A) (s).tens.length (c)) := hx2.cell 0; have x21 : W2.cell? ⟨w.heap.size, 1, none⟩ = some (.int .i64 (s).serial) := hx2.cell 1; have x2f : ∀ i, W2.frozen? ⟨w.heap.size, i, none⟩ = false := hx2.frozen)
  (have y20 : W2.cell? ⟨w.heap.size + 1, 0, none⟩ = some (.int .i64 4) := hy2.cell 0; have y21 : W2.cell? ⟨w.heap.size + 1, 1, none⟩ = some (.string ten) := hy2.cell 1; have y22 : W2.cell? ⟨w.heap.size + 1, 2, none⟩ = some (.int .i64 num) := hy2.cell 2; have y23 : W2.cell? ⟨w.heap.size + 1, 3, none⟩ = some (.int .i64 epoch) := hy2.cell 3; have y24 : W2.cell? ⟨w.heap.size + 1, 4, none⟩ = some (.string txt) := hy2.cell 4; have y2f : ∀ i, W2.frozen? ⟨w.heap.size + 1, i, none⟩ = false := hy2.frozen)
  (have z20 : W2.cell? ⟨w.heap.size + 1 + 1, 0, none⟩ = some (.slice none 0 0) := hz2.cell 0; have z21 : W2.cell? ⟨w.heap.size + 1 + 1, 1, none⟩ = some (.int .i64 0) := hz2.cell 1; have z2f : ∀ i, W2.frozen? ⟨w.heap.size + 1 + 1, i, none⟩ = false := hz2.frozen)
  have hzs2 : w.heap.size + 1 + 1 < W2.heap.size := HZ2.out.lt
  have hys2 : w.heap.size + 1 < W2.heap.size := HY2.out.lt
  have hxs2 : w.heap.size < W2.heap.size := HX2.out.lt
  clear hb2 hx2 hy2 hz2
  have hk2 := tensAt_keep HT.out (fun b h => h) (kept_below HB2.out HG.out)
  have HK2 := hid_mk hk2
  clear hk2
  go_wp2_with (refine store_row 24 rfl _ _ rfl (w.heap.size + 1 + 1) _ _ 24 HZ2.out rfl rfl (by kernel_rfl) rfl rfl ?_)
  refine ret_row_tmp rfl (w.heap.size + 1 + 1) #[.slice A s.tens.length c, .int .i64 num] 24 (.int .i64 0) (HZ2.out.row) rfl rfl _ Try.underlying24 rfl ?_ rfl ?_
  · kernel_rfl
  · exact ⟨A, c, rfl, hfit, below_row HB2.out (by omega) _, tensAt_keep HK2.out (fun b h => Or.inl h) (fun b h => setRow_other _ _ _ (by have := HG.out b h; omega))⟩
theorem rap_one_full (s : Rn.S) (ten txt : ByteArray) (num epoch : Int) (hen : ten.size ≤ maxLen) (htx : txt.size ≤ maxLen) (A : Option Addr) (c : Nat) (G : Nat → Prop) (w : World) (hG : ∀ b, G b → b < w.heap.size) (hl : s.tens.length ≤ 1000) (hT : TensAt G w A s.tens) (hr : Rn.right s = true) (hf : Rn.form ⟨1, ten, num, epoch, txt⟩ = true) (hat : findI s.tens ten = -1) (h16 : s.tens.length = 16) :
    Calls Try.prog 12 #[.agg #[.slice (A) (s).tens.length (c), .int .i64 (s).serial], .agg #[.int .i64 1, .string ten, .int .i64 num, .int .i64 epoch, .string txt]] w (RetSE G (.bad 3) w) := by
  have HG := hid_mk hG
  have HT := hid_mk hT
  have hlm : s.tens.length ≤ maxLen := by unfold maxLen; omega
  obtain ⟨W0, hW0⟩ : ∃ W0, W0 = (((w.alloc (.cells #[.slice (A) (s).tens.length (c), .int .i64 (s).serial] 24)).alloc (.cells #[.int .i64 1, .string ten, .int .i64 num, .int .i64 epoch, .string txt] 26)).alloc (.cells #[.slice none 0 0, .int .i64 0] 24)) := ⟨_, rfl⟩
  have hb0 : Below w.heap.size w W0 := by rw [hW0]; exact (((Below.refl _ _).alloc (Nat.le_refl _) _).alloc (by simp) _).alloc (by simp; omega) _
  have hx0 : Blk W0 w.heap.size #[.slice (A) (s).tens.length (c), .int .i64 (s).serial] 24 := by rw [hW0]; exact ((Blk.new w _ _).alloc _).alloc _
  have hy0 : Blk W0 (w.heap.size + 1) #[.int .i64 1, .string ten, .int .i64 num, .int .i64 epoch, .string txt] 26 := by rw [hW0]; exact (blk_new (by simp)).alloc _
  have hz0 : Blk W0 (w.heap.size + 1 + 1) #[.slice none 0 0, .int .i64 0] 24 := by rw [hW0]; exact blk_new (by simp)
  have HB0 := hid_mk hb0
  have HX0 := hid_mk hx0
  have HY0 := hid_mk hy0
  have HZ0 := hid_mk hz0
  have HR1 := hide (fun w (hG : ∀ b, G b → b < w.heap.size) (hT : TensAt G w A s.tens) => rright38_any s A c G w hG hlm hT)
  rw [hr] at HR1
  have HKG : Hid (∀ b, G b → b < W0.heap.size) := hid_mk (fun b h => Nat.lt_of_lt_of_le (hG b h) hb0.size)
  have HTG : Hid (TensAt G W0 A s.tens) := hid_mk (tensAt_keep hT (fun b h => h) (kept_below hb0 hG))
  have HF1 := hide (fun w => rform_any ⟨1, ten, num, epoch, txt⟩ w hen)
  rw [hf] at HF1
  have hW := hid_mk hW0
  clear hG hT hb0 hx0 hy0 hz0 hW0 hr hf
  have HFD := hide (fun w (hG : ∀ b, G b → b < w.heap.size) (hT : TensAt G w A s.tens) => rfind_any s A c ten G w hG hlm hT)
  rw [hat] at HFD
  clear hat
  have hf16 : ((s.tens.length : Int) == 16) = true := by rw [h16]; rfl
  clear h16
  go_enter Try.func12, Try.ntmps12
  go_wp2_with fail
  rw [← hW.out]
  refine (unhide HR1 _ HKG.out HTG.out).mono ?_
  rintro e' W1 ⟨rfl, hb1⟩
  have HX1 := hid_mk (HX0.out.call hb1)
  have HY1 := hid_mk (HY0.out.call hb1)
  have HZ1 := hid_mk (HZ0.out.call hb1)
  have HB1 := hid_mk (HB0.out.trans (hb1.mono HB0.out.size))
  have HKG1 : Hid (∀ b, G b → b < W1.heap.size) := hid_mk (fun b h => Nat.lt_of_lt_of_le (HG.out b h) HB1.out.size)
  have HTG1 := hid_mk (tensAt_keep HT.out (fun b h => h) (kept_below HB1.out HG.out))
  have hx1 := HX1.out
  have hy1 := HY1.out
  have hz1 := HZ1.out
  (have x10 : W1.cell? ⟨w.heap.size, 0, none⟩ = some (.slice (A) (s).tens.length (c)) := hx1.cell 0; have x11 : W1.cell? ⟨w.heap.size, 1, none⟩ = some (.int .i64 (s).serial) := hx1.cell 1; have x1f : ∀ i, W1.frozen? ⟨w.heap.size, i, none⟩ = false := hx1.frozen)
  (have y10 : W1.cell? ⟨w.heap.size + 1, 0, none⟩ = some (.int .i64 1) := hy1.cell 0; have y11 : W1.cell? ⟨w.heap.size + 1, 1, none⟩ = some (.string ten) := hy1.cell 1; have y12 : W1.cell? ⟨w.heap.size + 1, 2, none⟩ = some (.int .i64 num) := hy1.cell 2; have y13 : W1.cell? ⟨w.heap.size + 1, 3, none⟩ = some (.int .i64 epoch) := hy1.cell 3; have y14 : W1.cell? ⟨w.heap.size + 1, 4, none⟩ = some (.string txt) := hy1.cell 4; have y1f : ∀ i, W1.frozen? ⟨w.heap.size + 1, i, none⟩ = false := hy1.frozen)
  (have z10 : W1.cell? ⟨w.heap.size + 1 + 1, 0, none⟩ = some (.slice none 0 0) := hz1.cell 0; have z11 : W1.cell? ⟨w.heap.size + 1 + 1, 1, none⟩ = some (.int .i64 0) := hz1.cell 1; have z1f : ∀ i, W1.frozen? ⟨w.heap.size + 1 + 1, i, none⟩ = false := hz1.frozen)
  have hzs1 : w.heap.size + 1 + 1 < W1.heap.size := HZ1.out.lt
  have hys1 : w.heap.size + 1 < W1.heap.size := HY1.out.lt
  have hxs1 : w.heap.size < W1.heap.size := HX1.out.lt
  clear hb1 hx1 hy1 hz1
  go_wp2_with fail
  refine (unhide HF1 _).mono ?_
  rintro e' W2 ⟨rfl, hb2⟩
  have HX2 := hid_mk (HX1.out.call hb2)
  have HY2 := hid_mk (HY1.out.call hb2)
  have HZ2 := hid_mk (HZ1.out.call hb2)
  have HB2 := hid_mk (HB1.out.trans (hb2.mono HB1.out.size))
  have HKG2 : Hid (∀ b, G b → b < W2.heap.size) := hid_mk (fun b h => Nat.lt_of_lt_of_le (HG.out b h) HB2.out.size)
  have HTG2 := hid_mk (tensAt_keep HT.out (fun b h => h) (kept_below HB2.out HG.out))
  have hx2 := HX2.out
  have hy2 := HY2.out
  have hz2 := HZ2.out
  (have x20 : W2.cell? ⟨w.heap.size, 0, none⟩ = some (.slice (A) (s).tens.length (c)) := hx2.cell 0; have x21 : W2.cell? ⟨w.heap.size, 1, none⟩ = some (.int .i64 (s).serial) := hx2.cell 1; have x2f : ∀ i, W2.frozen? ⟨w.heap.size, i, none⟩ = false := hx2.frozen)
  (have y20 : W2.cell? ⟨w.heap.size + 1, 0, none⟩ = some (.int .i64 1) := hy2.cell 0; have y21 : W2.cell? ⟨w.heap.size + 1, 1, none⟩ = some (.string ten) := hy2.cell 1; have y22 : W2.cell? ⟨w.heap.size + 1, 2, none⟩ = some (.int .i64 num) := hy2.cell 2; have y23 : W2.cell? ⟨w.heap.size + 1, 3, none⟩ = some (.int .i64 epoch) := hy2.cell 3; have y24 : W2.cell? ⟨w.heap.size + 1, 4, none⟩ = some (.string txt) := hy2.cell 4; have y2f : ∀ i, W2.frozen? ⟨w.heap.size + 1, i, none⟩ = false := hy2.frozen)
  (have z20 : W2.cell? ⟨w.heap.size + 1 + 1, 0, none⟩ = some (.slice none 0 0) := hz2.cell 0; have z21 : W2.cell? ⟨w.heap.size + 1 + 1, 1, none⟩ = some (.int .i64 0) := hz2.cell 1; have z2f : ∀ i, W2.frozen? ⟨w.heap.size + 1 + 1, i, none⟩ = false := hz2.frozen)
  have hzs2 : w.heap.size + 1 + 1 < W2.heap.size := HZ2.out.lt
  have hys2 : w.heap.size + 1 < W2.heap.size := HY2.out.lt
  have hxs2 : w.heap.size < W2.heap.size := HX2.out.lt
  clear hb2 hx2 hy2 hz2
  go_wp2_with fail
  refine (unhide HFD _ HKG2.out HTG2.out).mono ?_
  rintro e' W3 ⟨rfl, hb3⟩
  have HX3 := hid_mk (HX2.out.call hb3)
  have HY3 := hid_mk (HY2.out.call hb3)
  have HZ3 := hid_mk (HZ2.out.call hb3)
  have HB3 := hid_mk (HB2.out.trans (hb3.mono HB2.out.size))
  have HKG3 : Hid (∀ b, G b → b < W3.heap.size) := hid_mk (fun b h => Nat.lt_of_lt_of_le (HG.out b h) HB3.out.size)
  have HTG3 := hid_mk (tensAt_keep HT.out (fun b h => h) (kept_below HB3.out HG.out))
  have hx3 := HX3.out
  have hy3 := HY3.out
  have hz3 := HZ3.out
  (have x30 : W3.cell? ⟨w.heap.size, 0, none⟩ = some (.slice (A) (s).tens.length (c)) := hx3.cell 0; have x31 : W3.cell? ⟨w.heap.size, 1, none⟩ = some (.int .i64 (s).serial) := hx3.cell 1; have x3f : ∀ i, W3.frozen? ⟨w.heap.size, i, none⟩ = false := hx3.frozen)
  (have y30 : W3.cell? ⟨w.heap.size + 1, 0, none⟩ = some (.int .i64 1) := hy3.cell 0; have y31 : W3.cell? ⟨w.heap.size + 1, 1, none⟩ = some (.string ten) := hy3.cell 1; have y32 : W3.cell? ⟨w.heap.size + 1, 2, none⟩ = some (.int .i64 num) := hy3.cell 2; have y33 : W3.cell? ⟨w.heap.size + 1, 3, none⟩ = some (.int .i64 epoch) := hy3.cell 3; have y34 : W3.cell? ⟨w.heap.size + 1, 4, none⟩ = some (.string txt) := hy3.cell 4; have y3f : ∀ i, W3.frozen? ⟨w.heap.size + 1, i, none⟩ = false := hy3.frozen)
  (have z30 : W3.cell? ⟨w.heap.size + 1 + 1, 0, none⟩ = some (.slice none 0 0) := hz3.cell 0; have z31 : W3.cell? ⟨w.heap.size + 1 + 1, 1, none⟩ = some (.int .i64 0) := hz3.cell 1; have z3f : ∀ i, W3.frozen? ⟨w.heap.size + 1 + 1, i, none⟩ = false := hz3.frozen)
  have hzs3 : w.heap.size + 1 + 1 < W3.heap.size := HZ3.out.lt
  have hys3 : w.heap.size + 1 < W3.heap.size := HY3.out.lt
  have hxs3 : w.heap.size < W3.heap.size := HX3.out.lt
  clear hb3 hx3 hy3 hz3
  have HZ4 := hid_mk (HZ3.out.alloc (.cells #[.string ten, .int .i64 0, .int .i64 0, .slice none 0 0] 38))
  have HB4 := hid_mk (HB3.out.alloc (by omega) (.cells #[.string ten, .int .i64 0, .int .i64 0, .slice none 0 0] 38))
  go_wp2_with (refine store_row 24 rfl _ _ rfl (w.heap.size + 1 + 1) _ _ 24 HZ4.out rfl rfl (by kernel_rfl) rfl rfl ?_)
  refine ret_row_tmp rfl (w.heap.size + 1 + 1) #[.slice none 0 0, .int .i64 0] 24 (.int .i64 3) (HZ4.out.row) rfl rfl _ Try.underlying24 rfl ?_ rfl ?_
  · kernel_rfl
  · exact retSE_bad 3 (below_row HB4.out (by omega) _)
theorem rap_none (s : Rn.S) (ten txt : ByteArray) (num epoch : Int) (hen : ten.size ≤ maxLen) (htx : txt.size ≤ maxLen) (A : Option Addr) (c : Nat) (G : Nat → Prop) (w : World) (hG : ∀ b, G b → b < w.heap.size) (hl : s.tens.length ≤ 1000) (hT : TensAt G w A s.tens) (hr : Rn.right s = true) (hf : Rn.form ⟨2, ten, num, epoch, txt⟩ = true) (hat : findI s.tens ten = -1)  :
    Calls Try.prog 12 #[.agg #[.slice (A) (s).tens.length (c), .int .i64 (s).serial], .agg #[.int .i64 2, .string ten, .int .i64 num, .int .i64 epoch, .string txt]] w (RetSE G (.bad 6) w) := by
  have HG := hid_mk hG
  have HT := hid_mk hT
  have hlm : s.tens.length ≤ maxLen := by unfold maxLen; omega
  obtain ⟨W0, hW0⟩ : ∃ W0, W0 = (((w.alloc (.cells #[.slice (A) (s).tens.length (c), .int .i64 (s).serial] 24)).alloc (.cells #[.int .i64 2, .string ten, .int .i64 num, .int .i64 epoch, .string txt] 26)).alloc (.cells #[.slice none 0 0, .int .i64 0] 24)) := ⟨_, rfl⟩
  have hb0 : Below w.heap.size w W0 := by rw [hW0]; exact (((Below.refl _ _).alloc (Nat.le_refl _) _).alloc (by simp) _).alloc (by simp; omega) _
  have hx0 : Blk W0 w.heap.size #[.slice (A) (s).tens.length (c), .int .i64 (s).serial] 24 := by rw [hW0]; exact ((Blk.new w _ _).alloc _).alloc _
  have hy0 : Blk W0 (w.heap.size + 1) #[.int .i64 2, .string ten, .int .i64 num, .int .i64 epoch, .string txt] 26 := by rw [hW0]; exact (blk_new (by simp)).alloc _
  have hz0 : Blk W0 (w.heap.size + 1 + 1) #[.slice none 0 0, .int .i64 0] 24 := by rw [hW0]; exact blk_new (by simp)
  have HB0 := hid_mk hb0
  have HX0 := hid_mk hx0
  have HY0 := hid_mk hy0
  have HZ0 := hid_mk hz0
  have HR1 := hide (fun w (hG : ∀ b, G b → b < w.heap.size) (hT : TensAt G w A s.tens) => rright38_any s A c G w hG hlm hT)
  rw [hr] at HR1
  have HKG : Hid (∀ b, G b → b < W0.heap.size) := hid_mk (fun b h => Nat.lt_of_lt_of_le (hG b h) hb0.size)
  have HTG : Hid (TensAt G W0 A s.tens) := hid_mk (tensAt_keep hT (fun b h => h) (kept_below hb0 hG))
  have HF1 := hide (fun w => rform_any ⟨2, ten, num, epoch, txt⟩ w hen)
  rw [hf] at HF1
  have hW := hid_mk hW0
  clear hG hT hb0 hx0 hy0 hz0 hW0 hr hf
  have HFD := hide (fun w (hG : ∀ b, G b → b < w.heap.size) (hT : TensAt G w A s.tens) => rfind_any s A c ten G w hG hlm hT)
  rw [hat] at HFD
  clear hat
  go_enter Try.func12, Try.ntmps12
  go_wp2_with fail
  rw [← hW.out]
  refine (unhide HR1 _ HKG.out HTG.out).mono ?_
  rintro e' W1 ⟨rfl, hb1⟩
  have HX1 := hid_mk (HX0.out.call hb1)
  have HY1 := hid_mk (HY0.out.call hb1)
  have HZ1 := hid_mk (HZ0.out.call hb1)
  have HB1 := hid_mk (HB0.out.trans (hb1.mono HB0.out.size))
  have HKG1 : Hid (∀ b, G b → b < W1.heap.size) := hid_mk (fun b h => Nat.lt_of_lt_of_le (HG.out b h) HB1.out.size)
  have HTG1 := hid_mk (tensAt_keep HT.out (fun b h => h) (kept_below HB1.out HG.out))
  have hx1 := HX1.out
  have hy1 := HY1.out
  have hz1 := HZ1.out
  (have x10 : W1.cell? ⟨w.heap.size, 0, none⟩ = some (.slice (A) (s).tens.length (c)) := hx1.cell 0; have x11 : W1.cell? ⟨w.heap.size, 1, none⟩ = some (.int .i64 (s).serial) := hx1.cell 1; have x1f : ∀ i, W1.frozen? ⟨w.heap.size, i, none⟩ = false := hx1.frozen)
  (have y10 : W1.cell? ⟨w.heap.size + 1, 0, none⟩ = some (.int .i64 2) := hy1.cell 0; have y11 : W1.cell? ⟨w.heap.size + 1, 1, none⟩ = some (.string ten) := hy1.cell 1; have y12 : W1.cell? ⟨w.heap.size + 1, 2, none⟩ = some (.int .i64 num) := hy1.cell 2; have y13 : W1.cell? ⟨w.heap.size + 1, 3, none⟩ = some (.int .i64 epoch) := hy1.cell 3; have y14 : W1.cell? ⟨w.heap.size + 1, 4, none⟩ = some (.string txt) := hy1.cell 4; have y1f : ∀ i, W1.frozen? ⟨w.heap.size + 1, i, none⟩ = false := hy1.frozen)
  (have z10 : W1.cell? ⟨w.heap.size + 1 + 1, 0, none⟩ = some (.slice none 0 0) := hz1.cell 0; have z11 : W1.cell? ⟨w.heap.size + 1 + 1, 1, none⟩ = some (.int .i64 0) := hz1.cell 1; have z1f : ∀ i, W1.frozen? ⟨w.heap.size + 1 + 1, i, none⟩ = false := hz1.frozen)
  have hzs1 : w.heap.size + 1 + 1 < W1.heap.size := HZ1.out.lt
  have hys1 : w.heap.size + 1 < W1.heap.size := HY1.out.lt
  have hxs1 : w.heap.size < W1.heap.size := HX1.out.lt
  clear hb1 hx1 hy1 hz1
  go_wp2_with fail
  refine (unhide HF1 _).mono ?_
  rintro e' W2 ⟨rfl, hb2⟩
  have HX2 := hid_mk (HX1.out.call hb2)
  have HY2 := hid_mk (HY1.out.call hb2)
  have HZ2 := hid_mk (HZ1.out.call hb2)
  have HB2 := hid_mk (HB1.out.trans (hb2.mono HB1.out.size))
  have HKG2 : Hid (∀ b, G b → b < W2.heap.size) := hid_mk (fun b h => Nat.lt_of_lt_of_le (HG.out b h) HB2.out.size)
  have HTG2 := hid_mk (tensAt_keep HT.out (fun b h => h) (kept_below HB2.out HG.out))
  have hx2 := HX2.out
  have hy2 := HY2.out
  have hz2 := HZ2.out
  (have x20 : W2.cell? ⟨w.heap.size, 0, none⟩ = some (.slice (A) (s).tens.length (c)) := hx2.cell 0; have x21 : W2.cell? ⟨w.heap.size, 1, none⟩ = some (.int .i64 (s).serial) := hx2.cell 1; have x2f : ∀ i, W2.frozen? ⟨w.heap.size, i, none⟩ = false := hx2.frozen)
  (have y20 : W2.cell? ⟨w.heap.size + 1, 0, none⟩ = some (.int .i64 2) := hy2.cell 0; have y21 : W2.cell? ⟨w.heap.size + 1, 1, none⟩ = some (.string ten) := hy2.cell 1; have y22 : W2.cell? ⟨w.heap.size + 1, 2, none⟩ = some (.int .i64 num) := hy2.cell 2; have y23 : W2.cell? ⟨w.heap.size + 1, 3, none⟩ = some (.int .i64 epoch) := hy2.cell 3; have y24 : W2.cell? ⟨w.heap.size + 1, 4, none⟩ = some (.string txt) := hy2.cell 4; have y2f : ∀ i, W2.frozen? ⟨w.heap.size + 1, i, none⟩ = false := hy2.frozen)
  (have z20 : W2.cell? ⟨w.heap.size + 1 + 1, 0, none⟩ = some (.slice none 0 0) := hz2.cell 0; have z21 : W2.cell? ⟨w.heap.size + 1 + 1, 1, none⟩ = some (.int .i64 0) := hz2.cell 1; have z2f : ∀ i, W2.frozen? ⟨w.heap.size + 1 + 1, i, none⟩ = false := hz2.frozen)
  have hzs2 : w.heap.size + 1 + 1 < W2.heap.size := HZ2.out.lt
  have hys2 : w.heap.size + 1 < W2.heap.size := HY2.out.lt
  have hxs2 : w.heap.size < W2.heap.size := HX2.out.lt
  clear hb2 hx2 hy2 hz2
  go_wp2_with fail
  refine (unhide HFD _ HKG2.out HTG2.out).mono ?_
  rintro e' W3 ⟨rfl, hb3⟩
  have HX3 := hid_mk (HX2.out.call hb3)
  have HY3 := hid_mk (HY2.out.call hb3)
  have HZ3 := hid_mk (HZ2.out.call hb3)
  have HB3 := hid_mk (HB2.out.trans (hb3.mono HB2.out.size))
  have HKG3 : Hid (∀ b, G b → b < W3.heap.size) := hid_mk (fun b h => Nat.lt_of_lt_of_le (HG.out b h) HB3.out.size)
  have HTG3 := hid_mk (tensAt_keep HT.out (fun b h => h) (kept_below HB3.out HG.out))
  have hx3 := HX3.out
  have hy3 := HY3.out
  have hz3 := HZ3.out
  (have x30 : W3.cell? ⟨w.heap.size, 0, none⟩ = some (.slice (A) (s).tens.length (c)) := hx3.cell 0; have x31 : W3.cell? ⟨w.heap.size, 1, none⟩ = some (.int .i64 (s).serial) := hx3.cell 1; have x3f : ∀ i, W3.frozen? ⟨w.heap.size, i, none⟩ = false := hx3.frozen)
  (have y30 : W3.cell? ⟨w.heap.size + 1, 0, none⟩ = some (.int .i64 2) := hy3.cell 0; have y31 : W3.cell? ⟨w.heap.size + 1, 1, none⟩ = some (.string ten) := hy3.cell 1; have y32 : W3.cell? ⟨w.heap.size + 1, 2, none⟩ = some (.int .i64 num) := hy3.cell 2; have y33 : W3.cell? ⟨w.heap.size + 1, 3, none⟩ = some (.int .i64 epoch) := hy3.cell 3; have y34 : W3.cell? ⟨w.heap.size + 1, 4, none⟩ = some (.string txt) := hy3.cell 4; have y3f : ∀ i, W3.frozen? ⟨w.heap.size + 1, i, none⟩ = false := hy3.frozen)
  (have z30 : W3.cell? ⟨w.heap.size + 1 + 1, 0, none⟩ = some (.slice none 0 0) := hz3.cell 0; have z31 : W3.cell? ⟨w.heap.size + 1 + 1, 1, none⟩ = some (.int .i64 0) := hz3.cell 1; have z3f : ∀ i, W3.frozen? ⟨w.heap.size + 1 + 1, i, none⟩ = false := hz3.frozen)
  have hzs3 : w.heap.size + 1 + 1 < W3.heap.size := HZ3.out.lt
  have hys3 : w.heap.size + 1 < W3.heap.size := HY3.out.lt
  have hxs3 : w.heap.size < W3.heap.size := HX3.out.lt
  clear hb3 hx3 hy3 hz3
  have HZ4 := hid_mk (HZ3.out.alloc (.cells #[.string ten, .int .i64 0, .int .i64 0, .slice none 0 0] 38))
  have HB4 := hid_mk (HB3.out.alloc (by omega) (.cells #[.string ten, .int .i64 0, .int .i64 0, .slice none 0 0] 38))
  go_wp2_with (refine store_row 24 rfl _ _ rfl (w.heap.size + 1 + 1) _ _ 24 HZ4.out rfl rfl (by kernel_rfl) rfl rfl ?_)
  refine ret_row_tmp rfl (w.heap.size + 1 + 1) #[.slice none 0 0, .int .i64 0] 24 (.int .i64 6) (HZ4.out.row) rfl rfl _ Try.underlying24 rfl ?_ rfl ?_
  · kernel_rfl
  · exact retSE_bad 6 (below_row HB4.out (by omega) _)
theorem rap_none3 (s : Rn.S) (ten txt : ByteArray) (num epoch : Int) (hen : ten.size ≤ maxLen) (htx : txt.size ≤ maxLen) (A : Option Addr) (c : Nat) (G : Nat → Prop) (w : World) (hG : ∀ b, G b → b < w.heap.size) (hl : s.tens.length ≤ 1000) (hT : TensAt G w A s.tens) (hr : Rn.right s = true) (hf : Rn.form ⟨3, ten, num, epoch, txt⟩ = true) (hat : findI s.tens ten = -1)  :
    Calls Try.prog 12 #[.agg #[.slice (A) (s).tens.length (c), .int .i64 (s).serial], .agg #[.int .i64 3, .string ten, .int .i64 num, .int .i64 epoch, .string txt]] w (RetSE G (.bad 6) w) := by
  have HG := hid_mk hG
  have HT := hid_mk hT
  have hlm : s.tens.length ≤ maxLen := by unfold maxLen; omega
  obtain ⟨W0, hW0⟩ : ∃ W0, W0 = (((w.alloc (.cells #[.slice (A) (s).tens.length (c), .int .i64 (s).serial] 24)).alloc (.cells #[.int .i64 3, .string ten, .int .i64 num, .int .i64 epoch, .string txt] 26)).alloc (.cells #[.slice none 0 0, .int .i64 0] 24)) := ⟨_, rfl⟩
  have hb0 : Below w.heap.size w W0 := by rw [hW0]; exact (((Below.refl _ _).alloc (Nat.le_refl _) _).alloc (by simp) _).alloc (by simp; omega) _
  have hx0 : Blk W0 w.heap.size #[.slice (A) (s).tens.length (c), .int .i64 (s).serial] 24 := by rw [hW0]; exact ((Blk.new w _ _).alloc _).alloc _
  have hy0 : Blk W0 (w.heap.size + 1) #[.int .i64 3, .string ten, .int .i64 num, .int .i64 epoch, .string txt] 26 := by rw [hW0]; exact (blk_new (by simp)).alloc _
  have hz0 : Blk W0 (w.heap.size + 1 + 1) #[.slice none 0 0, .int .i64 0] 24 := by rw [hW0]; exact blk_new (by simp)
  have HB0 := hid_mk hb0
  have HX0 := hid_mk hx0
  have HY0 := hid_mk hy0
  have HZ0 := hid_mk hz0
  have HR1 := hide (fun w (hG : ∀ b, G b → b < w.heap.size) (hT : TensAt G w A s.tens) => rright38_any s A c G w hG hlm hT)
  rw [hr] at HR1
  have HKG : Hid (∀ b, G b → b < W0.heap.size) := hid_mk (fun b h => Nat.lt_of_lt_of_le (hG b h) hb0.size)
  have HTG : Hid (TensAt G W0 A s.tens) := hid_mk (tensAt_keep hT (fun b h => h) (kept_below hb0 hG))
  have HF1 := hide (fun w => rform_any ⟨3, ten, num, epoch, txt⟩ w hen)
  rw [hf] at HF1
  have hW := hid_mk hW0
  clear hG hT hb0 hx0 hy0 hz0 hW0 hr hf
  have HFD := hide (fun w (hG : ∀ b, G b → b < w.heap.size) (hT : TensAt G w A s.tens) => rfind_any s A c ten G w hG hlm hT)
  rw [hat] at HFD
  clear hat
  go_enter Try.func12, Try.ntmps12
  go_wp2_with fail
  rw [← hW.out]
  refine (unhide HR1 _ HKG.out HTG.out).mono ?_
  rintro e' W1 ⟨rfl, hb1⟩
  have HX1 := hid_mk (HX0.out.call hb1)
  have HY1 := hid_mk (HY0.out.call hb1)
  have HZ1 := hid_mk (HZ0.out.call hb1)
  have HB1 := hid_mk (HB0.out.trans (hb1.mono HB0.out.size))
  have HKG1 : Hid (∀ b, G b → b < W1.heap.size) := hid_mk (fun b h => Nat.lt_of_lt_of_le (HG.out b h) HB1.out.size)
  have HTG1 := hid_mk (tensAt_keep HT.out (fun b h => h) (kept_below HB1.out HG.out))
  have hx1 := HX1.out
  have hy1 := HY1.out
  have hz1 := HZ1.out
  (have x10 : W1.cell? ⟨w.heap.size, 0, none⟩ = some (.slice (A) (s).tens.length (c)) := hx1.cell 0; have x11 : W1.cell? ⟨w.heap.size, 1, none⟩ = some (.int .i64 (s).serial) := hx1.cell 1; have x1f : ∀ i, W1.frozen? ⟨w.heap.size, i, none⟩ = false := hx1.frozen)
  (have y10 : W1.cell? ⟨w.heap.size + 1, 0, none⟩ = some (.int .i64 3) := hy1.cell 0; have y11 : W1.cell? ⟨w.heap.size + 1, 1, none⟩ = some (.string ten) := hy1.cell 1; have y12 : W1.cell? ⟨w.heap.size + 1, 2, none⟩ = some (.int .i64 num) := hy1.cell 2; have y13 : W1.cell? ⟨w.heap.size + 1, 3, none⟩ = some (.int .i64 epoch) := hy1.cell 3; have y14 : W1.cell? ⟨w.heap.size + 1, 4, none⟩ = some (.string txt) := hy1.cell 4; have y1f : ∀ i, W1.frozen? ⟨w.heap.size + 1, i, none⟩ = false := hy1.frozen)
  (have z10 : W1.cell? ⟨w.heap.size + 1 + 1, 0, none⟩ = some (.slice none 0 0) := hz1.cell 0; have z11 : W1.cell? ⟨w.heap.size + 1 + 1, 1, none⟩ = some (.int .i64 0) := hz1.cell 1; have z1f : ∀ i, W1.frozen? ⟨w.heap.size + 1 + 1, i, none⟩ = false := hz1.frozen)
  have hzs1 : w.heap.size + 1 + 1 < W1.heap.size := HZ1.out.lt
  have hys1 : w.heap.size + 1 < W1.heap.size := HY1.out.lt
  have hxs1 : w.heap.size < W1.heap.size := HX1.out.lt
  clear hb1 hx1 hy1 hz1
  go_wp2_with fail
  refine (unhide HF1 _).mono ?_
  rintro e' W2 ⟨rfl, hb2⟩
  have HX2 := hid_mk (HX1.out.call hb2)
  have HY2 := hid_mk (HY1.out.call hb2)
  have HZ2 := hid_mk (HZ1.out.call hb2)
  have HB2 := hid_mk (HB1.out.trans (hb2.mono HB1.out.size))
  have HKG2 : Hid (∀ b, G b → b < W2.heap.size) := hid_mk (fun b h => Nat.lt_of_lt_of_le (HG.out b h) HB2.out.size)
  have HTG2 := hid_mk (tensAt_keep HT.out (fun b h => h) (kept_below HB2.out HG.out))
  have hx2 := HX2.out
  have hy2 := HY2.out
  have hz2 := HZ2.out
  (have x20 : W2.cell? ⟨w.heap.size, 0, none⟩ = some (.slice (A) (s).tens.length (c)) := hx2.cell 0; have x21 : W2.cell? ⟨w.heap.size, 1, none⟩ = some (.int .i64 (s).serial) := hx2.cell 1; have x2f : ∀ i, W2.frozen? ⟨w.heap.size, i, none⟩ = false := hx2.frozen)
  (have y20 : W2.cell? ⟨w.heap.size + 1, 0, none⟩ = some (.int .i64 3) := hy2.cell 0; have y21 : W2.cell? ⟨w.heap.size + 1, 1, none⟩ = some (.string ten) := hy2.cell 1; have y22 : W2.cell? ⟨w.heap.size + 1, 2, none⟩ = some (.int .i64 num) := hy2.cell 2; have y23 : W2.cell? ⟨w.heap.size + 1, 3, none⟩ = some (.int .i64 epoch) := hy2.cell 3; have y24 : W2.cell? ⟨w.heap.size + 1, 4, none⟩ = some (.string txt) := hy2.cell 4; have y2f : ∀ i, W2.frozen? ⟨w.heap.size + 1, i, none⟩ = false := hy2.frozen)
  (have z20 : W2.cell? ⟨w.heap.size + 1 + 1, 0, none⟩ = some (.slice none 0 0) := hz2.cell 0; have z21 : W2.cell? ⟨w.heap.size + 1 + 1, 1, none⟩ = some (.int .i64 0) := hz2.cell 1; have z2f : ∀ i, W2.frozen? ⟨w.heap.size + 1 + 1, i, none⟩ = false := hz2.frozen)
  have hzs2 : w.heap.size + 1 + 1 < W2.heap.size := HZ2.out.lt
  have hys2 : w.heap.size + 1 < W2.heap.size := HY2.out.lt
  have hxs2 : w.heap.size < W2.heap.size := HX2.out.lt
  clear hb2 hx2 hy2 hz2
  go_wp2_with fail
  refine (unhide HFD _ HKG2.out HTG2.out).mono ?_
  rintro e' W3 ⟨rfl, hb3⟩
  have HX3 := hid_mk (HX2.out.call hb3)
  have HY3 := hid_mk (HY2.out.call hb3)
  have HZ3 := hid_mk (HZ2.out.call hb3)
  have HB3 := hid_mk (HB2.out.trans (hb3.mono HB2.out.size))
  have HKG3 : Hid (∀ b, G b → b < W3.heap.size) := hid_mk (fun b h => Nat.lt_of_lt_of_le (HG.out b h) HB3.out.size)
  have HTG3 := hid_mk (tensAt_keep HT.out (fun b h => h) (kept_below HB3.out HG.out))
  have hx3 := HX3.out
  have hy3 := HY3.out
  have hz3 := HZ3.out
  (have x30 : W3.cell? ⟨w.heap.size, 0, none⟩ = some (.slice (A) (s).tens.length (c)) := hx3.cell 0; have x31 : W3.cell? ⟨w.heap.size, 1, none⟩ = some (.int .i64 (s).serial) := hx3.cell 1; have x3f : ∀ i, W3.frozen? ⟨w.heap.size, i, none⟩ = false := hx3.frozen)
  (have y30 : W3.cell? ⟨w.heap.size + 1, 0, none⟩ = some (.int .i64 3) := hy3.cell 0; have y31 : W3.cell? ⟨w.heap.size + 1, 1, none⟩ = some (.string ten) := hy3.cell 1; have y32 : W3.cell? ⟨w.heap.size + 1, 2, none⟩ = some (.int .i64 num) := hy3.cell 2; have y33 : W3.cell? ⟨w.heap.size + 1, 3, none⟩ = some (.int .i64 epoch) := hy3.cell 3; have y34 : W3.cell? ⟨w.heap.size + 1, 4, none⟩ = some (.string txt) := hy3.cell 4; have y3f : ∀ i, W3.frozen? ⟨w.heap.size + 1, i, none⟩ = false := hy3.frozen)
  (have z30 : W3.cell? ⟨w.heap.size + 1 + 1, 0, none⟩ = some (.slice none 0 0) := hz3.cell 0; have z31 : W3.cell? ⟨w.heap.size + 1 + 1, 1, none⟩ = some (.int .i64 0) := hz3.cell 1; have z3f : ∀ i, W3.frozen? ⟨w.heap.size + 1 + 1, i, none⟩ = false := hz3.frozen)
  have hzs3 : w.heap.size + 1 + 1 < W3.heap.size := HZ3.out.lt
  have hys3 : w.heap.size + 1 < W3.heap.size := HY3.out.lt
  have hxs3 : w.heap.size < W3.heap.size := HX3.out.lt
  clear hb3 hx3 hy3 hz3
  have HZ4 := hid_mk (HZ3.out.alloc (.cells #[.string ten, .int .i64 0, .int .i64 0, .slice none 0 0] 38))
  have HB4 := hid_mk (HB3.out.alloc (by omega) (.cells #[.string ten, .int .i64 0, .int .i64 0, .slice none 0 0] 38))
  go_wp2_with (refine store_row 24 rfl _ _ rfl (w.heap.size + 1 + 1) _ _ 24 HZ4.out rfl rfl (by kernel_rfl) rfl rfl ?_)
  refine ret_row_tmp rfl (w.heap.size + 1 + 1) #[.slice none 0 0, .int .i64 0] 24 (.int .i64 6) (HZ4.out.row) rfl rfl _ Try.underlying24 rfl ?_ rfl ?_
  · kernel_rfl
  · exact retSE_bad 6 (below_row HB4.out (by omega) _)
theorem rap_one_new (s : Rn.S) (ten txt : ByteArray) (num epoch : Int) (hen : ten.size ≤ maxLen) (htx : txt.size ≤ maxLen) (A : Option Addr) (c : Nat) (G : Nat → Prop) (w : World) (hG : ∀ b, G b → b < w.heap.size) (hl : s.tens.length ≤ 1000) (hT : TensAt G w A s.tens) (hr : Rn.right s = true) (hf : Rn.form ⟨1, ten, num, epoch, txt⟩ = true) (hat : findI s.tens ten = -1) (h16 : ¬ s.tens.length = 16) (he : ¬ epoch < 0) (hn : ¬ num < 0) :
    Calls Try.prog 12 #[.agg #[.slice (A) (s).tens.length (c), .int .i64 (s).serial], .agg #[.int .i64 1, .string ten, .int .i64 num, .int .i64 epoch, .string txt]] w (RetSE G (.ok ⟨Rn.putT s.tens ⟨ten, epoch, num, []⟩, s.serial⟩) w) := by
  have HG := hid_mk hG
  have HT := hid_mk hT
  have hlm : s.tens.length ≤ maxLen := by unfold maxLen; omega
  obtain ⟨W0, hW0⟩ : ∃ W0, W0 = (((w.alloc (.cells #[.slice (A) (s).tens.length (c), .int .i64 (s).serial] 24)).alloc (.cells #[.int .i64 1, .string ten, .int .i64 num, .int .i64 epoch, .string txt] 26)).alloc (.cells #[.slice none 0 0, .int .i64 0] 24)) := ⟨_, rfl⟩
  have hb0 : Below w.heap.size w W0 := by rw [hW0]; exact (((Below.refl _ _).alloc (Nat.le_refl _) _).alloc (by simp) _).alloc (by simp; omega) _
  have hx0 : Blk W0 w.heap.size #[.slice (A) (s).tens.length (c), .int .i64 (s).serial] 24 := by rw [hW0]; exact ((Blk.new w _ _).alloc _).alloc _
  have hy0 : Blk W0 (w.heap.size + 1) #[.int .i64 1, .string ten, .int .i64 num, .int .i64 epoch, .string txt] 26 := by rw [hW0]; exact (blk_new (by simp)).alloc _
  have hz0 : Blk W0 (w.heap.size + 1 + 1) #[.slice none 0 0, .int .i64 0] 24 := by rw [hW0]; exact blk_new (by simp)
  have HB0 := hid_mk hb0
  have HX0 := hid_mk hx0
  have HY0 := hid_mk hy0
  have HZ0 := hid_mk hz0
  have HR1 := hide (fun w (hG : ∀ b, G b → b < w.heap.size) (hT : TensAt G w A s.tens) => rright38_any s A c G w hG hlm hT)
  rw [hr] at HR1
  have HKG : Hid (∀ b, G b → b < W0.heap.size) := hid_mk (fun b h => Nat.lt_of_lt_of_le (hG b h) hb0.size)
  have HTG : Hid (TensAt G W0 A s.tens) := hid_mk (tensAt_keep hT (fun b h => h) (kept_below hb0 hG))
  have HF1 := hide (fun w => rform_any ⟨1, ten, num, epoch, txt⟩ w hen)
  rw [hf] at HF1
  have hW := hid_mk hW0
  clear hG hT hb0 hx0 hy0 hz0 hW0 hr hf
  have HFD := hide (fun w (hG : ∀ b, G b → b < w.heap.size) (hT : TensAt G w A s.tens) => rfind_any s A c ten G w hG hlm hT)
  rw [hat] at HFD
  clear hat
  have hf16 : ((s.tens.length : Int) == 16) = false := by rw [beq_eq_false_iff_ne]; omega
  clear h16
  go_enter Try.func12, Try.ntmps12
  go_wp2_with fail
  rw [← hW.out]
  refine (unhide HR1 _ HKG.out HTG.out).mono ?_
  rintro e' W1 ⟨rfl, hb1⟩
  have HX1 := hid_mk (HX0.out.call hb1)
  have HY1 := hid_mk (HY0.out.call hb1)
  have HZ1 := hid_mk (HZ0.out.call hb1)
  have HB1 := hid_mk (HB0.out.trans (hb1.mono HB0.out.size))
  have HKG1 : Hid (∀ b, G b → b < W1.heap.size) := hid_mk (fun b h => Nat.lt_of_lt_of_le (HG.out b h) HB1.out.size)
  have HTG1 := hid_mk (tensAt_keep HT.out (fun b h => h) (kept_below HB1.out HG.out))
  have hx1 := HX1.out
  have hy1 := HY1.out
  have hz1 := HZ1.out
  (have x10 : W1.cell? ⟨w.heap.size, 0, none⟩ = some (.slice (A) (s).tens.length (c)) := hx1.cell 0; have x11 : W1.cell? ⟨w.heap.size, 1, none⟩ = some (.int .i64 (s).serial) := hx1.cell 1; have x1f : ∀ i, W1.frozen? ⟨w.heap.size, i, none⟩ = false := hx1.frozen)
  (have y10 : W1.cell? ⟨w.heap.size + 1, 0, none⟩ = some (.int .i64 1) := hy1.cell 0; have y11 : W1.cell? ⟨w.heap.size + 1, 1, none⟩ = some (.string ten) := hy1.cell 1; have y12 : W1.cell? ⟨w.heap.size + 1, 2, none⟩ = some (.int .i64 num) := hy1.cell 2; have y13 : W1.cell? ⟨w.heap.size + 1, 3, none⟩ = some (.int .i64 epoch) := hy1.cell 3; have y14 : W1.cell? ⟨w.heap.size + 1, 4, none⟩ = some (.string txt) := hy1.cell 4; have y1f : ∀ i, W1.frozen? ⟨w.heap.size + 1, i, none⟩ = false := hy1.frozen)
  (have z10 : W1.cell? ⟨w.heap.size + 1 + 1, 0, none⟩ = some (.slice none 0 0) := hz1.cell 0; have z11 : W1.cell? ⟨w.heap.size + 1 + 1, 1, none⟩ = some (.int .i64 0) := hz1.cell 1; have z1f : ∀ i, W1.frozen? ⟨w.heap.size + 1 + 1, i, none⟩ = false := hz1.frozen)
  have hzs1 : w.heap.size + 1 + 1 < W1.heap.size := HZ1.out.lt
  have hys1 : w.heap.size + 1 < W1.heap.size := HY1.out.lt
  have hxs1 : w.heap.size < W1.heap.size := HX1.out.lt
  clear hb1 hx1 hy1 hz1
  go_wp2_with fail
  refine (unhide HF1 _).mono ?_
  rintro e' W2 ⟨rfl, hb2⟩
  have HX2 := hid_mk (HX1.out.call hb2)
  have HY2 := hid_mk (HY1.out.call hb2)
  have HZ2 := hid_mk (HZ1.out.call hb2)
  have HB2 := hid_mk (HB1.out.trans (hb2.mono HB1.out.size))
  have HKG2 : Hid (∀ b, G b → b < W2.heap.size) := hid_mk (fun b h => Nat.lt_of_lt_of_le (HG.out b h) HB2.out.size)
  have HTG2 := hid_mk (tensAt_keep HT.out (fun b h => h) (kept_below HB2.out HG.out))
  have hx2 := HX2.out
  have hy2 := HY2.out
  have hz2 := HZ2.out
  (have x20 : W2.cell? ⟨w.heap.size, 0, none⟩ = some (.slice (A) (s).tens.length (c)) := hx2.cell 0; have x21 : W2.cell? ⟨w.heap.size, 1, none⟩ = some (.int .i64 (s).serial) := hx2.cell 1; have x2f : ∀ i, W2.frozen? ⟨w.heap.size, i, none⟩ = false := hx2.frozen)
  (have y20 : W2.cell? ⟨w.heap.size + 1, 0, none⟩ = some (.int .i64 1) := hy2.cell 0; have y21 : W2.cell? ⟨w.heap.size + 1, 1, none⟩ = some (.string ten) := hy2.cell 1; have y22 : W2.cell? ⟨w.heap.size + 1, 2, none⟩ = some (.int .i64 num) := hy2.cell 2; have y23 : W2.cell? ⟨w.heap.size + 1, 3, none⟩ = some (.int .i64 epoch) := hy2.cell 3; have y24 : W2.cell? ⟨w.heap.size + 1, 4, none⟩ = some (.string txt) := hy2.cell 4; have y2f : ∀ i, W2.frozen? ⟨w.heap.size + 1, i, none⟩ = false := hy2.frozen)
  (have z20 : W2.cell? ⟨w.heap.size + 1 + 1, 0, none⟩ = some (.slice none 0 0) := hz2.cell 0; have z21 : W2.cell? ⟨w.heap.size + 1 + 1, 1, none⟩ = some (.int .i64 0) := hz2.cell 1; have z2f : ∀ i, W2.frozen? ⟨w.heap.size + 1 + 1, i, none⟩ = false := hz2.frozen)
  have hzs2 : w.heap.size + 1 + 1 < W2.heap.size := HZ2.out.lt
  have hys2 : w.heap.size + 1 < W2.heap.size := HY2.out.lt
  have hxs2 : w.heap.size < W2.heap.size := HX2.out.lt
  clear hb2 hx2 hy2 hz2
  go_wp2_with fail
  refine (unhide HFD _ HKG2.out HTG2.out).mono ?_
  rintro e' W3 ⟨rfl, hb3⟩
  have HX3 := hid_mk (HX2.out.call hb3)
  have HY3 := hid_mk (HY2.out.call hb3)
  have HZ3 := hid_mk (HZ2.out.call hb3)
  have HB3 := hid_mk (HB2.out.trans (hb3.mono HB2.out.size))
  have HKG3 : Hid (∀ b, G b → b < W3.heap.size) := hid_mk (fun b h => Nat.lt_of_lt_of_le (HG.out b h) HB3.out.size)
  have HTG3 := hid_mk (tensAt_keep HT.out (fun b h => h) (kept_below HB3.out HG.out))
  have hx3 := HX3.out
  have hy3 := HY3.out
  have hz3 := HZ3.out
  (have x30 : W3.cell? ⟨w.heap.size, 0, none⟩ = some (.slice (A) (s).tens.length (c)) := hx3.cell 0; have x31 : W3.cell? ⟨w.heap.size, 1, none⟩ = some (.int .i64 (s).serial) := hx3.cell 1; have x3f : ∀ i, W3.frozen? ⟨w.heap.size, i, none⟩ = false := hx3.frozen)
  (have y30 : W3.cell? ⟨w.heap.size + 1, 0, none⟩ = some (.int .i64 1) := hy3.cell 0; have y31 : W3.cell? ⟨w.heap.size + 1, 1, none⟩ = some (.string ten) := hy3.cell 1; have y32 : W3.cell? ⟨w.heap.size + 1, 2, none⟩ = some (.int .i64 num) := hy3.cell 2; have y33 : W3.cell? ⟨w.heap.size + 1, 3, none⟩ = some (.int .i64 epoch) := hy3.cell 3; have y34 : W3.cell? ⟨w.heap.size + 1, 4, none⟩ = some (.string txt) := hy3.cell 4; have y3f : ∀ i, W3.frozen? ⟨w.heap.size + 1, i, none⟩ = false := hy3.frozen)
  (have z30 : W3.cell? ⟨w.heap.size + 1 + 1, 0, none⟩ = some (.slice none 0 0) := hz3.cell 0; have z31 : W3.cell? ⟨w.heap.size + 1 + 1, 1, none⟩ = some (.int .i64 0) := hz3.cell 1; have z3f : ∀ i, W3.frozen? ⟨w.heap.size + 1 + 1, i, none⟩ = false := hz3.frozen)
  have hzs3 : w.heap.size + 1 + 1 < W3.heap.size := HZ3.out.lt
  have hys3 : w.heap.size + 1 < W3.heap.size := HY3.out.lt
  have hxs3 : w.heap.size < W3.heap.size := HX3.out.lt
  clear hb3 hx3 hy3 hz3
  obtain ⟨W4, hW4⟩ : ∃ W4, W4 = W3.alloc (.cells #[.string ten, .int .i64 epoch, .int .i64 num, .slice none 0 0] 38) := ⟨_, rfl⟩
  have hb4 : Below W3.heap.size W3 W4 := by rw [hW4]; exact (Below.refl _ _).alloc (Nat.le_refl _) _
  have HX4 := hid_mk (HX3.out.call hb4)
  have HY4 := hid_mk (HY3.out.call hb4)
  have HZ4 := hid_mk (HZ3.out.call hb4)
  have HT4 : Hid (Blk W4 W3.heap.size #[.string ten, .int .i64 epoch, .int .i64 num, .slice none 0 0] 38) := hid_mk (by rw [hW4]; exact Blk.new W3 _ _)
  have HB4 := hid_mk (HB3.out.trans (hb4.mono HB3.out.size))
  have HKG4 : Hid (∀ b, G b → b < W4.heap.size) := hid_mk (fun b h => Nat.lt_of_lt_of_le (HG.out b h) HB4.out.size)
  have HTG4 := hid_mk (tensAt_keep HT.out (fun b h => h) (kept_below HB4.out HG.out))
  have hzs4 : W4.heap.size = W3.heap.size + 1 := by rw [hW4]; simp
  have HS4 := hid_mk hzs4
  have HBL4 := hid_mk hb4
  have HW4 := hid_mk hW4
  clear hb4 hzs4 hW4
  go_wp2_with fail
  rw [← HW4.out]
  refine (put_any s ⟨ten, epoch, num, []⟩ _ none c 0 G _ HKG4.out hl HTG4.out ⟨none, 0, rfl, Fits.none_, Nat.zero_le _, hen, rows_nil⟩).mono ?_
  rintro e' W9 ⟨A9, c9, rfl, hf9, hb9, hT9⟩
  have HZ9 := hid_mk (HZ4.out.call hb9)
  have HF9 := hid_mk hf9
  have HB9 := hid_mk hb9
  have HT9 := hid_mk hT9
  clear hf9 hb9 hT9
  go_wp2_with (refine store_row 24 rfl _ _ rfl (w.heap.size + 1 + 1) _ _ 24 HZ9.out rfl rfl (by kernel_rfl) rfl rfl ?_)
  refine ret_row_tmp rfl (w.heap.size + 1 + 1) #[.slice (A9) ((⟨Rn.putT s.tens ⟨ten, epoch, num, []⟩, s.serial⟩ : Rn.S)).tens.length (c9), .int .i64 ((⟨Rn.putT s.tens ⟨ten, epoch, num, []⟩, s.serial⟩ : Rn.S)).serial] 24 (.int .i64 0) (HZ9.out.row) rfl rfl _ Try.underlying24 rfl ?_ rfl ?_
  · kernel_rfl
  · exact retSE_ok HG.out HB4.out HZ4.out.lt (fun b h => Or.inl h) HF9.out HB9.out HT9.out
theorem rap_one_no (s : Rn.S) (ten txt : ByteArray) (num epoch : Int) (hen : ten.size ≤ maxLen) (htx : txt.size ≤ maxLen) (A : Option Addr) (c : Nat) (G : Nat → Prop) (w : World) (hG : ∀ b, G b → b < w.heap.size) (hl : s.tens.length ≤ 1000) (hT : TensAt G w A s.tens) (hr : Rn.right s = true) (hf : Rn.form ⟨1, ten, num, epoch, txt⟩ = true) (i : Nat) (hi : i < s.tens.length) (hat : findI s.tens ten = (i : Int)) (hn : epoch < s.tens[i].epoch) :
    Calls Try.prog 12 #[.agg #[.slice (A) (s).tens.length (c), .int .i64 (s).serial], .agg #[.int .i64 1, .string ten, .int .i64 num, .int .i64 epoch, .string txt]] w (RetSE G (.bad 7) w) := by
  have HG := hid_mk hG
  have HT := hid_mk hT
  have hlm : s.tens.length ≤ maxLen := by unfold maxLen; omega
  obtain ⟨W0, hW0⟩ : ∃ W0, W0 = (((w.alloc (.cells #[.slice (A) (s).tens.length (c), .int .i64 (s).serial] 24)).alloc (.cells #[.int .i64 1, .string ten, .int .i64 num, .int .i64 epoch, .string txt] 26)).alloc (.cells #[.slice none 0 0, .int .i64 0] 24)) := ⟨_, rfl⟩
  have hb0 : Below w.heap.size w W0 := by rw [hW0]; exact (((Below.refl _ _).alloc (Nat.le_refl _) _).alloc (by simp) _).alloc (by simp; omega) _
  have hx0 : Blk W0 w.heap.size #[.slice (A) (s).tens.length (c), .int .i64 (s).serial] 24 := by rw [hW0]; exact ((Blk.new w _ _).alloc _).alloc _
  have hy0 : Blk W0 (w.heap.size + 1) #[.int .i64 1, .string ten, .int .i64 num, .int .i64 epoch, .string txt] 26 := by rw [hW0]; exact (blk_new (by simp)).alloc _
  have hz0 : Blk W0 (w.heap.size + 1 + 1) #[.slice none 0 0, .int .i64 0] 24 := by rw [hW0]; exact blk_new (by simp)
  have HB0 := hid_mk hb0
  have HX0 := hid_mk hx0
  have HY0 := hid_mk hy0
  have HZ0 := hid_mk hz0
  have HR1 := hide (fun w (hG : ∀ b, G b → b < w.heap.size) (hT : TensAt G w A s.tens) => rright38_any s A c G w hG hlm hT)
  rw [hr] at HR1
  have HKG : Hid (∀ b, G b → b < W0.heap.size) := hid_mk (fun b h => Nat.lt_of_lt_of_le (hG b h) hb0.size)
  have HTG : Hid (TensAt G W0 A s.tens) := hid_mk (tensAt_keep hT (fun b h => h) (kept_below hb0 hG))
  have HF1 := hide (fun w => rform_any ⟨1, ten, num, epoch, txt⟩ w hen)
  rw [hf] at HF1
  have hW := hid_mk hW0
  clear hG hT hb0 hx0 hy0 hz0 hW0 hr hf
  have HFD := hide (fun w (hG : ∀ b, G b → b < w.heap.size) (hT : TensAt G w A s.tens) => rfind_any s A c ten G w hG hlm hT)
  rw [hat] at HFD
  clear hat
  go_enter Try.func12, Try.ntmps12
  go_wp2_with fail
  rw [← hW.out]
  refine (unhide HR1 _ HKG.out HTG.out).mono ?_
  rintro e' W1 ⟨rfl, hb1⟩
  have HX1 := hid_mk (HX0.out.call hb1)
  have HY1 := hid_mk (HY0.out.call hb1)
  have HZ1 := hid_mk (HZ0.out.call hb1)
  have HB1 := hid_mk (HB0.out.trans (hb1.mono HB0.out.size))
  have HKG1 : Hid (∀ b, G b → b < W1.heap.size) := hid_mk (fun b h => Nat.lt_of_lt_of_le (HG.out b h) HB1.out.size)
  have HTG1 := hid_mk (tensAt_keep HT.out (fun b h => h) (kept_below HB1.out HG.out))
  have hx1 := HX1.out
  have hy1 := HY1.out
  have hz1 := HZ1.out
  (have x10 : W1.cell? ⟨w.heap.size, 0, none⟩ = some (.slice (A) (s).tens.length (c)) := hx1.cell 0; have x11 : W1.cell? ⟨w.heap.size, 1, none⟩ = some (.int .i64 (s).serial) := hx1.cell 1; have x1f : ∀ i, W1.frozen? ⟨w.heap.size, i, none⟩ = false := hx1.frozen)
  (have y10 : W1.cell? ⟨w.heap.size + 1, 0, none⟩ = some (.int .i64 1) := hy1.cell 0; have y11 : W1.cell? ⟨w.heap.size + 1, 1, none⟩ = some (.string ten) := hy1.cell 1; have y12 : W1.cell? ⟨w.heap.size + 1, 2, none⟩ = some (.int .i64 num) := hy1.cell 2; have y13 : W1.cell? ⟨w.heap.size + 1, 3, none⟩ = some (.int .i64 epoch) := hy1.cell 3; have y14 : W1.cell? ⟨w.heap.size + 1, 4, none⟩ = some (.string txt) := hy1.cell 4; have y1f : ∀ i, W1.frozen? ⟨w.heap.size + 1, i, none⟩ = false := hy1.frozen)
  (have z10 : W1.cell? ⟨w.heap.size + 1 + 1, 0, none⟩ = some (.slice none 0 0) := hz1.cell 0; have z11 : W1.cell? ⟨w.heap.size + 1 + 1, 1, none⟩ = some (.int .i64 0) := hz1.cell 1; have z1f : ∀ i, W1.frozen? ⟨w.heap.size + 1 + 1, i, none⟩ = false := hz1.frozen)
  have hzs1 : w.heap.size + 1 + 1 < W1.heap.size := HZ1.out.lt
  have hys1 : w.heap.size + 1 < W1.heap.size := HY1.out.lt
  have hxs1 : w.heap.size < W1.heap.size := HX1.out.lt
  clear hb1 hx1 hy1 hz1
  go_wp2_with fail
  refine (unhide HF1 _).mono ?_
  rintro e' W2 ⟨rfl, hb2⟩
  have HX2 := hid_mk (HX1.out.call hb2)
  have HY2 := hid_mk (HY1.out.call hb2)
  have HZ2 := hid_mk (HZ1.out.call hb2)
  have HB2 := hid_mk (HB1.out.trans (hb2.mono HB1.out.size))
  have HKG2 : Hid (∀ b, G b → b < W2.heap.size) := hid_mk (fun b h => Nat.lt_of_lt_of_le (HG.out b h) HB2.out.size)
  have HTG2 := hid_mk (tensAt_keep HT.out (fun b h => h) (kept_below HB2.out HG.out))
  have hx2 := HX2.out
  have hy2 := HY2.out
  have hz2 := HZ2.out
  (have x20 : W2.cell? ⟨w.heap.size, 0, none⟩ = some (.slice (A) (s).tens.length (c)) := hx2.cell 0; have x21 : W2.cell? ⟨w.heap.size, 1, none⟩ = some (.int .i64 (s).serial) := hx2.cell 1; have x2f : ∀ i, W2.frozen? ⟨w.heap.size, i, none⟩ = false := hx2.frozen)
  (have y20 : W2.cell? ⟨w.heap.size + 1, 0, none⟩ = some (.int .i64 1) := hy2.cell 0; have y21 : W2.cell? ⟨w.heap.size + 1, 1, none⟩ = some (.string ten) := hy2.cell 1; have y22 : W2.cell? ⟨w.heap.size + 1, 2, none⟩ = some (.int .i64 num) := hy2.cell 2; have y23 : W2.cell? ⟨w.heap.size + 1, 3, none⟩ = some (.int .i64 epoch) := hy2.cell 3; have y24 : W2.cell? ⟨w.heap.size + 1, 4, none⟩ = some (.string txt) := hy2.cell 4; have y2f : ∀ i, W2.frozen? ⟨w.heap.size + 1, i, none⟩ = false := hy2.frozen)
  (have z20 : W2.cell? ⟨w.heap.size + 1 + 1, 0, none⟩ = some (.slice none 0 0) := hz2.cell 0; have z21 : W2.cell? ⟨w.heap.size + 1 + 1, 1, none⟩ = some (.int .i64 0) := hz2.cell 1; have z2f : ∀ i, W2.frozen? ⟨w.heap.size + 1 + 1, i, none⟩ = false := hz2.frozen)
  have hzs2 : w.heap.size + 1 + 1 < W2.heap.size := HZ2.out.lt
  have hys2 : w.heap.size + 1 < W2.heap.size := HY2.out.lt
  have hxs2 : w.heap.size < W2.heap.size := HX2.out.lt
  clear hb2 hx2 hy2 hz2
  go_wp2_with fail
  refine (unhide HFD _ HKG2.out HTG2.out).mono ?_
  rintro e' W3 ⟨rfl, hb3⟩
  have HX3 := hid_mk (HX2.out.call hb3)
  have HY3 := hid_mk (HY2.out.call hb3)
  have HZ3 := hid_mk (HZ2.out.call hb3)
  have HB3 := hid_mk (HB2.out.trans (hb3.mono HB2.out.size))
  have HKG3 : Hid (∀ b, G b → b < W3.heap.size) := hid_mk (fun b h => Nat.lt_of_lt_of_le (HG.out b h) HB3.out.size)
  have HTG3 := hid_mk (tensAt_keep HT.out (fun b h => h) (kept_below HB3.out HG.out))
  have hx3 := HX3.out
  have hy3 := HY3.out
  have hz3 := HZ3.out
  (have x30 : W3.cell? ⟨w.heap.size, 0, none⟩ = some (.slice (A) (s).tens.length (c)) := hx3.cell 0; have x31 : W3.cell? ⟨w.heap.size, 1, none⟩ = some (.int .i64 (s).serial) := hx3.cell 1; have x3f : ∀ i, W3.frozen? ⟨w.heap.size, i, none⟩ = false := hx3.frozen)
  (have y30 : W3.cell? ⟨w.heap.size + 1, 0, none⟩ = some (.int .i64 1) := hy3.cell 0; have y31 : W3.cell? ⟨w.heap.size + 1, 1, none⟩ = some (.string ten) := hy3.cell 1; have y32 : W3.cell? ⟨w.heap.size + 1, 2, none⟩ = some (.int .i64 num) := hy3.cell 2; have y33 : W3.cell? ⟨w.heap.size + 1, 3, none⟩ = some (.int .i64 epoch) := hy3.cell 3; have y34 : W3.cell? ⟨w.heap.size + 1, 4, none⟩ = some (.string txt) := hy3.cell 4; have y3f : ∀ i, W3.frozen? ⟨w.heap.size + 1, i, none⟩ = false := hy3.frozen)
  (have z30 : W3.cell? ⟨w.heap.size + 1 + 1, 0, none⟩ = some (.slice none 0 0) := hz3.cell 0; have z31 : W3.cell? ⟨w.heap.size + 1 + 1, 1, none⟩ = some (.int .i64 0) := hz3.cell 1; have z3f : ∀ i, W3.frozen? ⟨w.heap.size + 1 + 1, i, none⟩ = false := hz3.frozen)
  have hzs3 : w.heap.size + 1 + 1 < W3.heap.size := HZ3.out.lt
  have hys3 : w.heap.size + 1 < W3.heap.size := HY3.out.lt
  have hxs3 : w.heap.size < W3.heap.size := HX3.out.lt
  clear hb3 hx3 hy3 hz3
  have hk3 := HTG3.out
  obtain ⟨b, o, A', c', e1, hg1, hft, hsl, hsn, hks, q0, q1, q2, q3⟩ := tens_at hk3 hi
  have hbw : b < w.heap.size := HG.out b hg1
  have hbw3 : b < W3.heap.size := HKG3.out b hg1
  have hii : (i : Int) < (s.tens.length : Int) := by omega
  have hi0 : ¬ ((i : Int) < 0) := by omega
  subst e1
  have HKS := hid_mk hks
  have HFT := hid_mk hft
  have HSL := hid_mk hsl
  have HSN := hid_mk hsn
  clear hk3 hks hft hsl hsn hlm
  generalize hti : s.tens[i] = t at *
  have HTI := hid_mk hti
  clear hti
  have HZ4 := hid_mk (HZ3.out.alloc (.cells #[.string (t).name, .int .i64 (t).epoch, .int .i64 (t).next, .slice (A') (t).keys.length (c')] 38))
  have HB4 := hid_mk (HB3.out.alloc (by omega) (.cells #[.string (t).name, .int .i64 (t).epoch, .int .i64 (t).next, .slice (A') (t).keys.length (c')] 38))
  go_wp2_with (refine store_row 24 rfl _ _ rfl (w.heap.size + 1 + 1) _ _ 24 HZ4.out rfl rfl (by kernel_rfl) rfl rfl ?_)
  refine ret_row_tmp rfl (w.heap.size + 1 + 1) #[.slice none 0 0, .int .i64 0] 24 (.int .i64 7) (HZ4.out.row) rfl rfl _ Try.underlying24 rfl ?_ rfl ?_
  · kernel_rfl
  · exact retSE_bad 7 (below_row HB4.out (by omega) _)
theorem rap_one_no2 (s : Rn.S) (ten txt : ByteArray) (num epoch : Int) (hen : ten.size ≤ maxLen) (htx : txt.size ≤ maxLen) (A : Option Addr) (c : Nat) (G : Nat → Prop) (w : World) (hG : ∀ b, G b → b < w.heap.size) (hl : s.tens.length ≤ 1000) (hT : TensAt G w A s.tens) (hr : Rn.right s = true) (hf : Rn.form ⟨1, ten, num, epoch, txt⟩ = true) (i : Nat) (hi : i < s.tens.length) (hat : findI s.tens ten = (i : Int)) (he : ¬ epoch < s.tens[i].epoch) (hn : num < s.tens[i].next) :
    Calls Try.prog 12 #[.agg #[.slice (A) (s).tens.length (c), .int .i64 (s).serial], .agg #[.int .i64 1, .string ten, .int .i64 num, .int .i64 epoch, .string txt]] w (RetSE G (.bad 7) w) := by
  have HG := hid_mk hG
  have HT := hid_mk hT
  have hlm : s.tens.length ≤ maxLen := by unfold maxLen; omega
  obtain ⟨W0, hW0⟩ : ∃ W0, W0 = (((w.alloc (.cells #[.slice (A) (s).tens.length (c), .int .i64 (s).serial] 24)).alloc (.cells #[.int .i64 1, .string ten, .int .i64 num, .int .i64 epoch, .string txt] 26)).alloc (.cells #[.slice none 0 0, .int .i64 0] 24)) := ⟨_, rfl⟩
  have hb0 : Below w.heap.size w W0 := by rw [hW0]; exact (((Below.refl _ _).alloc (Nat.le_refl _) _).alloc (by simp) _).alloc (by simp; omega) _
  have hx0 : Blk W0 w.heap.size #[.slice (A) (s).tens.length (c), .int .i64 (s).serial] 24 := by rw [hW0]; exact ((Blk.new w _ _).alloc _).alloc _
  have hy0 : Blk W0 (w.heap.size + 1) #[.int .i64 1, .string ten, .int .i64 num, .int .i64 epoch, .string txt] 26 := by rw [hW0]; exact (blk_new (by simp)).alloc _
  have hz0 : Blk W0 (w.heap.size + 1 + 1) #[.slice none 0 0, .int .i64 0] 24 := by rw [hW0]; exact blk_new (by simp)
  have HB0 := hid_mk hb0
  have HX0 := hid_mk hx0
  have HY0 := hid_mk hy0
  have HZ0 := hid_mk hz0
  have HR1 := hide (fun w (hG : ∀ b, G b → b < w.heap.size) (hT : TensAt G w A s.tens) => rright38_any s A c G w hG hlm hT)
  rw [hr] at HR1
  have HKG : Hid (∀ b, G b → b < W0.heap.size) := hid_mk (fun b h => Nat.lt_of_lt_of_le (hG b h) hb0.size)
  have HTG : Hid (TensAt G W0 A s.tens) := hid_mk (tensAt_keep hT (fun b h => h) (kept_below hb0 hG))
  have HF1 := hide (fun w => rform_any ⟨1, ten, num, epoch, txt⟩ w hen)
  rw [hf] at HF1
  have hW := hid_mk hW0
  clear hG hT hb0 hx0 hy0 hz0 hW0 hr hf
  have HFD := hide (fun w (hG : ∀ b, G b → b < w.heap.size) (hT : TensAt G w A s.tens) => rfind_any s A c ten G w hG hlm hT)
  rw [hat] at HFD
  clear hat
  go_enter Try.func12, Try.ntmps12
  go_wp2_with fail
  rw [← hW.out]
  refine (unhide HR1 _ HKG.out HTG.out).mono ?_
  rintro e' W1 ⟨rfl, hb1⟩
  have HX1 := hid_mk (HX0.out.call hb1)
  have HY1 := hid_mk (HY0.out.call hb1)
  have HZ1 := hid_mk (HZ0.out.call hb1)
  have HB1 := hid_mk (HB0.out.trans (hb1.mono HB0.out.size))
  have HKG1 : Hid (∀ b, G b → b < W1.heap.size) := hid_mk (fun b h => Nat.lt_of_lt_of_le (HG.out b h) HB1.out.size)
  have HTG1 := hid_mk (tensAt_keep HT.out (fun b h => h) (kept_below HB1.out HG.out))
  have hx1 := HX1.out
  have hy1 := HY1.out
  have hz1 := HZ1.out
  (have x10 : W1.cell? ⟨w.heap.size, 0, none⟩ = some (.slice (A) (s).tens.length (c)) := hx1.cell 0; have x11 : W1.cell? ⟨w.heap.size, 1, none⟩ = some (.int .i64 (s).serial) := hx1.cell 1; have x1f : ∀ i, W1.frozen? ⟨w.heap.size, i, none⟩ = false := hx1.frozen)
  (have y10 : W1.cell? ⟨w.heap.size + 1, 0, none⟩ = some (.int .i64 1) := hy1.cell 0; have y11 : W1.cell? ⟨w.heap.size + 1, 1, none⟩ = some (.string ten) := hy1.cell 1; have y12 : W1.cell? ⟨w.heap.size + 1, 2, none⟩ = some (.int .i64 num) := hy1.cell 2; have y13 : W1.cell? ⟨w.heap.size + 1, 3, none⟩ = some (.int .i64 epoch) := hy1.cell 3; have y14 : W1.cell? ⟨w.heap.size + 1, 4, none⟩ = some (.string txt) := hy1.cell 4; have y1f : ∀ i, W1.frozen? ⟨w.heap.size + 1, i, none⟩ = false := hy1.frozen)
  (have z10 : W1.cell? ⟨w.heap.size + 1 + 1, 0, none⟩ = some (.slice none 0 0) := hz1.cell 0; have z11 : W1.cell? ⟨w.heap.size + 1 + 1, 1, none⟩ = some (.int .i64 0) := hz1.cell 1; have z1f : ∀ i, W1.frozen? ⟨w.heap.size + 1 + 1, i, none⟩ = false := hz1.frozen)
  have hzs1 : w.heap.size + 1 + 1 < W1.heap.size := HZ1.out.lt
  have hys1 : w.heap.size + 1 < W1.heap.size := HY1.out.lt
  have hxs1 : w.heap.size < W1.heap.size := HX1.out.lt
  clear hb1 hx1 hy1 hz1
  go_wp2_with fail
  refine (unhide HF1 _).mono ?_
  rintro e' W2 ⟨rfl, hb2⟩
  have HX2 := hid_mk (HX1.out.call hb2)
  have HY2 := hid_mk (HY1.out.call hb2)
  have HZ2 := hid_mk (HZ1.out.call hb2)
  have HB2 := hid_mk (HB1.out.trans (hb2.mono HB1.out.size))
  have HKG2 : Hid (∀ b, G b → b < W2.heap.size) := hid_mk (fun b h => Nat.lt_of_lt_of_le (HG.out b h) HB2.out.size)
  have HTG2 := hid_mk (tensAt_keep HT.out (fun b h => h) (kept_below HB2.out HG.out))
  have hx2 := HX2.out
  have hy2 := HY2.out
  have hz2 := HZ2.out
  (have x20 : W2.cell? ⟨w.heap.size, 0, none⟩ = some (.slice (A) (s).tens.length (c)) := hx2.cell 0; have x21 : W2.cell? ⟨w.heap.size, 1, none⟩ = some (.int .i64 (s).serial) := hx2.cell 1; have x2f : ∀ i, W2.frozen? ⟨w.heap.size, i, none⟩ = false := hx2.frozen)
  (have y20 : W2.cell? ⟨w.heap.size + 1, 0, none⟩ = some (.int .i64 1) := hy2.cell 0; have y21 : W2.cell? ⟨w.heap.size + 1, 1, none⟩ = some (.string ten) := hy2.cell 1; have y22 : W2.cell? ⟨w.heap.size + 1, 2, none⟩ = some (.int .i64 num) := hy2.cell 2; have y23 : W2.cell? ⟨w.heap.size + 1, 3, none⟩ = some (.int .i64 epoch) := hy2.cell 3; have y24 : W2.cell? ⟨w.heap.size + 1, 4, none⟩ = some (.string txt) := hy2.cell 4; have y2f : ∀ i, W2.frozen? ⟨w.heap.size + 1, i, none⟩ = false := hy2.frozen)
  (have z20 : W2.cell? ⟨w.heap.size + 1 + 1, 0, none⟩ = some (.slice none 0 0) := hz2.cell 0; have z21 : W2.cell? ⟨w.heap.size + 1 + 1, 1, none⟩ = some (.int .i64 0) := hz2.cell 1; have z2f : ∀ i, W2.frozen? ⟨w.heap.size + 1 + 1, i, none⟩ = false := hz2.frozen)
  have hzs2 : w.heap.size + 1 + 1 < W2.heap.size := HZ2.out.lt
  have hys2 : w.heap.size + 1 < W2.heap.size := HY2.out.lt
  have hxs2 : w.heap.size < W2.heap.size := HX2.out.lt
  clear hb2 hx2 hy2 hz2
  go_wp2_with fail
  refine (unhide HFD _ HKG2.out HTG2.out).mono ?_
  rintro e' W3 ⟨rfl, hb3⟩
  have HX3 := hid_mk (HX2.out.call hb3)
  have HY3 := hid_mk (HY2.out.call hb3)
  have HZ3 := hid_mk (HZ2.out.call hb3)
  have HB3 := hid_mk (HB2.out.trans (hb3.mono HB2.out.size))
  have HKG3 : Hid (∀ b, G b → b < W3.heap.size) := hid_mk (fun b h => Nat.lt_of_lt_of_le (HG.out b h) HB3.out.size)
  have HTG3 := hid_mk (tensAt_keep HT.out (fun b h => h) (kept_below HB3.out HG.out))
  have hx3 := HX3.out
  have hy3 := HY3.out
  have hz3 := HZ3.out
  (have x30 : W3.cell? ⟨w.heap.size, 0, none⟩ = some (.slice (A) (s).tens.length (c)) := hx3.cell 0; have x31 : W3.cell? ⟨w.heap.size, 1, none⟩ = some (.int .i64 (s).serial) := hx3.cell 1; have x3f : ∀ i, W3.frozen? ⟨w.heap.size, i, none⟩ = false := hx3.frozen)
  (have y30 : W3.cell? ⟨w.heap.size + 1, 0, none⟩ = some (.int .i64 1) := hy3.cell 0; have y31 : W3.cell? ⟨w.heap.size + 1, 1, none⟩ = some (.string ten) := hy3.cell 1; have y32 : W3.cell? ⟨w.heap.size + 1, 2, none⟩ = some (.int .i64 num) := hy3.cell 2; have y33 : W3.cell? ⟨w.heap.size + 1, 3, none⟩ = some (.int .i64 epoch) := hy3.cell 3; have y34 : W3.cell? ⟨w.heap.size + 1, 4, none⟩ = some (.string txt) := hy3.cell 4; have y3f : ∀ i, W3.frozen? ⟨w.heap.size + 1, i, none⟩ = false := hy3.frozen)
  (have z30 : W3.cell? ⟨w.heap.size + 1 + 1, 0, none⟩ = some (.slice none 0 0) := hz3.cell 0; have z31 : W3.cell? ⟨w.heap.size + 1 + 1, 1, none⟩ = some (.int .i64 0) := hz3.cell 1; have z3f : ∀ i, W3.frozen? ⟨w.heap.size + 1 + 1, i, none⟩ = false := hz3.frozen)
  have hzs3 : w.heap.size + 1 + 1 < W3.heap.size := HZ3.out.lt
  have hys3 : w.heap.size + 1 < W3.heap.size := HY3.out.lt
  have hxs3 : w.heap.size < W3.heap.size := HX3.out.lt
  clear hb3 hx3 hy3 hz3
  have hk3 := HTG3.out
  obtain ⟨b, o, A', c', e1, hg1, hft, hsl, hsn, hks, q0, q1, q2, q3⟩ := tens_at hk3 hi
  have hbw : b < w.heap.size := HG.out b hg1
  have hbw3 : b < W3.heap.size := HKG3.out b hg1
  have hii : (i : Int) < (s.tens.length : Int) := by omega
  have hi0 : ¬ ((i : Int) < 0) := by omega
  subst e1
  have HKS := hid_mk hks
  have HFT := hid_mk hft
  have HSL := hid_mk hsl
  have HSN := hid_mk hsn
  clear hk3 hks hft hsl hsn hlm
  generalize hti : s.tens[i] = t at *
  have HTI := hid_mk hti
  clear hti
  have HZ4 := hid_mk (HZ3.out.alloc (.cells #[.string (t).name, .int .i64 (t).epoch, .int .i64 (t).next, .slice (A') (t).keys.length (c')] 38))
  have HB4 := hid_mk (HB3.out.alloc (by omega) (.cells #[.string (t).name, .int .i64 (t).epoch, .int .i64 (t).next, .slice (A') (t).keys.length (c')] 38))
  go_wp2_with (refine store_row 24 rfl _ _ rfl (w.heap.size + 1 + 1) _ _ 24 HZ4.out rfl rfl (by kernel_rfl) rfl rfl ?_)
  refine ret_row_tmp rfl (w.heap.size + 1 + 1) #[.slice none 0 0, .int .i64 0] 24 (.int .i64 7) (HZ4.out.row) rfl rfl _ Try.underlying24 rfl ?_ rfl ?_
  · kernel_rfl
  · exact retSE_bad 7 (below_row HB4.out (by omega) _)
theorem rap_one_old (s : Rn.S) (ten txt : ByteArray) (num epoch : Int) (hen : ten.size ≤ maxLen) (htx : txt.size ≤ maxLen) (A : Option Addr) (c : Nat) (G : Nat → Prop) (w : World) (hG : ∀ b, G b → b < w.heap.size) (hl : s.tens.length ≤ 1000) (hT : TensAt G w A s.tens) (hr : Rn.right s = true) (hf : Rn.form ⟨1, ten, num, epoch, txt⟩ = true) (i : Nat) (hi : i < s.tens.length) (hat : findI s.tens ten = (i : Int)) (he : ¬ epoch < s.tens[i].epoch) (hn : ¬ num < s.tens[i].next) :
    Calls Try.prog 12 #[.agg #[.slice (A) (s).tens.length (c), .int .i64 (s).serial], .agg #[.int .i64 1, .string ten, .int .i64 num, .int .i64 epoch, .string txt]] w (RetSE G (.ok ⟨Rn.putT s.tens ⟨s.tens[i].name, epoch, num, s.tens[i].keys⟩, s.serial⟩) w) := by
  have HG := hid_mk hG
  have HT := hid_mk hT
  have hlm : s.tens.length ≤ maxLen := by unfold maxLen; omega
  obtain ⟨W0, hW0⟩ : ∃ W0, W0 = (((w.alloc (.cells #[.slice (A) (s).tens.length (c), .int .i64 (s).serial] 24)).alloc (.cells #[.int .i64 1, .string ten, .int .i64 num, .int .i64 epoch, .string txt] 26)).alloc (.cells #[.slice none 0 0, .int .i64 0] 24)) := ⟨_, rfl⟩
  have hb0 : Below w.heap.size w W0 := by rw [hW0]; exact (((Below.refl _ _).alloc (Nat.le_refl _) _).alloc (by simp) _).alloc (by simp; omega) _
  have hx0 : Blk W0 w.heap.size #[.slice (A) (s).tens.length (c), .int .i64 (s).serial] 24 := by rw [hW0]; exact ((Blk.new w _ _).alloc _).alloc _
  have hy0 : Blk W0 (w.heap.size + 1) #[.int .i64 1, .string ten, .int .i64 num, .int .i64 epoch, .string txt] 26 := by rw [hW0]; exact (blk_new (by simp)).alloc _
  have hz0 : Blk W0 (w.heap.size + 1 + 1) #[.slice none 0 0, .int .i64 0] 24 := by rw [hW0]; exact blk_new (by simp)
  have HB0 := hid_mk hb0
  have HX0 := hid_mk hx0
  have HY0 := hid_mk hy0
  have HZ0 := hid_mk hz0
  have HR1 := hide (fun w (hG : ∀ b, G b → b < w.heap.size) (hT : TensAt G w A s.tens) => rright38_any s A c G w hG hlm hT)
  rw [hr] at HR1
  have HKG : Hid (∀ b, G b → b < W0.heap.size) := hid_mk (fun b h => Nat.lt_of_lt_of_le (hG b h) hb0.size)
  have HTG : Hid (TensAt G W0 A s.tens) := hid_mk (tensAt_keep hT (fun b h => h) (kept_below hb0 hG))
  have HF1 := hide (fun w => rform_any ⟨1, ten, num, epoch, txt⟩ w hen)
  rw [hf] at HF1
  have hW := hid_mk hW0
  clear hG hT hb0 hx0 hy0 hz0 hW0 hr hf
  have HFD := hide (fun w (hG : ∀ b, G b → b < w.heap.size) (hT : TensAt G w A s.tens) => rfind_any s A c ten G w hG hlm hT)
  rw [hat] at HFD
  clear hat
  have hd1 : decide (epoch < s.tens[i].epoch) = false := decide_eq_false he
  have hd2 : decide (num < s.tens[i].next) = false := decide_eq_false hn
  clear he hn
  go_enter Try.func12, Try.ntmps12
  go_wp2_with fail
  rw [← hW.out]
  refine (unhide HR1 _ HKG.out HTG.out).mono ?_
  rintro e' W1 ⟨rfl, hb1⟩
  have HX1 := hid_mk (HX0.out.call hb1)
  have HY1 := hid_mk (HY0.out.call hb1)
  have HZ1 := hid_mk (HZ0.out.call hb1)
  have HB1 := hid_mk (HB0.out.trans (hb1.mono HB0.out.size))
  have HKG1 : Hid (∀ b, G b → b < W1.heap.size) := hid_mk (fun b h => Nat.lt_of_lt_of_le (HG.out b h) HB1.out.size)
  have HTG1 := hid_mk (tensAt_keep HT.out (fun b h => h) (kept_below HB1.out HG.out))
  have hx1 := HX1.out
  have hy1 := HY1.out
  have hz1 := HZ1.out
  (have x10 : W1.cell? ⟨w.heap.size, 0, none⟩ = some (.slice (A) (s).tens.length (c)) := hx1.cell 0; have x11 : W1.cell? ⟨w.heap.size, 1, none⟩ = some (.int .i64 (s).serial) := hx1.cell 1; have x1f : ∀ i, W1.frozen? ⟨w.heap.size, i, none⟩ = false := hx1.frozen)
  (have y10 : W1.cell? ⟨w.heap.size + 1, 0, none⟩ = some (.int .i64 1) := hy1.cell 0; have y11 : W1.cell? ⟨w.heap.size + 1, 1, none⟩ = some (.string ten) := hy1.cell 1; have y12 : W1.cell? ⟨w.heap.size + 1, 2, none⟩ = some (.int .i64 num) := hy1.cell 2; have y13 : W1.cell? ⟨w.heap.size + 1, 3, none⟩ = some (.int .i64 epoch) := hy1.cell 3; have y14 : W1.cell? ⟨w.heap.size + 1, 4, none⟩ = some (.string txt) := hy1.cell 4; have y1f : ∀ i, W1.frozen? ⟨w.heap.size + 1, i, none⟩ = false := hy1.frozen)
  (have z10 : W1.cell? ⟨w.heap.size + 1 + 1, 0, none⟩ = some (.slice none 0 0) := hz1.cell 0; have z11 : W1.cell? ⟨w.heap.size + 1 + 1, 1, none⟩ = some (.int .i64 0) := hz1.cell 1; have z1f : ∀ i, W1.frozen? ⟨w.heap.size + 1 + 1, i, none⟩ = false := hz1.frozen)
  have hzs1 : w.heap.size + 1 + 1 < W1.heap.size := HZ1.out.lt
  have hys1 : w.heap.size + 1 < W1.heap.size := HY1.out.lt
  have hxs1 : w.heap.size < W1.heap.size := HX1.out.lt
  clear hb1 hx1 hy1 hz1
  go_wp2_with fail
  refine (unhide HF1 _).mono ?_
  rintro e' W2 ⟨rfl, hb2⟩
  have HX2 := hid_mk (HX1.out.call hb2)
  have HY2 := hid_mk (HY1.out.call hb2)
  have HZ2 := hid_mk (HZ1.out.call hb2)
  have HB2 := hid_mk (HB1.out.trans (hb2.mono HB1.out.size))
  have HKG2 : Hid (∀ b, G b → b < W2.heap.size) := hid_mk (fun b h => Nat.lt_of_lt_of_le (HG.out b h) HB2.out.size)
  have HTG2 := hid_mk (tensAt_keep HT.out (fun b h => h) (kept_below HB2.out HG.out))
  have hx2 := HX2.out
  have hy2 := HY2.out
  have hz2 := HZ2.out
  (have x20 : W2.cell? ⟨w.heap.size, 0, none⟩ = some (.slice (A) (s).tens.length (c)) := hx2.cell 0; have x21 : W2.cell? ⟨w.heap.size, 1, none⟩ = some (.int .i64 (s).serial) := hx2.cell 1; have x2f : ∀ i, W2.frozen? ⟨w.heap.size, i, none⟩ = false := hx2.frozen)
  (have y20 : W2.cell? ⟨w.heap.size + 1, 0, none⟩ = some (.int .i64 1) := hy2.cell 0; have y21 : W2.cell? ⟨w.heap.size + 1, 1, none⟩ = some (.string ten) := hy2.cell 1; have y22 : W2.cell? ⟨w.heap.size + 1, 2, none⟩ = some (.int .i64 num) := hy2.cell 2; have y23 : W2.cell? ⟨w.heap.size + 1, 3, none⟩ = some (.int .i64 epoch) := hy2.cell 3; have y24 : W2.cell? ⟨w.heap.size + 1, 4, none⟩ = some (.string txt) := hy2.cell 4; have y2f : ∀ i, W2.frozen? ⟨w.heap.size + 1, i, none⟩ = false := hy2.frozen)
  (have z20 : W2.cell? ⟨w.heap.size + 1 + 1, 0, none⟩ = some (.slice none 0 0) := hz2.cell 0; have z21 : W2.cell? ⟨w.heap.size + 1 + 1, 1, none⟩ = some (.int .i64 0) := hz2.cell 1; have z2f : ∀ i, W2.frozen? ⟨w.heap.size + 1 + 1, i, none⟩ = false := hz2.frozen)
  have hzs2 : w.heap.size + 1 + 1 < W2.heap.size := HZ2.out.lt
  have hys2 : w.heap.size + 1 < W2.heap.size := HY2.out.lt
  have hxs2 : w.heap.size < W2.heap.size := HX2.out.lt
  clear hb2 hx2 hy2 hz2
  go_wp2_with fail
  refine (unhide HFD _ HKG2.out HTG2.out).mono ?_
  rintro e' W3 ⟨rfl, hb3⟩
  have HX3 := hid_mk (HX2.out.call hb3)
  have HY3 := hid_mk (HY2.out.call hb3)
  have HZ3 := hid_mk (HZ2.out.call hb3)
  have HB3 := hid_mk (HB2.out.trans (hb3.mono HB2.out.size))
  have HKG3 : Hid (∀ b, G b → b < W3.heap.size) := hid_mk (fun b h => Nat.lt_of_lt_of_le (HG.out b h) HB3.out.size)
  have HTG3 := hid_mk (tensAt_keep HT.out (fun b h => h) (kept_below HB3.out HG.out))
  have hx3 := HX3.out
  have hy3 := HY3.out
  have hz3 := HZ3.out
  (have x30 : W3.cell? ⟨w.heap.size, 0, none⟩ = some (.slice (A) (s).tens.length (c)) := hx3.cell 0; have x31 : W3.cell? ⟨w.heap.size, 1, none⟩ = some (.int .i64 (s).serial) := hx3.cell 1; have x3f : ∀ i, W3.frozen? ⟨w.heap.size, i, none⟩ = false := hx3.frozen)
  (have y30 : W3.cell? ⟨w.heap.size + 1, 0, none⟩ = some (.int .i64 1) := hy3.cell 0; have y31 : W3.cell? ⟨w.heap.size + 1, 1, none⟩ = some (.string ten) := hy3.cell 1; have y32 : W3.cell? ⟨w.heap.size + 1, 2, none⟩ = some (.int .i64 num) := hy3.cell 2; have y33 : W3.cell? ⟨w.heap.size + 1, 3, none⟩ = some (.int .i64 epoch) := hy3.cell 3; have y34 : W3.cell? ⟨w.heap.size + 1, 4, none⟩ = some (.string txt) := hy3.cell 4; have y3f : ∀ i, W3.frozen? ⟨w.heap.size + 1, i, none⟩ = false := hy3.frozen)
  (have z30 : W3.cell? ⟨w.heap.size + 1 + 1, 0, none⟩ = some (.slice none 0 0) := hz3.cell 0; have z31 : W3.cell? ⟨w.heap.size + 1 + 1, 1, none⟩ = some (.int .i64 0) := hz3.cell 1; have z3f : ∀ i, W3.frozen? ⟨w.heap.size + 1 + 1, i, none⟩ = false := hz3.frozen)
  have hzs3 : w.heap.size + 1 + 1 < W3.heap.size := HZ3.out.lt
  have hys3 : w.heap.size + 1 < W3.heap.size := HY3.out.lt
  have hxs3 : w.heap.size < W3.heap.size := HX3.out.lt
  clear hb3 hx3 hy3 hz3
  have hk3 := HTG3.out
  obtain ⟨b, o, A', c', e1, hg1, hft, hsl, hsn, hks, q0, q1, q2, q3⟩ := tens_at hk3 hi
  have hbw : b < w.heap.size := HG.out b hg1
  have hbw3 : b < W3.heap.size := HKG3.out b hg1
  have hii : (i : Int) < (s.tens.length : Int) := by omega
  have hi0 : ¬ ((i : Int) < 0) := by omega
  subst e1
  have HKS := hid_mk hks
  have HFT := hid_mk hft
  have HSL := hid_mk hsl
  have HSN := hid_mk hsn
  clear hk3 hks hft hsl hsn hlm
  generalize hti : s.tens[i] = t at *
  have HTI := hid_mk hti
  clear hti
  obtain ⟨W4, hW4⟩ : ∃ W4, W4 = W3.alloc (.cells #[.string t.name, .int .i64 epoch, .int .i64 num, .slice A' t.keys.length c'] 38) := ⟨_, rfl⟩
  have hb4 : Below W3.heap.size W3 W4 := by rw [hW4]; exact (Below.refl _ _).alloc (Nat.le_refl _) _
  have HX4 := hid_mk (HX3.out.call hb4)
  have HY4 := hid_mk (HY3.out.call hb4)
  have HZ4 := hid_mk (HZ3.out.call hb4)
  have HT4 : Hid (Blk W4 W3.heap.size #[.string t.name, .int .i64 epoch, .int .i64 num, .slice A' t.keys.length c'] 38) := hid_mk (by rw [hW4]; exact Blk.new W3 _ _)
  have HB4 := hid_mk (HB3.out.trans (hb4.mono HB3.out.size))
  have HKG4 : Hid (∀ b, G b → b < W4.heap.size) := hid_mk (fun b h => Nat.lt_of_lt_of_le (HG.out b h) HB4.out.size)
  have HTG4 := hid_mk (tensAt_keep HT.out (fun b h => h) (kept_below HB4.out HG.out))
  have hzs4 : W4.heap.size = W3.heap.size + 1 := by rw [hW4]; simp
  have HS4 := hid_mk hzs4
  have HBL4 := hid_mk hb4
  have HW4 := hid_mk hW4
  clear hb4 hzs4 hW4
  go_wp2_with fail
  rw [← HW4.out]
  refine (put_any s ⟨t.name, epoch, num, t.keys⟩ _ A' c c' G _ HKG4.out hl HTG4.out ⟨A', c', rfl, HFT.out, HSL.out, HSN.out, keysAt_keep HKS.out (fun b h => h) (kept_below (B := W3.heap.size) (by rw [HW4.out]; exact (Below.refl _ _).alloc (Nat.le_refl _) _) HKG3.out)⟩).mono ?_
  rintro e' W9 ⟨A9, c9, rfl, hf9, hb9, hT9⟩
  have HZ9 := hid_mk (HZ4.out.call hb9)
  have HF9 := hid_mk hf9
  have HB9 := hid_mk hb9
  have HT9 := hid_mk hT9
  clear hf9 hb9 hT9
  go_wp2_with (refine store_row 24 rfl _ _ rfl (w.heap.size + 1 + 1) _ _ 24 HZ9.out rfl rfl (by kernel_rfl) rfl rfl ?_)
  refine ret_row_tmp rfl (w.heap.size + 1 + 1) #[.slice (A9) ((⟨Rn.putT s.tens ⟨t.name, epoch, num, t.keys⟩, s.serial⟩ : Rn.S)).tens.length (c9), .int .i64 ((⟨Rn.putT s.tens ⟨t.name, epoch, num, t.keys⟩, s.serial⟩ : Rn.S)).serial] 24 (.int .i64 0) (HZ9.out.row) rfl rfl _ Try.underlying24 rfl ?_ rfl ?_
  · kernel_rfl
  · exact by have e := HTI.out; subst e; exact retSE_ok (s := ⟨Rn.putT s.tens ⟨s.tens[i].name, epoch, num, s.tens[i].keys⟩, s.serial⟩) (A := A9) (c := c9) HG.out HB4.out HZ4.out.lt (fun b h => Or.inl h) HF9.out HB9.out HT9.out
theorem rap_drop_none (s : Rn.S) (ten txt : ByteArray) (num epoch : Int) (hen : ten.size ≤ maxLen) (htx : txt.size ≤ maxLen) (A : Option Addr) (c : Nat) (G : Nat → Prop) (w : World) (hG : ∀ b, G b → b < w.heap.size) (hl : s.tens.length ≤ 1000) (hT : TensAt G w A s.tens) (hr : Rn.right s = true) (hf : Rn.form ⟨3, ten, num, epoch, txt⟩ = true) (i : Nat) (hi : i < s.tens.length) (hat : findI s.tens ten = (i : Int)) (hk : keyI s.tens[i].keys num = -1)  :
    Calls Try.prog 12 #[.agg #[.slice (A) (s).tens.length (c), .int .i64 (s).serial], .agg #[.int .i64 3, .string ten, .int .i64 num, .int .i64 epoch, .string txt]] w (RetSE G (.bad 6) w) := by
  have HG := hid_mk hG
  have HT := hid_mk hT
  have hlm : s.tens.length ≤ maxLen := by unfold maxLen; omega
  obtain ⟨W0, hW0⟩ : ∃ W0, W0 = (((w.alloc (.cells #[.slice (A) (s).tens.length (c), .int .i64 (s).serial] 24)).alloc (.cells #[.int .i64 3, .string ten, .int .i64 num, .int .i64 epoch, .string txt] 26)).alloc (.cells #[.slice none 0 0, .int .i64 0] 24)) := ⟨_, rfl⟩
  have hb0 : Below w.heap.size w W0 := by rw [hW0]; exact (((Below.refl _ _).alloc (Nat.le_refl _) _).alloc (by simp) _).alloc (by simp; omega) _
  have hx0 : Blk W0 w.heap.size #[.slice (A) (s).tens.length (c), .int .i64 (s).serial] 24 := by rw [hW0]; exact ((Blk.new w _ _).alloc _).alloc _
  have hy0 : Blk W0 (w.heap.size + 1) #[.int .i64 3, .string ten, .int .i64 num, .int .i64 epoch, .string txt] 26 := by rw [hW0]; exact (blk_new (by simp)).alloc _
  have hz0 : Blk W0 (w.heap.size + 1 + 1) #[.slice none 0 0, .int .i64 0] 24 := by rw [hW0]; exact blk_new (by simp)
  have HB0 := hid_mk hb0
  have HX0 := hid_mk hx0
  have HY0 := hid_mk hy0
  have HZ0 := hid_mk hz0
  have HR1 := hide (fun w (hG : ∀ b, G b → b < w.heap.size) (hT : TensAt G w A s.tens) => rright38_any s A c G w hG hlm hT)
  rw [hr] at HR1
  have HKG : Hid (∀ b, G b → b < W0.heap.size) := hid_mk (fun b h => Nat.lt_of_lt_of_le (hG b h) hb0.size)
  have HTG : Hid (TensAt G W0 A s.tens) := hid_mk (tensAt_keep hT (fun b h => h) (kept_below hb0 hG))
  have HF1 := hide (fun w => rform_any ⟨3, ten, num, epoch, txt⟩ w hen)
  rw [hf] at HF1
  have hW := hid_mk hW0
  clear hG hT hb0 hx0 hy0 hz0 hW0 hr hf
  have HFD := hide (fun w (hG : ∀ b, G b → b < w.heap.size) (hT : TensAt G w A s.tens) => rfind_any s A c ten G w hG hlm hT)
  rw [hat] at HFD
  clear hat
  have HKY := hide (fun A' c' w (hG : ∀ b, G b → b < w.heap.size) (hl : s.tens[i].keys.length ≤ maxLen) (hK : KeysAt G w A' s.tens[i].keys) => rkeyI_any s.tens[i].keys A' c' num G w hG hl hK)
  rw [hk] at HKY
  clear hk
  go_enter Try.func12, Try.ntmps12
  go_wp2_with fail
  rw [← hW.out]
  refine (unhide HR1 _ HKG.out HTG.out).mono ?_
  rintro e' W1 ⟨rfl, hb1⟩
  have HX1 := hid_mk (HX0.out.call hb1)
  have HY1 := hid_mk (HY0.out.call hb1)
  have HZ1 := hid_mk (HZ0.out.call hb1)
  have HB1 := hid_mk (HB0.out.trans (hb1.mono HB0.out.size))
  have HKG1 : Hid (∀ b, G b → b < W1.heap.size) := hid_mk (fun b h => Nat.lt_of_lt_of_le (HG.out b h) HB1.out.size)
  have HTG1 := hid_mk (tensAt_keep HT.out (fun b h => h) (kept_below HB1.out HG.out))
  have hx1 := HX1.out
  have hy1 := HY1.out
  have hz1 := HZ1.out
  (have x10 : W1.cell? ⟨w.heap.size, 0, none⟩ = some (.slice (A) (s).tens.length (c)) := hx1.cell 0; have x11 : W1.cell? ⟨w.heap.size, 1, none⟩ = some (.int .i64 (s).serial) := hx1.cell 1; have x1f : ∀ i, W1.frozen? ⟨w.heap.size, i, none⟩ = false := hx1.frozen)
  (have y10 : W1.cell? ⟨w.heap.size + 1, 0, none⟩ = some (.int .i64 3) := hy1.cell 0; have y11 : W1.cell? ⟨w.heap.size + 1, 1, none⟩ = some (.string ten) := hy1.cell 1; have y12 : W1.cell? ⟨w.heap.size + 1, 2, none⟩ = some (.int .i64 num) := hy1.cell 2; have y13 : W1.cell? ⟨w.heap.size + 1, 3, none⟩ = some (.int .i64 epoch) := hy1.cell 3; have y14 : W1.cell? ⟨w.heap.size + 1, 4, none⟩ = some (.string txt) := hy1.cell 4; have y1f : ∀ i, W1.frozen? ⟨w.heap.size + 1, i, none⟩ = false := hy1.frozen)
  (have z10 : W1.cell? ⟨w.heap.size + 1 + 1, 0, none⟩ = some (.slice none 0 0) := hz1.cell 0; have z11 : W1.cell? ⟨w.heap.size + 1 + 1, 1, none⟩ = some (.int .i64 0) := hz1.cell 1; have z1f : ∀ i, W1.frozen? ⟨w.heap.size + 1 + 1, i, none⟩ = false := hz1.frozen)
  have hzs1 : w.heap.size + 1 + 1 < W1.heap.size := HZ1.out.lt
  have hys1 : w.heap.size + 1 < W1.heap.size := HY1.out.lt
  have hxs1 : w.heap.size < W1.heap.size := HX1.out.lt
  clear hb1 hx1 hy1 hz1
  go_wp2_with fail
  refine (unhide HF1 _).mono ?_
  rintro e' W2 ⟨rfl, hb2⟩
  have HX2 := hid_mk (HX1.out.call hb2)
  have HY2 := hid_mk (HY1.out.call hb2)
  have HZ2 := hid_mk (HZ1.out.call hb2)
  have HB2 := hid_mk (HB1.out.trans (hb2.mono HB1.out.size))
  have HKG2 : Hid (∀ b, G b → b < W2.heap.size) := hid_mk (fun b h => Nat.lt_of_lt_of_le (HG.out b h) HB2.out.size)
  have HTG2 := hid_mk (tensAt_keep HT.out (fun b h => h) (kept_below HB2.out HG.out))
  have hx2 := HX2.out
  have hy2 := HY2.out
  have hz2 := HZ2.out
  (have x20 : W2.cell? ⟨w.heap.size, 0, none⟩ = some (.slice (A) (s).tens.length (c)) := hx2.cell 0; have x21 : W2.cell? ⟨w.heap.size, 1, none⟩ = some (.int .i64 (s).serial) := hx2.cell 1; have x2f : ∀ i, W2.frozen? ⟨w.heap.size, i, none⟩ = false := hx2.frozen)
  (have y20 : W2.cell? ⟨w.heap.size + 1, 0, none⟩ = some (.int .i64 3) := hy2.cell 0; have y21 : W2.cell? ⟨w.heap.size + 1, 1, none⟩ = some (.string ten) := hy2.cell 1; have y22 : W2.cell? ⟨w.heap.size + 1, 2, none⟩ = some (.int .i64 num) := hy2.cell 2; have y23 : W2.cell? ⟨w.heap.size + 1, 3, none⟩ = some (.int .i64 epoch) := hy2.cell 3; have y24 : W2.cell? ⟨w.heap.size + 1, 4, none⟩ = some (.string txt) := hy2.cell 4; have y2f : ∀ i, W2.frozen? ⟨w.heap.size + 1, i, none⟩ = false := hy2.frozen)
  (have z20 : W2.cell? ⟨w.heap.size + 1 + 1, 0, none⟩ = some (.slice none 0 0) := hz2.cell 0; have z21 : W2.cell? ⟨w.heap.size + 1 + 1, 1, none⟩ = some (.int .i64 0) := hz2.cell 1; have z2f : ∀ i, W2.frozen? ⟨w.heap.size + 1 + 1, i, none⟩ = false := hz2.frozen)
  have hzs2 : w.heap.size + 1 + 1 < W2.heap.size := HZ2.out.lt
  have hys2 : w.heap.size + 1 < W2.heap.size := HY2.out.lt
  have hxs2 : w.heap.size < W2.heap.size := HX2.out.lt
  clear hb2 hx2 hy2 hz2
  go_wp2_with fail
  refine (unhide HFD _ HKG2.out HTG2.out).mono ?_
  rintro e' W3 ⟨rfl, hb3⟩
  have HX3 := hid_mk (HX2.out.call hb3)
  have HY3 := hid_mk (HY2.out.call hb3)
  have HZ3 := hid_mk (HZ2.out.call hb3)
  have HB3 := hid_mk (HB2.out.trans (hb3.mono HB2.out.size))
  have HKG3 : Hid (∀ b, G b → b < W3.heap.size) := hid_mk (fun b h => Nat.lt_of_lt_of_le (HG.out b h) HB3.out.size)
  have HTG3 := hid_mk (tensAt_keep HT.out (fun b h => h) (kept_below HB3.out HG.out))
  have hx3 := HX3.out
  have hy3 := HY3.out
  have hz3 := HZ3.out
  (have x30 : W3.cell? ⟨w.heap.size, 0, none⟩ = some (.slice (A) (s).tens.length (c)) := hx3.cell 0; have x31 : W3.cell? ⟨w.heap.size, 1, none⟩ = some (.int .i64 (s).serial) := hx3.cell 1; have x3f : ∀ i, W3.frozen? ⟨w.heap.size, i, none⟩ = false := hx3.frozen)
  (have y30 : W3.cell? ⟨w.heap.size + 1, 0, none⟩ = some (.int .i64 3) := hy3.cell 0; have y31 : W3.cell? ⟨w.heap.size + 1, 1, none⟩ = some (.string ten) := hy3.cell 1; have y32 : W3.cell? ⟨w.heap.size + 1, 2, none⟩ = some (.int .i64 num) := hy3.cell 2; have y33 : W3.cell? ⟨w.heap.size + 1, 3, none⟩ = some (.int .i64 epoch) := hy3.cell 3; have y34 : W3.cell? ⟨w.heap.size + 1, 4, none⟩ = some (.string txt) := hy3.cell 4; have y3f : ∀ i, W3.frozen? ⟨w.heap.size + 1, i, none⟩ = false := hy3.frozen)
  (have z30 : W3.cell? ⟨w.heap.size + 1 + 1, 0, none⟩ = some (.slice none 0 0) := hz3.cell 0; have z31 : W3.cell? ⟨w.heap.size + 1 + 1, 1, none⟩ = some (.int .i64 0) := hz3.cell 1; have z3f : ∀ i, W3.frozen? ⟨w.heap.size + 1 + 1, i, none⟩ = false := hz3.frozen)
  have hzs3 : w.heap.size + 1 + 1 < W3.heap.size := HZ3.out.lt
  have hys3 : w.heap.size + 1 < W3.heap.size := HY3.out.lt
  have hxs3 : w.heap.size < W3.heap.size := HX3.out.lt
  clear hb3 hx3 hy3 hz3
  have hk3 := HTG3.out
  obtain ⟨b, o, A', c', e1, hg1, hft, hsl, hsn, hks, q0, q1, q2, q3⟩ := tens_at hk3 hi
  have hbw : b < w.heap.size := HG.out b hg1
  have hbw3 : b < W3.heap.size := HKG3.out b hg1
  have hii : (i : Int) < (s.tens.length : Int) := by omega
  have hi0 : ¬ ((i : Int) < 0) := by omega
  subst e1
  have HKS := hid_mk hks
  have HFT := hid_mk hft
  have HSL := hid_mk hsl
  have HSN := hid_mk hsn
  clear hk3 hks hft hsl hsn hlm
  generalize hti : s.tens[i] = t at *
  have HTI := hid_mk hti
  clear hti
  obtain ⟨W4, hW4⟩ : ∃ W4, W4 = W3.alloc (.cells #[.string (t).name, .int .i64 (t).epoch, .int .i64 (t).next, .slice (A') (t).keys.length (c')] 38) := ⟨_, rfl⟩
  have hb4 : Below W3.heap.size W3 W4 := by rw [hW4]; exact (Below.refl _ _).alloc (Nat.le_refl _) _
  have HX4 := hid_mk (HX3.out.call hb4)
  have HY4 := hid_mk (HY3.out.call hb4)
  have HZ4 := hid_mk (HZ3.out.call hb4)
  have HT4 : Hid (Blk W4 W3.heap.size #[.string (t).name, .int .i64 (t).epoch, .int .i64 (t).next, .slice (A') (t).keys.length (c')] 38) := hid_mk (by rw [hW4]; exact Blk.new W3 _ _)
  have HB4 := hid_mk (HB3.out.trans (hb4.mono HB3.out.size))
  have HKG4 : Hid (∀ b, G b → b < W4.heap.size) := hid_mk (fun b h => Nat.lt_of_lt_of_le (HG.out b h) HB4.out.size)
  have HTG4 := hid_mk (tensAt_keep HT.out (fun b h => h) (kept_below HB4.out HG.out))
  have hzs4 : W4.heap.size = W3.heap.size + 1 := by rw [hW4]; simp
  have HS4 := hid_mk hzs4
  have HBL4 := hid_mk hb4
  have HW4 := hid_mk hW4
  clear hb4 hzs4 hW4
  have HKS4 := hid_mk (keysAt_keep HKS.out (fun b h => h) (kept_below HBL4.out HKG3.out))
  go_wp2_with fail
  rw [← HW4.out]
  refine (unhide HKY A' c' W4 HKG4.out HSL.out HKS4.out).mono ?_
  rintro e' W5 ⟨rfl, rfl⟩
  have hx4 := HX4.out
  have hy4 := HY4.out
  have ht4 := HT4.out
  (have x40 : W4.cell? ⟨w.heap.size, 0, none⟩ = some (.slice ((some ⟨b, o, none⟩)) (s).tens.length (c)) := hx4.cell 0; have x41 : W4.cell? ⟨w.heap.size, 1, none⟩ = some (.int .i64 (s).serial) := hx4.cell 1; have x4f : ∀ i, W4.frozen? ⟨w.heap.size, i, none⟩ = false := hx4.frozen)
  (have y40 : W4.cell? ⟨w.heap.size + 1, 0, none⟩ = some (.int .i64 3) := hy4.cell 0; have y41 : W4.cell? ⟨w.heap.size + 1, 1, none⟩ = some (.string ten) := hy4.cell 1; have y42 : W4.cell? ⟨w.heap.size + 1, 2, none⟩ = some (.int .i64 num) := hy4.cell 2; have y43 : W4.cell? ⟨w.heap.size + 1, 3, none⟩ = some (.int .i64 epoch) := hy4.cell 3; have y44 : W4.cell? ⟨w.heap.size + 1, 4, none⟩ = some (.string txt) := hy4.cell 4; have y4f : ∀ i, W4.frozen? ⟨w.heap.size + 1, i, none⟩ = false := hy4.frozen)
  (have t40 : W4.cell? ⟨W3.heap.size, 0, none⟩ = some (.string (t).name) := ht4.cell 0; have t41 : W4.cell? ⟨W3.heap.size, 1, none⟩ = some (.int .i64 (t).epoch) := ht4.cell 1; have t42 : W4.cell? ⟨W3.heap.size, 2, none⟩ = some (.int .i64 (t).next) := ht4.cell 2; have t43 : W4.cell? ⟨W3.heap.size, 3, none⟩ = some (.slice (A') (t).keys.length (c')) := ht4.cell 3; have t4f : ∀ i, W4.frozen? ⟨W3.heap.size, i, none⟩ = false := ht4.frozen)
  have hzs4 : w.heap.size + 1 + 1 < W4.heap.size := HZ4.out.lt
  have hys4 : w.heap.size + 1 < W4.heap.size := HY4.out.lt
  have hxs4 : w.heap.size < W4.heap.size := HX4.out.lt
  have hts4 : W3.heap.size < W4.heap.size := HT4.out.lt
  clear hx4 hy4 ht4
  go_wp2_with (refine store_row 24 rfl _ _ rfl (w.heap.size + 1 + 1) _ _ 24 HZ4.out rfl rfl (by kernel_rfl) rfl rfl ?_)
  refine ret_row_tmp rfl (w.heap.size + 1 + 1) #[.slice none 0 0, .int .i64 0] 24 (.int .i64 6) (HZ4.out.row) rfl rfl _ Try.underlying24 rfl ?_ rfl ?_
  · kernel_rfl
  · exact retSE_bad 6 (below_row HB4.out (by omega) _)
theorem rap_key_next (s : Rn.S) (ten txt : ByteArray) (num epoch : Int) (hen : ten.size ≤ maxLen) (htx : txt.size ≤ maxLen) (A : Option Addr) (c : Nat) (G : Nat → Prop) (w : World) (hG : ∀ b, G b → b < w.heap.size) (hl : s.tens.length ≤ 1000) (hT : TensAt G w A s.tens) (hr : Rn.right s = true) (hf : Rn.form ⟨2, ten, num, epoch, txt⟩ = true) (i : Nat) (hi : i < s.tens.length) (hat : findI s.tens ten = (i : Int)) (hn : s.tens[i].next ≤ num) :
    Calls Try.prog 12 #[.agg #[.slice (A) (s).tens.length (c), .int .i64 (s).serial], .agg #[.int .i64 2, .string ten, .int .i64 num, .int .i64 epoch, .string txt]] w (RetSE G (.bad 7) w) := by
  have HG := hid_mk hG
  have HT := hid_mk hT
  have hlm : s.tens.length ≤ maxLen := by unfold maxLen; omega
  obtain ⟨W0, hW0⟩ : ∃ W0, W0 = (((w.alloc (.cells #[.slice (A) (s).tens.length (c), .int .i64 (s).serial] 24)).alloc (.cells #[.int .i64 2, .string ten, .int .i64 num, .int .i64 epoch, .string txt] 26)).alloc (.cells #[.slice none 0 0, .int .i64 0] 24)) := ⟨_, rfl⟩
  have hb0 : Below w.heap.size w W0 := by rw [hW0]; exact (((Below.refl _ _).alloc (Nat.le_refl _) _).alloc (by simp) _).alloc (by simp; omega) _
  have hx0 : Blk W0 w.heap.size #[.slice (A) (s).tens.length (c), .int .i64 (s).serial] 24 := by rw [hW0]; exact ((Blk.new w _ _).alloc _).alloc _
  have hy0 : Blk W0 (w.heap.size + 1) #[.int .i64 2, .string ten, .int .i64 num, .int .i64 epoch, .string txt] 26 := by rw [hW0]; exact (blk_new (by simp)).alloc _
  have hz0 : Blk W0 (w.heap.size + 1 + 1) #[.slice none 0 0, .int .i64 0] 24 := by rw [hW0]; exact blk_new (by simp)
  have HB0 := hid_mk hb0
  have HX0 := hid_mk hx0
  have HY0 := hid_mk hy0
  have HZ0 := hid_mk hz0
  have HR1 := hide (fun w (hG : ∀ b, G b → b < w.heap.size) (hT : TensAt G w A s.tens) => rright38_any s A c G w hG hlm hT)
  rw [hr] at HR1
  have HKG : Hid (∀ b, G b → b < W0.heap.size) := hid_mk (fun b h => Nat.lt_of_lt_of_le (hG b h) hb0.size)
  have HTG : Hid (TensAt G W0 A s.tens) := hid_mk (tensAt_keep hT (fun b h => h) (kept_below hb0 hG))
  have HF1 := hide (fun w => rform_any ⟨2, ten, num, epoch, txt⟩ w hen)
  rw [hf] at HF1
  have hW := hid_mk hW0
  clear hG hT hb0 hx0 hy0 hz0 hW0 hr hf
  have HFD := hide (fun w (hG : ∀ b, G b → b < w.heap.size) (hT : TensAt G w A s.tens) => rfind_any s A c ten G w hG hlm hT)
  rw [hat] at HFD
  clear hat
  have HKY := hide (fun A' c' w (hG : ∀ b, G b → b < w.heap.size) (hl : s.tens[i].keys.length ≤ maxLen) (hK : KeysAt G w A' s.tens[i].keys) => rkeyI_any s.tens[i].keys A' c' num G w hG hl hK)
  have hd1 : decide (s.tens[i].next ≤ num) = true := decide_eq_true hn
  clear hn
  go_enter Try.func12, Try.ntmps12
  go_wp2_with fail
  rw [← hW.out]
  refine (unhide HR1 _ HKG.out HTG.out).mono ?_
  rintro e' W1 ⟨rfl, hb1⟩
  have HX1 := hid_mk (HX0.out.call hb1)
  have HY1 := hid_mk (HY0.out.call hb1)
  have HZ1 := hid_mk (HZ0.out.call hb1)
  have HB1 := hid_mk (HB0.out.trans (hb1.mono HB0.out.size))
  have HKG1 : Hid (∀ b, G b → b < W1.heap.size) := hid_mk (fun b h => Nat.lt_of_lt_of_le (HG.out b h) HB1.out.size)
  have HTG1 := hid_mk (tensAt_keep HT.out (fun b h => h) (kept_below HB1.out HG.out))
  have hx1 := HX1.out
  have hy1 := HY1.out
  have hz1 := HZ1.out
  (have x10 : W1.cell? ⟨w.heap.size, 0, none⟩ = some (.slice (A) (s).tens.length (c)) := hx1.cell 0; have x11 : W1.cell? ⟨w.heap.size, 1, none⟩ = some (.int .i64 (s).serial) := hx1.cell 1; have x1f : ∀ i, W1.frozen? ⟨w.heap.size, i, none⟩ = false := hx1.frozen)
  (have y10 : W1.cell? ⟨w.heap.size + 1, 0, none⟩ = some (.int .i64 2) := hy1.cell 0; have y11 : W1.cell? ⟨w.heap.size + 1, 1, none⟩ = some (.string ten) := hy1.cell 1; have y12 : W1.cell? ⟨w.heap.size + 1, 2, none⟩ = some (.int .i64 num) := hy1.cell 2; have y13 : W1.cell? ⟨w.heap.size + 1, 3, none⟩ = some (.int .i64 epoch) := hy1.cell 3; have y14 : W1.cell? ⟨w.heap.size + 1, 4, none⟩ = some (.string txt) := hy1.cell 4; have y1f : ∀ i, W1.frozen? ⟨w.heap.size + 1, i, none⟩ = false := hy1.frozen)
  (have z10 : W1.cell? ⟨w.heap.size + 1 + 1, 0, none⟩ = some (.slice none 0 0) := hz1.cell 0; have z11 : W1.cell? ⟨w.heap.size + 1 + 1, 1, none⟩ = some (.int .i64 0) := hz1.cell 1; have z1f : ∀ i, W1.frozen? ⟨w.heap.size + 1 + 1, i, none⟩ = false := hz1.frozen)
  have hzs1 : w.heap.size + 1 + 1 < W1.heap.size := HZ1.out.lt
  have hys1 : w.heap.size + 1 < W1.heap.size := HY1.out.lt
  have hxs1 : w.heap.size < W1.heap.size := HX1.out.lt
  clear hb1 hx1 hy1 hz1
  go_wp2_with fail
  refine (unhide HF1 _).mono ?_
  rintro e' W2 ⟨rfl, hb2⟩
  have HX2 := hid_mk (HX1.out.call hb2)
  have HY2 := hid_mk (HY1.out.call hb2)
  have HZ2 := hid_mk (HZ1.out.call hb2)
  have HB2 := hid_mk (HB1.out.trans (hb2.mono HB1.out.size))
  have HKG2 : Hid (∀ b, G b → b < W2.heap.size) := hid_mk (fun b h => Nat.lt_of_lt_of_le (HG.out b h) HB2.out.size)
  have HTG2 := hid_mk (tensAt_keep HT.out (fun b h => h) (kept_below HB2.out HG.out))
  have hx2 := HX2.out
  have hy2 := HY2.out
  have hz2 := HZ2.out
  (have x20 : W2.cell? ⟨w.heap.size, 0, none⟩ = some (.slice (A) (s).tens.length (c)) := hx2.cell 0; have x21 : W2.cell? ⟨w.heap.size, 1, none⟩ = some (.int .i64 (s).serial) := hx2.cell 1; have x2f : ∀ i, W2.frozen? ⟨w.heap.size, i, none⟩ = false := hx2.frozen)
  (have y20 : W2.cell? ⟨w.heap.size + 1, 0, none⟩ = some (.int .i64 2) := hy2.cell 0; have y21 : W2.cell? ⟨w.heap.size + 1, 1, none⟩ = some (.string ten) := hy2.cell 1; have y22 : W2.cell? ⟨w.heap.size + 1, 2, none⟩ = some (.int .i64 num) := hy2.cell 2; have y23 : W2.cell? ⟨w.heap.size + 1, 3, none⟩ = some (.int .i64 epoch) := hy2.cell 3; have y24 : W2.cell? ⟨w.heap.size + 1, 4, none⟩ = some (.string txt) := hy2.cell 4; have y2f : ∀ i, W2.frozen? ⟨w.heap.size + 1, i, none⟩ = false := hy2.frozen)
  (have z20 : W2.cell? ⟨w.heap.size + 1 + 1, 0, none⟩ = some (.slice none 0 0) := hz2.cell 0; have z21 : W2.cell? ⟨w.heap.size + 1 + 1, 1, none⟩ = some (.int .i64 0) := hz2.cell 1; have z2f : ∀ i, W2.frozen? ⟨w.heap.size + 1 + 1, i, none⟩ = false := hz2.frozen)
  have hzs2 : w.heap.size + 1 + 1 < W2.heap.size := HZ2.out.lt
  have hys2 : w.heap.size + 1 < W2.heap.size := HY2.out.lt
  have hxs2 : w.heap.size < W2.heap.size := HX2.out.lt
  clear hb2 hx2 hy2 hz2
  go_wp2_with fail
  refine (unhide HFD _ HKG2.out HTG2.out).mono ?_
  rintro e' W3 ⟨rfl, hb3⟩
  have HX3 := hid_mk (HX2.out.call hb3)
  have HY3 := hid_mk (HY2.out.call hb3)
  have HZ3 := hid_mk (HZ2.out.call hb3)
  have HB3 := hid_mk (HB2.out.trans (hb3.mono HB2.out.size))
  have HKG3 : Hid (∀ b, G b → b < W3.heap.size) := hid_mk (fun b h => Nat.lt_of_lt_of_le (HG.out b h) HB3.out.size)
  have HTG3 := hid_mk (tensAt_keep HT.out (fun b h => h) (kept_below HB3.out HG.out))
  have hx3 := HX3.out
  have hy3 := HY3.out
  have hz3 := HZ3.out
  (have x30 : W3.cell? ⟨w.heap.size, 0, none⟩ = some (.slice (A) (s).tens.length (c)) := hx3.cell 0; have x31 : W3.cell? ⟨w.heap.size, 1, none⟩ = some (.int .i64 (s).serial) := hx3.cell 1; have x3f : ∀ i, W3.frozen? ⟨w.heap.size, i, none⟩ = false := hx3.frozen)
  (have y30 : W3.cell? ⟨w.heap.size + 1, 0, none⟩ = some (.int .i64 2) := hy3.cell 0; have y31 : W3.cell? ⟨w.heap.size + 1, 1, none⟩ = some (.string ten) := hy3.cell 1; have y32 : W3.cell? ⟨w.heap.size + 1, 2, none⟩ = some (.int .i64 num) := hy3.cell 2; have y33 : W3.cell? ⟨w.heap.size + 1, 3, none⟩ = some (.int .i64 epoch) := hy3.cell 3; have y34 : W3.cell? ⟨w.heap.size + 1, 4, none⟩ = some (.string txt) := hy3.cell 4; have y3f : ∀ i, W3.frozen? ⟨w.heap.size + 1, i, none⟩ = false := hy3.frozen)
  (have z30 : W3.cell? ⟨w.heap.size + 1 + 1, 0, none⟩ = some (.slice none 0 0) := hz3.cell 0; have z31 : W3.cell? ⟨w.heap.size + 1 + 1, 1, none⟩ = some (.int .i64 0) := hz3.cell 1; have z3f : ∀ i, W3.frozen? ⟨w.heap.size + 1 + 1, i, none⟩ = false := hz3.frozen)
  have hzs3 : w.heap.size + 1 + 1 < W3.heap.size := HZ3.out.lt
  have hys3 : w.heap.size + 1 < W3.heap.size := HY3.out.lt
  have hxs3 : w.heap.size < W3.heap.size := HX3.out.lt
  clear hb3 hx3 hy3 hz3
  have hk3 := HTG3.out
  obtain ⟨b, o, A', c', e1, hg1, hft, hsl, hsn, hks, q0, q1, q2, q3⟩ := tens_at hk3 hi
  have hbw : b < w.heap.size := HG.out b hg1
  have hbw3 : b < W3.heap.size := HKG3.out b hg1
  have hii : (i : Int) < (s.tens.length : Int) := by omega
  have hi0 : ¬ ((i : Int) < 0) := by omega
  subst e1
  have HKS := hid_mk hks
  have HFT := hid_mk hft
  have HSL := hid_mk hsl
  have HSN := hid_mk hsn
  clear hk3 hks hft hsl hsn hlm
  generalize hti : s.tens[i] = t at *
  have HTI := hid_mk hti
  clear hti
  obtain ⟨W4, hW4⟩ : ∃ W4, W4 = W3.alloc (.cells #[.string (t).name, .int .i64 (t).epoch, .int .i64 (t).next, .slice (A') (t).keys.length (c')] 38) := ⟨_, rfl⟩
  have hb4 : Below W3.heap.size W3 W4 := by rw [hW4]; exact (Below.refl _ _).alloc (Nat.le_refl _) _
  have HX4 := hid_mk (HX3.out.call hb4)
  have HY4 := hid_mk (HY3.out.call hb4)
  have HZ4 := hid_mk (HZ3.out.call hb4)
  have HT4 : Hid (Blk W4 W3.heap.size #[.string (t).name, .int .i64 (t).epoch, .int .i64 (t).next, .slice (A') (t).keys.length (c')] 38) := hid_mk (by rw [hW4]; exact Blk.new W3 _ _)
  have HB4 := hid_mk (HB3.out.trans (hb4.mono HB3.out.size))
  have HKG4 : Hid (∀ b, G b → b < W4.heap.size) := hid_mk (fun b h => Nat.lt_of_lt_of_le (HG.out b h) HB4.out.size)
  have HTG4 := hid_mk (tensAt_keep HT.out (fun b h => h) (kept_below HB4.out HG.out))
  have hzs4 : W4.heap.size = W3.heap.size + 1 := by rw [hW4]; simp
  have HS4 := hid_mk hzs4
  have HBL4 := hid_mk hb4
  have HW4 := hid_mk hW4
  clear hb4 hzs4 hW4
  have HKS4 := hid_mk (keysAt_keep HKS.out (fun b h => h) (kept_below HBL4.out HKG3.out))
  go_wp2_with fail
  rw [← HW4.out]
  refine (unhide HKY A' c' W4 HKG4.out HSL.out HKS4.out).mono ?_
  rintro e' W5 ⟨rfl, rfl⟩
  have hx4 := HX4.out
  have hy4 := HY4.out
  have ht4 := HT4.out
  (have x40 : W4.cell? ⟨w.heap.size, 0, none⟩ = some (.slice ((some ⟨b, o, none⟩)) (s).tens.length (c)) := hx4.cell 0; have x41 : W4.cell? ⟨w.heap.size, 1, none⟩ = some (.int .i64 (s).serial) := hx4.cell 1; have x4f : ∀ i, W4.frozen? ⟨w.heap.size, i, none⟩ = false := hx4.frozen)
  (have y40 : W4.cell? ⟨w.heap.size + 1, 0, none⟩ = some (.int .i64 2) := hy4.cell 0; have y41 : W4.cell? ⟨w.heap.size + 1, 1, none⟩ = some (.string ten) := hy4.cell 1; have y42 : W4.cell? ⟨w.heap.size + 1, 2, none⟩ = some (.int .i64 num) := hy4.cell 2; have y43 : W4.cell? ⟨w.heap.size + 1, 3, none⟩ = some (.int .i64 epoch) := hy4.cell 3; have y44 : W4.cell? ⟨w.heap.size + 1, 4, none⟩ = some (.string txt) := hy4.cell 4; have y4f : ∀ i, W4.frozen? ⟨w.heap.size + 1, i, none⟩ = false := hy4.frozen)
  (have t40 : W4.cell? ⟨W3.heap.size, 0, none⟩ = some (.string (t).name) := ht4.cell 0; have t41 : W4.cell? ⟨W3.heap.size, 1, none⟩ = some (.int .i64 (t).epoch) := ht4.cell 1; have t42 : W4.cell? ⟨W3.heap.size, 2, none⟩ = some (.int .i64 (t).next) := ht4.cell 2; have t43 : W4.cell? ⟨W3.heap.size, 3, none⟩ = some (.slice (A') (t).keys.length (c')) := ht4.cell 3; have t4f : ∀ i, W4.frozen? ⟨W3.heap.size, i, none⟩ = false := ht4.frozen)
  have hzs4 : w.heap.size + 1 + 1 < W4.heap.size := HZ4.out.lt
  have hys4 : w.heap.size + 1 < W4.heap.size := HY4.out.lt
  have hxs4 : w.heap.size < W4.heap.size := HX4.out.lt
  have hts4 : W3.heap.size < W4.heap.size := HT4.out.lt
  clear hx4 hy4 ht4
  go_wp2_with (refine store_row 24 rfl _ _ rfl (w.heap.size + 1 + 1) _ _ 24 HZ4.out rfl rfl (by kernel_rfl) rfl rfl ?_)
  refine ret_row_tmp rfl (w.heap.size + 1 + 1) #[.slice none 0 0, .int .i64 0] 24 (.int .i64 7) (HZ4.out.row) rfl rfl _ Try.underlying24 rfl ?_ rfl ?_
  · kernel_rfl
  · exact retSE_bad 7 (below_row HB4.out (by omega) _)
theorem rap_key_twice (s : Rn.S) (ten txt : ByteArray) (num epoch : Int) (hen : ten.size ≤ maxLen) (htx : txt.size ≤ maxLen) (A : Option Addr) (c : Nat) (G : Nat → Prop) (w : World) (hG : ∀ b, G b → b < w.heap.size) (hl : s.tens.length ≤ 1000) (hT : TensAt G w A s.tens) (hr : Rn.right s = true) (hf : Rn.form ⟨2, ten, num, epoch, txt⟩ = true) (i : Nat) (hi : i < s.tens.length) (hat : findI s.tens ten = (i : Int)) (k : Nat) (hk : keyI s.tens[i].keys num = (k : Int)) (hn : ¬ s.tens[i].next ≤ num) :
    Calls Try.prog 12 #[.agg #[.slice (A) (s).tens.length (c), .int .i64 (s).serial], .agg #[.int .i64 2, .string ten, .int .i64 num, .int .i64 epoch, .string txt]] w (RetSE G (.bad 5) w) := by
  have HG := hid_mk hG
  have HT := hid_mk hT
  have hlm : s.tens.length ≤ maxLen := by unfold maxLen; omega
  obtain ⟨W0, hW0⟩ : ∃ W0, W0 = (((w.alloc (.cells #[.slice (A) (s).tens.length (c), .int .i64 (s).serial] 24)).alloc (.cells #[.int .i64 2, .string ten, .int .i64 num, .int .i64 epoch, .string txt] 26)).alloc (.cells #[.slice none 0 0, .int .i64 0] 24)) := ⟨_, rfl⟩
  have hb0 : Below w.heap.size w W0 := by rw [hW0]; exact (((Below.refl _ _).alloc (Nat.le_refl _) _).alloc (by simp) _).alloc (by simp; omega) _
  have hx0 : Blk W0 w.heap.size #[.slice (A) (s).tens.length (c), .int .i64 (s).serial] 24 := by rw [hW0]; exact ((Blk.new w _ _).alloc _).alloc _
  have hy0 : Blk W0 (w.heap.size + 1) #[.int .i64 2, .string ten, .int .i64 num, .int .i64 epoch, .string txt] 26 := by rw [hW0]; exact (blk_new (by simp)).alloc _
  have hz0 : Blk W0 (w.heap.size + 1 + 1) #[.slice none 0 0, .int .i64 0] 24 := by rw [hW0]; exact blk_new (by simp)
  have HB0 := hid_mk hb0
  have HX0 := hid_mk hx0
  have HY0 := hid_mk hy0
  have HZ0 := hid_mk hz0
  have HR1 := hide (fun w (hG : ∀ b, G b → b < w.heap.size) (hT : TensAt G w A s.tens) => rright38_any s A c G w hG hlm hT)
  rw [hr] at HR1
  have HKG : Hid (∀ b, G b → b < W0.heap.size) := hid_mk (fun b h => Nat.lt_of_lt_of_le (hG b h) hb0.size)
  have HTG : Hid (TensAt G W0 A s.tens) := hid_mk (tensAt_keep hT (fun b h => h) (kept_below hb0 hG))
  have HF1 := hide (fun w => rform_any ⟨2, ten, num, epoch, txt⟩ w hen)
  rw [hf] at HF1
  have hW := hid_mk hW0
  clear hG hT hb0 hx0 hy0 hz0 hW0 hr hf
  have HFD := hide (fun w (hG : ∀ b, G b → b < w.heap.size) (hT : TensAt G w A s.tens) => rfind_any s A c ten G w hG hlm hT)
  rw [hat] at HFD
  clear hat
  have HKY := hide (fun A' c' w (hG : ∀ b, G b → b < w.heap.size) (hl : s.tens[i].keys.length ≤ maxLen) (hK : KeysAt G w A' s.tens[i].keys) => rkeyI_any s.tens[i].keys A' c' num G w hG hl hK)
  rw [hk] at HKY
  clear hk
  have hd1 : decide (s.tens[i].next ≤ num) = false := decide_eq_false hn
  clear hn
  go_enter Try.func12, Try.ntmps12
  go_wp2_with fail
  rw [← hW.out]
  refine (unhide HR1 _ HKG.out HTG.out).mono ?_
  rintro e' W1 ⟨rfl, hb1⟩
  have HX1 := hid_mk (HX0.out.call hb1)
  have HY1 := hid_mk (HY0.out.call hb1)
  have HZ1 := hid_mk (HZ0.out.call hb1)
  have HB1 := hid_mk (HB0.out.trans (hb1.mono HB0.out.size))
  have HKG1 : Hid (∀ b, G b → b < W1.heap.size) := hid_mk (fun b h => Nat.lt_of_lt_of_le (HG.out b h) HB1.out.size)
  have HTG1 := hid_mk (tensAt_keep HT.out (fun b h => h) (kept_below HB1.out HG.out))
  have hx1 := HX1.out
  have hy1 := HY1.out
  have hz1 := HZ1.out
  (have x10 : W1.cell? ⟨w.heap.size, 0, none⟩ = some (.slice (A) (s).tens.length (c)) := hx1.cell 0; have x11 : W1.cell? ⟨w.heap.size, 1, none⟩ = some (.int .i64 (s).serial) := hx1.cell 1; have x1f : ∀ i, W1.frozen? ⟨w.heap.size, i, none⟩ = false := hx1.frozen)
  (have y10 : W1.cell? ⟨w.heap.size + 1, 0, none⟩ = some (.int .i64 2) := hy1.cell 0; have y11 : W1.cell? ⟨w.heap.size + 1, 1, none⟩ = some (.string ten) := hy1.cell 1; have y12 : W1.cell? ⟨w.heap.size + 1, 2, none⟩ = some (.int .i64 num) := hy1.cell 2; have y13 : W1.cell? ⟨w.heap.size + 1, 3, none⟩ = some (.int .i64 epoch) := hy1.cell 3; have y14 : W1.cell? ⟨w.heap.size + 1, 4, none⟩ = some (.string txt) := hy1.cell 4; have y1f : ∀ i, W1.frozen? ⟨w.heap.size + 1, i, none⟩ = false := hy1.frozen)
  (have z10 : W1.cell? ⟨w.heap.size + 1 + 1, 0, none⟩ = some (.slice none 0 0) := hz1.cell 0; have z11 : W1.cell? ⟨w.heap.size + 1 + 1, 1, none⟩ = some (.int .i64 0) := hz1.cell 1; have z1f : ∀ i, W1.frozen? ⟨w.heap.size + 1 + 1, i, none⟩ = false := hz1.frozen)
  have hzs1 : w.heap.size + 1 + 1 < W1.heap.size := HZ1.out.lt
  have hys1 : w.heap.size + 1 < W1.heap.size := HY1.out.lt
  have hxs1 : w.heap.size < W1.heap.size := HX1.out.lt
  clear hb1 hx1 hy1 hz1
  go_wp2_with fail
  refine (unhide HF1 _).mono ?_
  rintro e' W2 ⟨rfl, hb2⟩
  have HX2 := hid_mk (HX1.out.call hb2)
  have HY2 := hid_mk (HY1.out.call hb2)
  have HZ2 := hid_mk (HZ1.out.call hb2)
  have HB2 := hid_mk (HB1.out.trans (hb2.mono HB1.out.size))
  have HKG2 : Hid (∀ b, G b → b < W2.heap.size) := hid_mk (fun b h => Nat.lt_of_lt_of_le (HG.out b h) HB2.out.size)
  have HTG2 := hid_mk (tensAt_keep HT.out (fun b h => h) (kept_below HB2.out HG.out))
  have hx2 := HX2.out
  have hy2 := HY2.out
  have hz2 := HZ2.out
  (have x20 : W2.cell? ⟨w.heap.size, 0, none⟩ = some (.slice (A) (s).tens.length (c)) := hx2.cell 0; have x21 : W2.cell? ⟨w.heap.size, 1, none⟩ = some (.int .i64 (s).serial) := hx2.cell 1; have x2f : ∀ i, W2.frozen? ⟨w.heap.size, i, none⟩ = false := hx2.frozen)
  (have y20 : W2.cell? ⟨w.heap.size + 1, 0, none⟩ = some (.int .i64 2) := hy2.cell 0; have y21 : W2.cell? ⟨w.heap.size + 1, 1, none⟩ = some (.string ten) := hy2.cell 1; have y22 : W2.cell? ⟨w.heap.size + 1, 2, none⟩ = some (.int .i64 num) := hy2.cell 2; have y23 : W2.cell? ⟨w.heap.size + 1, 3, none⟩ = some (.int .i64 epoch) := hy2.cell 3; have y24 : W2.cell? ⟨w.heap.size + 1, 4, none⟩ = some (.string txt) := hy2.cell 4; have y2f : ∀ i, W2.frozen? ⟨w.heap.size + 1, i, none⟩ = false := hy2.frozen)
  (have z20 : W2.cell? ⟨w.heap.size + 1 + 1, 0, none⟩ = some (.slice none 0 0) := hz2.cell 0; have z21 : W2.cell? ⟨w.heap.size + 1 + 1, 1, none⟩ = some (.int .i64 0) := hz2.cell 1; have z2f : ∀ i, W2.frozen? ⟨w.heap.size + 1 + 1, i, none⟩ = false := hz2.frozen)
  have hzs2 : w.heap.size + 1 + 1 < W2.heap.size := HZ2.out.lt
  have hys2 : w.heap.size + 1 < W2.heap.size := HY2.out.lt
  have hxs2 : w.heap.size < W2.heap.size := HX2.out.lt
  clear hb2 hx2 hy2 hz2
  go_wp2_with fail
  refine (unhide HFD _ HKG2.out HTG2.out).mono ?_
  rintro e' W3 ⟨rfl, hb3⟩
  have HX3 := hid_mk (HX2.out.call hb3)
  have HY3 := hid_mk (HY2.out.call hb3)
  have HZ3 := hid_mk (HZ2.out.call hb3)
  have HB3 := hid_mk (HB2.out.trans (hb3.mono HB2.out.size))
  have HKG3 : Hid (∀ b, G b → b < W3.heap.size) := hid_mk (fun b h => Nat.lt_of_lt_of_le (HG.out b h) HB3.out.size)
  have HTG3 := hid_mk (tensAt_keep HT.out (fun b h => h) (kept_below HB3.out HG.out))
  have hx3 := HX3.out
  have hy3 := HY3.out
  have hz3 := HZ3.out
  (have x30 : W3.cell? ⟨w.heap.size, 0, none⟩ = some (.slice (A) (s).tens.length (c)) := hx3.cell 0; have x31 : W3.cell? ⟨w.heap.size, 1, none⟩ = some (.int .i64 (s).serial) := hx3.cell 1; have x3f : ∀ i, W3.frozen? ⟨w.heap.size, i, none⟩ = false := hx3.frozen)
  (have y30 : W3.cell? ⟨w.heap.size + 1, 0, none⟩ = some (.int .i64 2) := hy3.cell 0; have y31 : W3.cell? ⟨w.heap.size + 1, 1, none⟩ = some (.string ten) := hy3.cell 1; have y32 : W3.cell? ⟨w.heap.size + 1, 2, none⟩ = some (.int .i64 num) := hy3.cell 2; have y33 : W3.cell? ⟨w.heap.size + 1, 3, none⟩ = some (.int .i64 epoch) := hy3.cell 3; have y34 : W3.cell? ⟨w.heap.size + 1, 4, none⟩ = some (.string txt) := hy3.cell 4; have y3f : ∀ i, W3.frozen? ⟨w.heap.size + 1, i, none⟩ = false := hy3.frozen)
  (have z30 : W3.cell? ⟨w.heap.size + 1 + 1, 0, none⟩ = some (.slice none 0 0) := hz3.cell 0; have z31 : W3.cell? ⟨w.heap.size + 1 + 1, 1, none⟩ = some (.int .i64 0) := hz3.cell 1; have z3f : ∀ i, W3.frozen? ⟨w.heap.size + 1 + 1, i, none⟩ = false := hz3.frozen)
  have hzs3 : w.heap.size + 1 + 1 < W3.heap.size := HZ3.out.lt
  have hys3 : w.heap.size + 1 < W3.heap.size := HY3.out.lt
  have hxs3 : w.heap.size < W3.heap.size := HX3.out.lt
  clear hb3 hx3 hy3 hz3
  have hk3 := HTG3.out
  obtain ⟨b, o, A', c', e1, hg1, hft, hsl, hsn, hks, q0, q1, q2, q3⟩ := tens_at hk3 hi
  have hbw : b < w.heap.size := HG.out b hg1
  have hbw3 : b < W3.heap.size := HKG3.out b hg1
  have hii : (i : Int) < (s.tens.length : Int) := by omega
  have hi0 : ¬ ((i : Int) < 0) := by omega
  subst e1
  have HKS := hid_mk hks
  have HFT := hid_mk hft
  have HSL := hid_mk hsl
  have HSN := hid_mk hsn
  clear hk3 hks hft hsl hsn hlm
  generalize hti : s.tens[i] = t at *
  have HTI := hid_mk hti
  clear hti
  obtain ⟨W4, hW4⟩ : ∃ W4, W4 = W3.alloc (.cells #[.string (t).name, .int .i64 (t).epoch, .int .i64 (t).next, .slice (A') (t).keys.length (c')] 38) := ⟨_, rfl⟩
  have hb4 : Below W3.heap.size W3 W4 := by rw [hW4]; exact (Below.refl _ _).alloc (Nat.le_refl _) _
  have HX4 := hid_mk (HX3.out.call hb4)
  have HY4 := hid_mk (HY3.out.call hb4)
  have HZ4 := hid_mk (HZ3.out.call hb4)
  have HT4 : Hid (Blk W4 W3.heap.size #[.string (t).name, .int .i64 (t).epoch, .int .i64 (t).next, .slice (A') (t).keys.length (c')] 38) := hid_mk (by rw [hW4]; exact Blk.new W3 _ _)
  have HB4 := hid_mk (HB3.out.trans (hb4.mono HB3.out.size))
  have HKG4 : Hid (∀ b, G b → b < W4.heap.size) := hid_mk (fun b h => Nat.lt_of_lt_of_le (HG.out b h) HB4.out.size)
  have HTG4 := hid_mk (tensAt_keep HT.out (fun b h => h) (kept_below HB4.out HG.out))
  have hzs4 : W4.heap.size = W3.heap.size + 1 := by rw [hW4]; simp
  have HS4 := hid_mk hzs4
  have HBL4 := hid_mk hb4
  have HW4 := hid_mk hW4
  clear hb4 hzs4 hW4
  have HKS4 := hid_mk (keysAt_keep HKS.out (fun b h => h) (kept_below HBL4.out HKG3.out))
  go_wp2_with fail
  rw [← HW4.out]
  refine (unhide HKY A' c' W4 HKG4.out HSL.out HKS4.out).mono ?_
  rintro e' W5 ⟨rfl, rfl⟩
  have hx4 := HX4.out
  have hy4 := HY4.out
  have ht4 := HT4.out
  (have x40 : W4.cell? ⟨w.heap.size, 0, none⟩ = some (.slice ((some ⟨b, o, none⟩)) (s).tens.length (c)) := hx4.cell 0; have x41 : W4.cell? ⟨w.heap.size, 1, none⟩ = some (.int .i64 (s).serial) := hx4.cell 1; have x4f : ∀ i, W4.frozen? ⟨w.heap.size, i, none⟩ = false := hx4.frozen)
  (have y40 : W4.cell? ⟨w.heap.size + 1, 0, none⟩ = some (.int .i64 2) := hy4.cell 0; have y41 : W4.cell? ⟨w.heap.size + 1, 1, none⟩ = some (.string ten) := hy4.cell 1; have y42 : W4.cell? ⟨w.heap.size + 1, 2, none⟩ = some (.int .i64 num) := hy4.cell 2; have y43 : W4.cell? ⟨w.heap.size + 1, 3, none⟩ = some (.int .i64 epoch) := hy4.cell 3; have y44 : W4.cell? ⟨w.heap.size + 1, 4, none⟩ = some (.string txt) := hy4.cell 4; have y4f : ∀ i, W4.frozen? ⟨w.heap.size + 1, i, none⟩ = false := hy4.frozen)
  (have t40 : W4.cell? ⟨W3.heap.size, 0, none⟩ = some (.string (t).name) := ht4.cell 0; have t41 : W4.cell? ⟨W3.heap.size, 1, none⟩ = some (.int .i64 (t).epoch) := ht4.cell 1; have t42 : W4.cell? ⟨W3.heap.size, 2, none⟩ = some (.int .i64 (t).next) := ht4.cell 2; have t43 : W4.cell? ⟨W3.heap.size, 3, none⟩ = some (.slice (A') (t).keys.length (c')) := ht4.cell 3; have t4f : ∀ i, W4.frozen? ⟨W3.heap.size, i, none⟩ = false := ht4.frozen)
  have hzs4 : w.heap.size + 1 + 1 < W4.heap.size := HZ4.out.lt
  have hys4 : w.heap.size + 1 < W4.heap.size := HY4.out.lt
  have hxs4 : w.heap.size < W4.heap.size := HX4.out.lt
  have hts4 : W3.heap.size < W4.heap.size := HT4.out.lt
  clear hx4 hy4 ht4
  go_wp2_with (refine store_row 24 rfl _ _ rfl (w.heap.size + 1 + 1) _ _ 24 HZ4.out rfl rfl (by kernel_rfl) rfl rfl ?_)
  refine ret_row_tmp rfl (w.heap.size + 1 + 1) #[.slice none 0 0, .int .i64 0] 24 (.int .i64 5) (HZ4.out.row) rfl rfl _ Try.underlying24 rfl ?_ rfl ?_
  · kernel_rfl
  · exact retSE_bad 5 (below_row HB4.out (by omega) _)
theorem rap_key_limit (s : Rn.S) (ten txt : ByteArray) (num epoch : Int) (hen : ten.size ≤ maxLen) (htx : txt.size ≤ maxLen) (A : Option Addr) (c : Nat) (G : Nat → Prop) (w : World) (hG : ∀ b, G b → b < w.heap.size) (hl : s.tens.length ≤ 1000) (hT : TensAt G w A s.tens) (hr : Rn.right s = true) (hf : Rn.form ⟨2, ten, num, epoch, txt⟩ = true) (i : Nat) (hi : i < s.tens.length) (hat : findI s.tens ten = (i : Int)) (hk : keyI s.tens[i].keys num = -1) (hn : ¬ s.tens[i].next ≤ num) (h8 : s.tens[i].keys.length = 8) :
    Calls Try.prog 12 #[.agg #[.slice (A) (s).tens.length (c), .int .i64 (s).serial], .agg #[.int .i64 2, .string ten, .int .i64 num, .int .i64 epoch, .string txt]] w (RetSE G (.bad 3) w) := by
  have HG := hid_mk hG
  have HT := hid_mk hT
  have hlm : s.tens.length ≤ maxLen := by unfold maxLen; omega
  obtain ⟨W0, hW0⟩ : ∃ W0, W0 = (((w.alloc (.cells #[.slice (A) (s).tens.length (c), .int .i64 (s).serial] 24)).alloc (.cells #[.int .i64 2, .string ten, .int .i64 num, .int .i64 epoch, .string txt] 26)).alloc (.cells #[.slice none 0 0, .int .i64 0] 24)) := ⟨_, rfl⟩
  have hb0 : Below w.heap.size w W0 := by rw [hW0]; exact (((Below.refl _ _).alloc (Nat.le_refl _) _).alloc (by simp) _).alloc (by simp; omega) _
  have hx0 : Blk W0 w.heap.size #[.slice (A) (s).tens.length (c), .int .i64 (s).serial] 24 := by rw [hW0]; exact ((Blk.new w _ _).alloc _).alloc _
  have hy0 : Blk W0 (w.heap.size + 1) #[.int .i64 2, .string ten, .int .i64 num, .int .i64 epoch, .string txt] 26 := by rw [hW0]; exact (blk_new (by simp)).alloc _
  have hz0 : Blk W0 (w.heap.size + 1 + 1) #[.slice none 0 0, .int .i64 0] 24 := by rw [hW0]; exact blk_new (by simp)
  have HB0 := hid_mk hb0
  have HX0 := hid_mk hx0
  have HY0 := hid_mk hy0
  have HZ0 := hid_mk hz0
  have HR1 := hide (fun w (hG : ∀ b, G b → b < w.heap.size) (hT : TensAt G w A s.tens) => rright38_any s A c G w hG hlm hT)
  rw [hr] at HR1
  have HKG : Hid (∀ b, G b → b < W0.heap.size) := hid_mk (fun b h => Nat.lt_of_lt_of_le (hG b h) hb0.size)
  have HTG : Hid (TensAt G W0 A s.tens) := hid_mk (tensAt_keep hT (fun b h => h) (kept_below hb0 hG))
  have HF1 := hide (fun w => rform_any ⟨2, ten, num, epoch, txt⟩ w hen)
  rw [hf] at HF1
  have hW := hid_mk hW0
  clear hG hT hb0 hx0 hy0 hz0 hW0 hr hf
  have HFD := hide (fun w (hG : ∀ b, G b → b < w.heap.size) (hT : TensAt G w A s.tens) => rfind_any s A c ten G w hG hlm hT)
  rw [hat] at HFD
  clear hat
  have HKY := hide (fun A' c' w (hG : ∀ b, G b → b < w.heap.size) (hl : s.tens[i].keys.length ≤ maxLen) (hK : KeysAt G w A' s.tens[i].keys) => rkeyI_any s.tens[i].keys A' c' num G w hG hl hK)
  rw [hk] at HKY
  clear hk
  have hd1 : decide (s.tens[i].next ≤ num) = false := decide_eq_false hn
  clear hn
  have hf8 : ((s.tens[i].keys.length : Int) == 8) = true := by rw [h8]; rfl
  clear h8
  go_enter Try.func12, Try.ntmps12
  go_wp2_with fail
  rw [← hW.out]
  refine (unhide HR1 _ HKG.out HTG.out).mono ?_
  rintro e' W1 ⟨rfl, hb1⟩
  have HX1 := hid_mk (HX0.out.call hb1)
  have HY1 := hid_mk (HY0.out.call hb1)
  have HZ1 := hid_mk (HZ0.out.call hb1)
  have HB1 := hid_mk (HB0.out.trans (hb1.mono HB0.out.size))
  have HKG1 : Hid (∀ b, G b → b < W1.heap.size) := hid_mk (fun b h => Nat.lt_of_lt_of_le (HG.out b h) HB1.out.size)
  have HTG1 := hid_mk (tensAt_keep HT.out (fun b h => h) (kept_below HB1.out HG.out))
  have hx1 := HX1.out
  have hy1 := HY1.out
  have hz1 := HZ1.out
  (have x10 : W1.cell? ⟨w.heap.size, 0, none⟩ = some (.slice (A) (s).tens.length (c)) := hx1.cell 0; have x11 : W1.cell? ⟨w.heap.size, 1, none⟩ = some (.int .i64 (s).serial) := hx1.cell 1; have x1f : ∀ i, W1.frozen? ⟨w.heap.size, i, none⟩ = false := hx1.frozen)
  (have y10 : W1.cell? ⟨w.heap.size + 1, 0, none⟩ = some (.int .i64 2) := hy1.cell 0; have y11 : W1.cell? ⟨w.heap.size + 1, 1, none⟩ = some (.string ten) := hy1.cell 1; have y12 : W1.cell? ⟨w.heap.size + 1, 2, none⟩ = some (.int .i64 num) := hy1.cell 2; have y13 : W1.cell? ⟨w.heap.size + 1, 3, none⟩ = some (.int .i64 epoch) := hy1.cell 3; have y14 : W1.cell? ⟨w.heap.size + 1, 4, none⟩ = some (.string txt) := hy1.cell 4; have y1f : ∀ i, W1.frozen? ⟨w.heap.size + 1, i, none⟩ = false := hy1.frozen)
  (have z10 : W1.cell? ⟨w.heap.size + 1 + 1, 0, none⟩ = some (.slice none 0 0) := hz1.cell 0; have z11 : W1.cell? ⟨w.heap.size + 1 + 1, 1, none⟩ = some (.int .i64 0) := hz1.cell 1; have z1f : ∀ i, W1.frozen? ⟨w.heap.size + 1 + 1, i, none⟩ = false := hz1.frozen)
  have hzs1 : w.heap.size + 1 + 1 < W1.heap.size := HZ1.out.lt
  have hys1 : w.heap.size + 1 < W1.heap.size := HY1.out.lt
  have hxs1 : w.heap.size < W1.heap.size := HX1.out.lt
  clear hb1 hx1 hy1 hz1
  go_wp2_with fail
  refine (unhide HF1 _).mono ?_
  rintro e' W2 ⟨rfl, hb2⟩
  have HX2 := hid_mk (HX1.out.call hb2)
  have HY2 := hid_mk (HY1.out.call hb2)
  have HZ2 := hid_mk (HZ1.out.call hb2)
  have HB2 := hid_mk (HB1.out.trans (hb2.mono HB1.out.size))
  have HKG2 : Hid (∀ b, G b → b < W2.heap.size) := hid_mk (fun b h => Nat.lt_of_lt_of_le (HG.out b h) HB2.out.size)
  have HTG2 := hid_mk (tensAt_keep HT.out (fun b h => h) (kept_below HB2.out HG.out))
  have hx2 := HX2.out
  have hy2 := HY2.out
  have hz2 := HZ2.out
  (have x20 : W2.cell? ⟨w.heap.size, 0, none⟩ = some (.slice (A) (s).tens.length (c)) := hx2.cell 0; have x21 : W2.cell? ⟨w.heap.size, 1, none⟩ = some (.int .i64 (s).serial) := hx2.cell 1; have x2f : ∀ i, W2.frozen? ⟨w.heap.size, i, none⟩ = false := hx2.frozen)
  (have y20 : W2.cell? ⟨w.heap.size + 1, 0, none⟩ = some (.int .i64 2) := hy2.cell 0; have y21 : W2.cell? ⟨w.heap.size + 1, 1, none⟩ = some (.string ten) := hy2.cell 1; have y22 : W2.cell? ⟨w.heap.size + 1, 2, none⟩ = some (.int .i64 num) := hy2.cell 2; have y23 : W2.cell? ⟨w.heap.size + 1, 3, none⟩ = some (.int .i64 epoch) := hy2.cell 3; have y24 : W2.cell? ⟨w.heap.size + 1, 4, none⟩ = some (.string txt) := hy2.cell 4; have y2f : ∀ i, W2.frozen? ⟨w.heap.size + 1, i, none⟩ = false := hy2.frozen)
  (have z20 : W2.cell? ⟨w.heap.size + 1 + 1, 0, none⟩ = some (.slice none 0 0) := hz2.cell 0; have z21 : W2.cell? ⟨w.heap.size + 1 + 1, 1, none⟩ = some (.int .i64 0) := hz2.cell 1; have z2f : ∀ i, W2.frozen? ⟨w.heap.size + 1 + 1, i, none⟩ = false := hz2.frozen)
  have hzs2 : w.heap.size + 1 + 1 < W2.heap.size := HZ2.out.lt
  have hys2 : w.heap.size + 1 < W2.heap.size := HY2.out.lt
  have hxs2 : w.heap.size < W2.heap.size := HX2.out.lt
  clear hb2 hx2 hy2 hz2
  go_wp2_with fail
  refine (unhide HFD _ HKG2.out HTG2.out).mono ?_
  rintro e' W3 ⟨rfl, hb3⟩
  have HX3 := hid_mk (HX2.out.call hb3)
  have HY3 := hid_mk (HY2.out.call hb3)
  have HZ3 := hid_mk (HZ2.out.call hb3)
  have HB3 := hid_mk (HB2.out.trans (hb3.mono HB2.out.size))
  have HKG3 : Hid (∀ b, G b → b < W3.heap.size) := hid_mk (fun b h => Nat.lt_of_lt_of_le (HG.out b h) HB3.out.size)
  have HTG3 := hid_mk (tensAt_keep HT.out (fun b h => h) (kept_below HB3.out HG.out))
  have hx3 := HX3.out
  have hy3 := HY3.out
  have hz3 := HZ3.out
  (have x30 : W3.cell? ⟨w.heap.size, 0, none⟩ = some (.slice (A) (s).tens.length (c)) := hx3.cell 0; have x31 : W3.cell? ⟨w.heap.size, 1, none⟩ = some (.int .i64 (s).serial) := hx3.cell 1; have x3f : ∀ i, W3.frozen? ⟨w.heap.size, i, none⟩ = false := hx3.frozen)
  (have y30 : W3.cell? ⟨w.heap.size + 1, 0, none⟩ = some (.int .i64 2) := hy3.cell 0; have y31 : W3.cell? ⟨w.heap.size + 1, 1, none⟩ = some (.string ten) := hy3.cell 1; have y32 : W3.cell? ⟨w.heap.size + 1, 2, none⟩ = some (.int .i64 num) := hy3.cell 2; have y33 : W3.cell? ⟨w.heap.size + 1, 3, none⟩ = some (.int .i64 epoch) := hy3.cell 3; have y34 : W3.cell? ⟨w.heap.size + 1, 4, none⟩ = some (.string txt) := hy3.cell 4; have y3f : ∀ i, W3.frozen? ⟨w.heap.size + 1, i, none⟩ = false := hy3.frozen)
  (have z30 : W3.cell? ⟨w.heap.size + 1 + 1, 0, none⟩ = some (.slice none 0 0) := hz3.cell 0; have z31 : W3.cell? ⟨w.heap.size + 1 + 1, 1, none⟩ = some (.int .i64 0) := hz3.cell 1; have z3f : ∀ i, W3.frozen? ⟨w.heap.size + 1 + 1, i, none⟩ = false := hz3.frozen)
  have hzs3 : w.heap.size + 1 + 1 < W3.heap.size := HZ3.out.lt
  have hys3 : w.heap.size + 1 < W3.heap.size := HY3.out.lt
  have hxs3 : w.heap.size < W3.heap.size := HX3.out.lt
  clear hb3 hx3 hy3 hz3
  have hk3 := HTG3.out
  obtain ⟨b, o, A', c', e1, hg1, hft, hsl, hsn, hks, q0, q1, q2, q3⟩ := tens_at hk3 hi
  have hbw : b < w.heap.size := HG.out b hg1
  have hbw3 : b < W3.heap.size := HKG3.out b hg1
  have hii : (i : Int) < (s.tens.length : Int) := by omega
  have hi0 : ¬ ((i : Int) < 0) := by omega
  subst e1
  have HKS := hid_mk hks
  have HFT := hid_mk hft
  have HSL := hid_mk hsl
  have HSN := hid_mk hsn
  clear hk3 hks hft hsl hsn hlm
  generalize hti : s.tens[i] = t at *
  have HTI := hid_mk hti
  clear hti
  obtain ⟨W4, hW4⟩ : ∃ W4, W4 = W3.alloc (.cells #[.string (t).name, .int .i64 (t).epoch, .int .i64 (t).next, .slice (A') (t).keys.length (c')] 38) := ⟨_, rfl⟩
  have hb4 : Below W3.heap.size W3 W4 := by rw [hW4]; exact (Below.refl _ _).alloc (Nat.le_refl _) _
  have HX4 := hid_mk (HX3.out.call hb4)
  have HY4 := hid_mk (HY3.out.call hb4)
  have HZ4 := hid_mk (HZ3.out.call hb4)
  have HT4 : Hid (Blk W4 W3.heap.size #[.string (t).name, .int .i64 (t).epoch, .int .i64 (t).next, .slice (A') (t).keys.length (c')] 38) := hid_mk (by rw [hW4]; exact Blk.new W3 _ _)
  have HB4 := hid_mk (HB3.out.trans (hb4.mono HB3.out.size))
  have HKG4 : Hid (∀ b, G b → b < W4.heap.size) := hid_mk (fun b h => Nat.lt_of_lt_of_le (HG.out b h) HB4.out.size)
  have HTG4 := hid_mk (tensAt_keep HT.out (fun b h => h) (kept_below HB4.out HG.out))
  have hzs4 : W4.heap.size = W3.heap.size + 1 := by rw [hW4]; simp
  have HS4 := hid_mk hzs4
  have HBL4 := hid_mk hb4
  have HW4 := hid_mk hW4
  clear hb4 hzs4 hW4
  have HKS4 := hid_mk (keysAt_keep HKS.out (fun b h => h) (kept_below HBL4.out HKG3.out))
  go_wp2_with fail
  rw [← HW4.out]
  refine (unhide HKY A' c' W4 HKG4.out HSL.out HKS4.out).mono ?_
  rintro e' W5 ⟨rfl, rfl⟩
  have hx4 := HX4.out
  have hy4 := HY4.out
  have ht4 := HT4.out
  (have x40 : W4.cell? ⟨w.heap.size, 0, none⟩ = some (.slice ((some ⟨b, o, none⟩)) (s).tens.length (c)) := hx4.cell 0; have x41 : W4.cell? ⟨w.heap.size, 1, none⟩ = some (.int .i64 (s).serial) := hx4.cell 1; have x4f : ∀ i, W4.frozen? ⟨w.heap.size, i, none⟩ = false := hx4.frozen)
  (have y40 : W4.cell? ⟨w.heap.size + 1, 0, none⟩ = some (.int .i64 2) := hy4.cell 0; have y41 : W4.cell? ⟨w.heap.size + 1, 1, none⟩ = some (.string ten) := hy4.cell 1; have y42 : W4.cell? ⟨w.heap.size + 1, 2, none⟩ = some (.int .i64 num) := hy4.cell 2; have y43 : W4.cell? ⟨w.heap.size + 1, 3, none⟩ = some (.int .i64 epoch) := hy4.cell 3; have y44 : W4.cell? ⟨w.heap.size + 1, 4, none⟩ = some (.string txt) := hy4.cell 4; have y4f : ∀ i, W4.frozen? ⟨w.heap.size + 1, i, none⟩ = false := hy4.frozen)
  (have t40 : W4.cell? ⟨W3.heap.size, 0, none⟩ = some (.string (t).name) := ht4.cell 0; have t41 : W4.cell? ⟨W3.heap.size, 1, none⟩ = some (.int .i64 (t).epoch) := ht4.cell 1; have t42 : W4.cell? ⟨W3.heap.size, 2, none⟩ = some (.int .i64 (t).next) := ht4.cell 2; have t43 : W4.cell? ⟨W3.heap.size, 3, none⟩ = some (.slice (A') (t).keys.length (c')) := ht4.cell 3; have t4f : ∀ i, W4.frozen? ⟨W3.heap.size, i, none⟩ = false := ht4.frozen)
  have hzs4 : w.heap.size + 1 + 1 < W4.heap.size := HZ4.out.lt
  have hys4 : w.heap.size + 1 < W4.heap.size := HY4.out.lt
  have hxs4 : w.heap.size < W4.heap.size := HX4.out.lt
  have hts4 : W3.heap.size < W4.heap.size := HT4.out.lt
  clear hx4 hy4 ht4
  go_wp2_with (refine store_row 24 rfl _ _ rfl (w.heap.size + 1 + 1) _ _ 24 HZ4.out rfl rfl (by kernel_rfl) rfl rfl ?_)
  refine ret_row_tmp rfl (w.heap.size + 1 + 1) #[.slice none 0 0, .int .i64 0] 24 (.int .i64 3) (HZ4.out.row) rfl rfl _ Try.underlying24 rfl ?_ rfl ?_
  · kernel_rfl
  · exact retSE_bad 3 (below_row HB4.out (by omega) _)
theorem rap_key_ok (s : Rn.S) (ten txt : ByteArray) (num epoch : Int) (hen : ten.size ≤ maxLen) (htx : txt.size ≤ maxLen) (A : Option Addr) (c : Nat) (G : Nat → Prop) (w : World) (hG : ∀ b, G b → b < w.heap.size) (hl : s.tens.length ≤ 1000) (hT : TensAt G w A s.tens) (hr : Rn.right s = true) (hf : Rn.form ⟨2, ten, num, epoch, txt⟩ = true) (i : Nat) (hi : i < s.tens.length) (hat : findI s.tens ten = (i : Int)) (hk : keyI s.tens[i].keys num = -1) (hn : ¬ s.tens[i].next ≤ num) (h8 : ¬ s.tens[i].keys.length = 8) (hkl : s.tens[i].keys.length ≤ 1000) (hkx : ∀ x ∈ s.tens[i].keys, x.txt.size ≤ maxLen) :
    Calls Try.prog 12 #[.agg #[.slice (A) (s).tens.length (c), .int .i64 (s).serial], .agg #[.int .i64 2, .string ten, .int .i64 num, .int .i64 epoch, .string txt]] w (RetSE G (.ok ⟨Rn.putT s.tens ⟨s.tens[i].name, s.tens[i].epoch, s.tens[i].next, Rn.withK s.tens[i].keys ⟨num, txt⟩⟩, s.serial⟩) w) := by
  have HG := hid_mk hG
  have HT := hid_mk hT
  have hlm : s.tens.length ≤ maxLen := by unfold maxLen; omega
  obtain ⟨W0, hW0⟩ : ∃ W0, W0 = (((w.alloc (.cells #[.slice (A) (s).tens.length (c), .int .i64 (s).serial] 24)).alloc (.cells #[.int .i64 2, .string ten, .int .i64 num, .int .i64 epoch, .string txt] 26)).alloc (.cells #[.slice none 0 0, .int .i64 0] 24)) := ⟨_, rfl⟩
  have hb0 : Below w.heap.size w W0 := by rw [hW0]; exact (((Below.refl _ _).alloc (Nat.le_refl _) _).alloc (by simp) _).alloc (by simp; omega) _
  have hx0 : Blk W0 w.heap.size #[.slice (A) (s).tens.length (c), .int .i64 (s).serial] 24 := by rw [hW0]; exact ((Blk.new w _ _).alloc _).alloc _
  have hy0 : Blk W0 (w.heap.size + 1) #[.int .i64 2, .string ten, .int .i64 num, .int .i64 epoch, .string txt] 26 := by rw [hW0]; exact (blk_new (by simp)).alloc _
  have hz0 : Blk W0 (w.heap.size + 1 + 1) #[.slice none 0 0, .int .i64 0] 24 := by rw [hW0]; exact blk_new (by simp)
  have HB0 := hid_mk hb0
  have HX0 := hid_mk hx0
  have HY0 := hid_mk hy0
  have HZ0 := hid_mk hz0
  have HR1 := hide (fun w (hG : ∀ b, G b → b < w.heap.size) (hT : TensAt G w A s.tens) => rright38_any s A c G w hG hlm hT)
  rw [hr] at HR1
  have HKG : Hid (∀ b, G b → b < W0.heap.size) := hid_mk (fun b h => Nat.lt_of_lt_of_le (hG b h) hb0.size)
  have HTG : Hid (TensAt G W0 A s.tens) := hid_mk (tensAt_keep hT (fun b h => h) (kept_below hb0 hG))
  have HF1 := hide (fun w => rform_any ⟨2, ten, num, epoch, txt⟩ w hen)
  rw [hf] at HF1
  have hW := hid_mk hW0
  clear hG hT hb0 hx0 hy0 hz0 hW0 hr hf
  have HFD := hide (fun w (hG : ∀ b, G b → b < w.heap.size) (hT : TensAt G w A s.tens) => rfind_any s A c ten G w hG hlm hT)
  rw [hat] at HFD
  clear hat
  have HKY := hide (fun A' c' w (hG : ∀ b, G b → b < w.heap.size) (hl : s.tens[i].keys.length ≤ maxLen) (hK : KeysAt G w A' s.tens[i].keys) => rkeyI_any s.tens[i].keys A' c' num G w hG hl hK)
  rw [hk] at HKY
  clear hk
  have hd1 : decide (s.tens[i].next ≤ num) = false := decide_eq_false hn
  clear hn
  have hf8 : ((s.tens[i].keys.length : Int) == 8) = false := by rw [beq_eq_false_iff_ne]; omega
  clear h8
  have HKX := hid_mk hkx
  clear hkx
  go_enter Try.func12, Try.ntmps12
  go_wp2_with fail
  rw [← hW.out]
  refine (unhide HR1 _ HKG.out HTG.out).mono ?_
  rintro e' W1 ⟨rfl, hb1⟩
  have HX1 := hid_mk (HX0.out.call hb1)
  have HY1 := hid_mk (HY0.out.call hb1)
  have HZ1 := hid_mk (HZ0.out.call hb1)
  have HB1 := hid_mk (HB0.out.trans (hb1.mono HB0.out.size))
  have HKG1 : Hid (∀ b, G b → b < W1.heap.size) := hid_mk (fun b h => Nat.lt_of_lt_of_le (HG.out b h) HB1.out.size)
  have HTG1 := hid_mk (tensAt_keep HT.out (fun b h => h) (kept_below HB1.out HG.out))
  have hx1 := HX1.out
  have hy1 := HY1.out
  have hz1 := HZ1.out
  (have x10 : W1.cell? ⟨w.heap.size, 0, none⟩ = some (.slice (A) (s).tens.length (c)) := hx1.cell 0; have x11 : W1.cell? ⟨w.heap.size, 1, none⟩ = some (.int .i64 (s).serial) := hx1.cell 1; have x1f : ∀ i, W1.frozen? ⟨w.heap.size, i, none⟩ = false := hx1.frozen)
  (have y10 : W1.cell? ⟨w.heap.size + 1, 0, none⟩ = some (.int .i64 2) := hy1.cell 0; have y11 : W1.cell? ⟨w.heap.size + 1, 1, none⟩ = some (.string ten) := hy1.cell 1; have y12 : W1.cell? ⟨w.heap.size + 1, 2, none⟩ = some (.int .i64 num) := hy1.cell 2; have y13 : W1.cell? ⟨w.heap.size + 1, 3, none⟩ = some (.int .i64 epoch) := hy1.cell 3; have y14 : W1.cell? ⟨w.heap.size + 1, 4, none⟩ = some (.string txt) := hy1.cell 4; have y1f : ∀ i, W1.frozen? ⟨w.heap.size + 1, i, none⟩ = false := hy1.frozen)
  (have z10 : W1.cell? ⟨w.heap.size + 1 + 1, 0, none⟩ = some (.slice none 0 0) := hz1.cell 0; have z11 : W1.cell? ⟨w.heap.size + 1 + 1, 1, none⟩ = some (.int .i64 0) := hz1.cell 1; have z1f : ∀ i, W1.frozen? ⟨w.heap.size + 1 + 1, i, none⟩ = false := hz1.frozen)
  have hzs1 : w.heap.size + 1 + 1 < W1.heap.size := HZ1.out.lt
  have hys1 : w.heap.size + 1 < W1.heap.size := HY1.out.lt
  have hxs1 : w.heap.size < W1.heap.size := HX1.out.lt
  clear hb1 hx1 hy1 hz1
  go_wp2_with fail
  refine (unhide HF1 _).mono ?_
  rintro e' W2 ⟨rfl, hb2⟩
  have HX2 := hid_mk (HX1.out.call hb2)
  have HY2 := hid_mk (HY1.out.call hb2)
  have HZ2 := hid_mk (HZ1.out.call hb2)
  have HB2 := hid_mk (HB1.out.trans (hb2.mono HB1.out.size))
  have HKG2 : Hid (∀ b, G b → b < W2.heap.size) := hid_mk (fun b h => Nat.lt_of_lt_of_le (HG.out b h) HB2.out.size)
  have HTG2 := hid_mk (tensAt_keep HT.out (fun b h => h) (kept_below HB2.out HG.out))
  have hx2 := HX2.out
  have hy2 := HY2.out
  have hz2 := HZ2.out
  (have x20 : W2.cell? ⟨w.heap.size, 0, none⟩ = some (.slice (A) (s).tens.length (c)) := hx2.cell 0; have x21 : W2.cell? ⟨w.heap.size, 1, none⟩ = some (.int .i64 (s).serial) := hx2.cell 1; have x2f : ∀ i, W2.frozen? ⟨w.heap.size, i, none⟩ = false := hx2.frozen)
  (have y20 : W2.cell? ⟨w.heap.size + 1, 0, none⟩ = some (.int .i64 2) := hy2.cell 0; have y21 : W2.cell? ⟨w.heap.size + 1, 1, none⟩ = some (.string ten) := hy2.cell 1; have y22 : W2.cell? ⟨w.heap.size + 1, 2, none⟩ = some (.int .i64 num) := hy2.cell 2; have y23 : W2.cell? ⟨w.heap.size + 1, 3, none⟩ = some (.int .i64 epoch) := hy2.cell 3; have y24 : W2.cell? ⟨w.heap.size + 1, 4, none⟩ = some (.string txt) := hy2.cell 4; have y2f : ∀ i, W2.frozen? ⟨w.heap.size + 1, i, none⟩ = false := hy2.frozen)
  (have z20 : W2.cell? ⟨w.heap.size + 1 + 1, 0, none⟩ = some (.slice none 0 0) := hz2.cell 0; have z21 : W2.cell? ⟨w.heap.size + 1 + 1, 1, none⟩ = some (.int .i64 0) := hz2.cell 1; have z2f : ∀ i, W2.frozen? ⟨w.heap.size + 1 + 1, i, none⟩ = false := hz2.frozen)
  have hzs2 : w.heap.size + 1 + 1 < W2.heap.size := HZ2.out.lt
  have hys2 : w.heap.size + 1 < W2.heap.size := HY2.out.lt
  have hxs2 : w.heap.size < W2.heap.size := HX2.out.lt
  clear hb2 hx2 hy2 hz2
  go_wp2_with fail
  refine (unhide HFD _ HKG2.out HTG2.out).mono ?_
  rintro e' W3 ⟨rfl, hb3⟩
  have HX3 := hid_mk (HX2.out.call hb3)
  have HY3 := hid_mk (HY2.out.call hb3)
  have HZ3 := hid_mk (HZ2.out.call hb3)
  have HB3 := hid_mk (HB2.out.trans (hb3.mono HB2.out.size))
  have HKG3 : Hid (∀ b, G b → b < W3.heap.size) := hid_mk (fun b h => Nat.lt_of_lt_of_le (HG.out b h) HB3.out.size)
  have HTG3 := hid_mk (tensAt_keep HT.out (fun b h => h) (kept_below HB3.out HG.out))
  have hx3 := HX3.out
  have hy3 := HY3.out
  have hz3 := HZ3.out
  (have x30 : W3.cell? ⟨w.heap.size, 0, none⟩ = some (.slice (A) (s).tens.length (c)) := hx3.cell 0; have x31 : W3.cell? ⟨w.heap.size, 1, none⟩ = some (.int .i64 (s).serial) := hx3.cell 1; have x3f : ∀ i, W3.frozen? ⟨w.heap.size, i, none⟩ = false := hx3.frozen)
  (have y30 : W3.cell? ⟨w.heap.size + 1, 0, none⟩ = some (.int .i64 2) := hy3.cell 0; have y31 : W3.cell? ⟨w.heap.size + 1, 1, none⟩ = some (.string ten) := hy3.cell 1; have y32 : W3.cell? ⟨w.heap.size + 1, 2, none⟩ = some (.int .i64 num) := hy3.cell 2; have y33 : W3.cell? ⟨w.heap.size + 1, 3, none⟩ = some (.int .i64 epoch) := hy3.cell 3; have y34 : W3.cell? ⟨w.heap.size + 1, 4, none⟩ = some (.string txt) := hy3.cell 4; have y3f : ∀ i, W3.frozen? ⟨w.heap.size + 1, i, none⟩ = false := hy3.frozen)
  (have z30 : W3.cell? ⟨w.heap.size + 1 + 1, 0, none⟩ = some (.slice none 0 0) := hz3.cell 0; have z31 : W3.cell? ⟨w.heap.size + 1 + 1, 1, none⟩ = some (.int .i64 0) := hz3.cell 1; have z3f : ∀ i, W3.frozen? ⟨w.heap.size + 1 + 1, i, none⟩ = false := hz3.frozen)
  have hzs3 : w.heap.size + 1 + 1 < W3.heap.size := HZ3.out.lt
  have hys3 : w.heap.size + 1 < W3.heap.size := HY3.out.lt
  have hxs3 : w.heap.size < W3.heap.size := HX3.out.lt
  clear hb3 hx3 hy3 hz3
  have hk3 := HTG3.out
  obtain ⟨b, o, A', c', e1, hg1, hft, hsl, hsn, hks, q0, q1, q2, q3⟩ := tens_at hk3 hi
  have hbw : b < w.heap.size := HG.out b hg1
  have hbw3 : b < W3.heap.size := HKG3.out b hg1
  have hii : (i : Int) < (s.tens.length : Int) := by omega
  have hi0 : ¬ ((i : Int) < 0) := by omega
  subst e1
  have HKS := hid_mk hks
  have HFT := hid_mk hft
  have HSL := hid_mk hsl
  have HSN := hid_mk hsn
  clear hk3 hks hft hsl hsn hlm
  generalize hti : s.tens[i] = t at *
  have HTI := hid_mk hti
  clear hti
  obtain ⟨W4, hW4⟩ : ∃ W4, W4 = W3.alloc (.cells #[.string (t).name, .int .i64 (t).epoch, .int .i64 (t).next, .slice (A') (t).keys.length (c')] 38) := ⟨_, rfl⟩
  have hb4 : Below W3.heap.size W3 W4 := by rw [hW4]; exact (Below.refl _ _).alloc (Nat.le_refl _) _
  have HX4 := hid_mk (HX3.out.call hb4)
  have HY4 := hid_mk (HY3.out.call hb4)
  have HZ4 := hid_mk (HZ3.out.call hb4)
  have HT4 : Hid (Blk W4 W3.heap.size #[.string (t).name, .int .i64 (t).epoch, .int .i64 (t).next, .slice (A') (t).keys.length (c')] 38) := hid_mk (by rw [hW4]; exact Blk.new W3 _ _)
  have HB4 := hid_mk (HB3.out.trans (hb4.mono HB3.out.size))
  have HKG4 : Hid (∀ b, G b → b < W4.heap.size) := hid_mk (fun b h => Nat.lt_of_lt_of_le (HG.out b h) HB4.out.size)
  have HTG4 := hid_mk (tensAt_keep HT.out (fun b h => h) (kept_below HB4.out HG.out))
  have hzs4 : W4.heap.size = W3.heap.size + 1 := by rw [hW4]; simp
  have HS4 := hid_mk hzs4
  have HBL4 := hid_mk hb4
  have HW4 := hid_mk hW4
  clear hb4 hzs4 hW4
  have HKS4 := hid_mk (keysAt_keep HKS.out (fun b h => h) (kept_below HBL4.out HKG3.out))
  go_wp2_with fail
  rw [← HW4.out]
  refine (unhide HKY A' c' W4 HKG4.out HSL.out HKS4.out).mono ?_
  rintro e' W5 ⟨rfl, rfl⟩
  have hx4 := HX4.out
  have hy4 := HY4.out
  have ht4 := HT4.out
  (have x40 : W4.cell? ⟨w.heap.size, 0, none⟩ = some (.slice ((some ⟨b, o, none⟩)) (s).tens.length (c)) := hx4.cell 0; have x41 : W4.cell? ⟨w.heap.size, 1, none⟩ = some (.int .i64 (s).serial) := hx4.cell 1; have x4f : ∀ i, W4.frozen? ⟨w.heap.size, i, none⟩ = false := hx4.frozen)
  (have y40 : W4.cell? ⟨w.heap.size + 1, 0, none⟩ = some (.int .i64 2) := hy4.cell 0; have y41 : W4.cell? ⟨w.heap.size + 1, 1, none⟩ = some (.string ten) := hy4.cell 1; have y42 : W4.cell? ⟨w.heap.size + 1, 2, none⟩ = some (.int .i64 num) := hy4.cell 2; have y43 : W4.cell? ⟨w.heap.size + 1, 3, none⟩ = some (.int .i64 epoch) := hy4.cell 3; have y44 : W4.cell? ⟨w.heap.size + 1, 4, none⟩ = some (.string txt) := hy4.cell 4; have y4f : ∀ i, W4.frozen? ⟨w.heap.size + 1, i, none⟩ = false := hy4.frozen)
  (have t40 : W4.cell? ⟨W3.heap.size, 0, none⟩ = some (.string (t).name) := ht4.cell 0; have t41 : W4.cell? ⟨W3.heap.size, 1, none⟩ = some (.int .i64 (t).epoch) := ht4.cell 1; have t42 : W4.cell? ⟨W3.heap.size, 2, none⟩ = some (.int .i64 (t).next) := ht4.cell 2; have t43 : W4.cell? ⟨W3.heap.size, 3, none⟩ = some (.slice (A') (t).keys.length (c')) := ht4.cell 3; have t4f : ∀ i, W4.frozen? ⟨W3.heap.size, i, none⟩ = false := ht4.frozen)
  have hzs4 : w.heap.size + 1 + 1 < W4.heap.size := HZ4.out.lt
  have hys4 : w.heap.size + 1 < W4.heap.size := HY4.out.lt
  have hxs4 : w.heap.size < W4.heap.size := HX4.out.lt
  have hts4 : W3.heap.size < W4.heap.size := HT4.out.lt
  clear hx4 hy4 ht4
  go_wp2_with fail
  refine (with_any t.keys ⟨num, txt⟩ A' c' G W4 HKG4.out hkl HKX.out htx HKS4.out).mono ?_
  rintro e' W5 ⟨A5, c5, rfl, hf5, hb5, hk5⟩
  have HKL : Hid ((Rn.withK t.keys ⟨num, txt⟩).length ≤ maxLen) := hid_mk (with_len hkl)
  have HX5 := hid_mk (HX4.out.call hb5)
  have HZ5 := hid_mk (HZ4.out.call hb5)
  have HT5 := hid_mk (HT4.out.call hb5)
  have HB5 := hid_mk (HB4.out.trans (hb5.mono HB4.out.size))
  have HF5 := hid_mk hf5
  have HK5 := hid_mk hk5
  have HSZ := hid_mk hb5.size
  have hx5 := HX5.out
  have ht5 := HT5.out
  (have x50 : W5.cell? ⟨w.heap.size, 0, none⟩ = some (.slice ((some ⟨b, o, none⟩)) (s).tens.length (c)) := hx5.cell 0; have x51 : W5.cell? ⟨w.heap.size, 1, none⟩ = some (.int .i64 (s).serial) := hx5.cell 1; have x5f : ∀ i, W5.frozen? ⟨w.heap.size, i, none⟩ = false := hx5.frozen)
  (have t50 : W5.cell? ⟨W3.heap.size, 0, none⟩ = some (.string (t).name) := ht5.cell 0; have t51 : W5.cell? ⟨W3.heap.size, 1, none⟩ = some (.int .i64 (t).epoch) := ht5.cell 1; have t52 : W5.cell? ⟨W3.heap.size, 2, none⟩ = some (.int .i64 (t).next) := ht5.cell 2; have t53 : W5.cell? ⟨W3.heap.size, 3, none⟩ = some (.slice (A') (t).keys.length (c')) := ht5.cell 3; have t5f : ∀ i, W5.frozen? ⟨W3.heap.size, i, none⟩ = false := ht5.frozen)
  clear hf5 hb5 hk5 hx5 ht5
  obtain ⟨ks', hks'⟩ : ∃ ks', ks' = Rn.withK t.keys ⟨num, txt⟩ := ⟨_, rfl⟩
  have HKK := hid_mk hks'
  rw [← hks'] at HF5 HK5 ⊢
  clear hks'
  go_wp2_with fail
  obtain ⟨U, hU⟩ : ∃ U, U = W5.setCell ⟨W3.heap.size, 3, none⟩ (.slice A5 ks'.length c5) := ⟨_, rfl⟩
  rw [← hU]
  have hUb : ∀ b, b ≠ W3.heap.size → U.heap[b]? = W5.heap[b]? := fun b hb => by rw [hU]; exact Below.heap_setCell W5 _ _ b hb
  have hUs : U.heap.size = W5.heap.size := by rw [hU]; simp
  have HBU : Hid (Below w.heap.size w U) := hid_mk (by rw [hU]; exact HB5.out.setCell (by show w.heap.size ≤ W3.heap.size; omega) _)
  have HZU : Hid (Blk U (w.heap.size + 1 + 1) #[.slice none 0 0, .int .i64 0] 24) := hid_mk ((hUb _ (by omega)).trans HZ5.out)
  have hGU : ∀ b, G b ∨ (W4.heap.size ≤ b ∧ b < W5.heap.size) → b < U.heap.size := fun b h => by
    rw [hUs]
    rcases h with h | h
    · exact Nat.lt_of_lt_of_le (HG.out b h) HB5.out.size
    · exact h.2
  have hTU : TensAt (fun b => G b ∨ (W4.heap.size ≤ b ∧ b < W5.heap.size)) U (some ⟨b, o, none⟩) s.tens := tensAt_keep HT.out (fun b h => Or.inl h) (kept_below HBU.out HG.out)
  have hTN : tenR (fun b => G b ∨ (W4.heap.size ≤ b ∧ b < W5.heap.size)) U ⟨t.name, t.epoch, t.next, ks'⟩ [.string t.name, .int .i64 t.epoch, .int .i64 t.next, .slice A5 ks'.length c5] := ⟨A5, c5, rfl, HF5.out, by rw [HKK.out]; exact HKL.out, HSN.out, keysAt_keep HK5.out (fun b h => Or.inr h) (fun b h => hUb b (by omega))⟩
  have HGU := hid_mk hGU
  have HTU := hid_mk hTU
  have HTN := hid_mk hTN
  have HUS := hid_mk hUs
  clear hUb hGU hTU hTN hUs
  refine (put_any s ⟨t.name, t.epoch, t.next, ks'⟩ _ A5 c c5 (fun b => G b ∨ (W4.heap.size ≤ b ∧ b < W5.heap.size)) U HGU.out hl HTU.out HTN.out).mono ?_
  rintro e' W9 ⟨A9, c9, rfl, hf9, hb9, hT9⟩
  have HZ9 := hid_mk (HZU.out.call hb9)
  have HF9 := hid_mk hf9
  have HB9 := hid_mk hb9
  have HT9 := hid_mk hT9
  clear hf9 hb9 hT9
  go_wp2_with (refine store_row 24 rfl _ _ rfl (w.heap.size + 1 + 1) _ _ 24 HZ9.out rfl rfl (by kernel_rfl) rfl rfl ?_)
  refine ret_row_tmp rfl (w.heap.size + 1 + 1) #[.slice (A9) ((⟨Rn.putT s.tens ⟨t.name, t.epoch, t.next, ks'⟩, s.serial⟩ : Rn.S)).tens.length (c9), .int .i64 ((⟨Rn.putT s.tens ⟨t.name, t.epoch, t.next, ks'⟩, s.serial⟩ : Rn.S)).serial] 24 (.int .i64 0) (HZ9.out.row) rfl rfl _ Try.underlying24 rfl ?_ rfl ?_
  · kernel_rfl
  · exact by have e := HTI.out; subst e; have e2 := HKK.out; subst e2; exact retSE_ok (s := ⟨Rn.putT s.tens ⟨s.tens[i].name, s.tens[i].epoch, s.tens[i].next, _⟩, s.serial⟩) (A := A9) (c := c9) HG.out HBU.out HZU.out.lt (fun b h => h.imp id (fun h => ⟨by omega, by rw [HUS.out]; exact h.2⟩)) HF9.out HB9.out HT9.out
theorem rap_drop (s : Rn.S) (ten txt : ByteArray) (num epoch : Int) (hen : ten.size ≤ maxLen) (htx : txt.size ≤ maxLen) (A : Option Addr) (c : Nat) (G : Nat → Prop) (w : World) (hG : ∀ b, G b → b < w.heap.size) (hl : s.tens.length ≤ 1000) (hT : TensAt G w A s.tens) (hr : Rn.right s = true) (hf : Rn.form ⟨3, ten, num, epoch, txt⟩ = true) (i : Nat) (hi : i < s.tens.length) (hat : findI s.tens ten = (i : Int)) (k : Nat) (hk : keyI s.tens[i].keys num = (k : Int)) (hkk : k < s.tens[i].keys.length) (hkl : s.tens[i].keys.length ≤ 1000) :
    Calls Try.prog 12 #[.agg #[.slice (A) (s).tens.length (c), .int .i64 (s).serial], .agg #[.int .i64 3, .string ten, .int .i64 num, .int .i64 epoch, .string txt]] w (RetSE G (.ok ⟨Rn.putT s.tens ⟨s.tens[i].name, s.tens[i].epoch, s.tens[i].next, s.tens[i].keys.take k ++ s.tens[i].keys.drop (k + 1)⟩, s.serial⟩) w) := by
  have HG := hid_mk hG
  have HT := hid_mk hT
  have hlm : s.tens.length ≤ maxLen := by unfold maxLen; omega
  obtain ⟨W0, hW0⟩ : ∃ W0, W0 = (((w.alloc (.cells #[.slice (A) (s).tens.length (c), .int .i64 (s).serial] 24)).alloc (.cells #[.int .i64 3, .string ten, .int .i64 num, .int .i64 epoch, .string txt] 26)).alloc (.cells #[.slice none 0 0, .int .i64 0] 24)) := ⟨_, rfl⟩
  have hb0 : Below w.heap.size w W0 := by rw [hW0]; exact (((Below.refl _ _).alloc (Nat.le_refl _) _).alloc (by simp) _).alloc (by simp; omega) _
  have hx0 : Blk W0 w.heap.size #[.slice (A) (s).tens.length (c), .int .i64 (s).serial] 24 := by rw [hW0]; exact ((Blk.new w _ _).alloc _).alloc _
  have hy0 : Blk W0 (w.heap.size + 1) #[.int .i64 3, .string ten, .int .i64 num, .int .i64 epoch, .string txt] 26 := by rw [hW0]; exact (blk_new (by simp)).alloc _
  have hz0 : Blk W0 (w.heap.size + 1 + 1) #[.slice none 0 0, .int .i64 0] 24 := by rw [hW0]; exact blk_new (by simp)
  have HB0 := hid_mk hb0
  have HX0 := hid_mk hx0
  have HY0 := hid_mk hy0
  have HZ0 := hid_mk hz0
  have HR1 := hide (fun w (hG : ∀ b, G b → b < w.heap.size) (hT : TensAt G w A s.tens) => rright38_any s A c G w hG hlm hT)
  rw [hr] at HR1
  have HKG : Hid (∀ b, G b → b < W0.heap.size) := hid_mk (fun b h => Nat.lt_of_lt_of_le (hG b h) hb0.size)
  have HTG : Hid (TensAt G W0 A s.tens) := hid_mk (tensAt_keep hT (fun b h => h) (kept_below hb0 hG))
  have HF1 := hide (fun w => rform_any ⟨3, ten, num, epoch, txt⟩ w hen)
  rw [hf] at HF1
  have hW := hid_mk hW0
  clear hG hT hb0 hx0 hy0 hz0 hW0 hr hf
  have HFD := hide (fun w (hG : ∀ b, G b → b < w.heap.size) (hT : TensAt G w A s.tens) => rfind_any s A c ten G w hG hlm hT)
  rw [hat] at HFD
  clear hat
  have HKY := hide (fun A' c' w (hG : ∀ b, G b → b < w.heap.size) (hl : s.tens[i].keys.length ≤ maxLen) (hK : KeysAt G w A' s.tens[i].keys) => rkeyI_any s.tens[i].keys A' c' num G w hG hl hK)
  rw [hk] at HKY
  clear hk
  go_enter Try.func12, Try.ntmps12
  go_wp2_with fail
  rw [← hW.out]
  refine (unhide HR1 _ HKG.out HTG.out).mono ?_
  rintro e' W1 ⟨rfl, hb1⟩
  have HX1 := hid_mk (HX0.out.call hb1)
  have HY1 := hid_mk (HY0.out.call hb1)
  have HZ1 := hid_mk (HZ0.out.call hb1)
  have HB1 := hid_mk (HB0.out.trans (hb1.mono HB0.out.size))
  have HKG1 : Hid (∀ b, G b → b < W1.heap.size) := hid_mk (fun b h => Nat.lt_of_lt_of_le (HG.out b h) HB1.out.size)
  have HTG1 := hid_mk (tensAt_keep HT.out (fun b h => h) (kept_below HB1.out HG.out))
  have hx1 := HX1.out
  have hy1 := HY1.out
  have hz1 := HZ1.out
  (have x10 : W1.cell? ⟨w.heap.size, 0, none⟩ = some (.slice (A) (s).tens.length (c)) := hx1.cell 0; have x11 : W1.cell? ⟨w.heap.size, 1, none⟩ = some (.int .i64 (s).serial) := hx1.cell 1; have x1f : ∀ i, W1.frozen? ⟨w.heap.size, i, none⟩ = false := hx1.frozen)
  (have y10 : W1.cell? ⟨w.heap.size + 1, 0, none⟩ = some (.int .i64 3) := hy1.cell 0; have y11 : W1.cell? ⟨w.heap.size + 1, 1, none⟩ = some (.string ten) := hy1.cell 1; have y12 : W1.cell? ⟨w.heap.size + 1, 2, none⟩ = some (.int .i64 num) := hy1.cell 2; have y13 : W1.cell? ⟨w.heap.size + 1, 3, none⟩ = some (.int .i64 epoch) := hy1.cell 3; have y14 : W1.cell? ⟨w.heap.size + 1, 4, none⟩ = some (.string txt) := hy1.cell 4; have y1f : ∀ i, W1.frozen? ⟨w.heap.size + 1, i, none⟩ = false := hy1.frozen)
  (have z10 : W1.cell? ⟨w.heap.size + 1 + 1, 0, none⟩ = some (.slice none 0 0) := hz1.cell 0; have z11 : W1.cell? ⟨w.heap.size + 1 + 1, 1, none⟩ = some (.int .i64 0) := hz1.cell 1; have z1f : ∀ i, W1.frozen? ⟨w.heap.size + 1 + 1, i, none⟩ = false := hz1.frozen)
  have hzs1 : w.heap.size + 1 + 1 < W1.heap.size := HZ1.out.lt
  have hys1 : w.heap.size + 1 < W1.heap.size := HY1.out.lt
  have hxs1 : w.heap.size < W1.heap.size := HX1.out.lt
  clear hb1 hx1 hy1 hz1
  go_wp2_with fail
  refine (unhide HF1 _).mono ?_
  rintro e' W2 ⟨rfl, hb2⟩
  have HX2 := hid_mk (HX1.out.call hb2)
  have HY2 := hid_mk (HY1.out.call hb2)
  have HZ2 := hid_mk (HZ1.out.call hb2)
  have HB2 := hid_mk (HB1.out.trans (hb2.mono HB1.out.size))
  have HKG2 : Hid (∀ b, G b → b < W2.heap.size) := hid_mk (fun b h => Nat.lt_of_lt_of_le (HG.out b h) HB2.out.size)
  have HTG2 := hid_mk (tensAt_keep HT.out (fun b h => h) (kept_below HB2.out HG.out))
  have hx2 := HX2.out
  have hy2 := HY2.out
  have hz2 := HZ2.out
  (have x20 : W2.cell? ⟨w.heap.size, 0, none⟩ = some (.slice (A) (s).tens.length (c)) := hx2.cell 0; have x21 : W2.cell? ⟨w.heap.size, 1, none⟩ = some (.int .i64 (s).serial) := hx2.cell 1; have x2f : ∀ i, W2.frozen? ⟨w.heap.size, i, none⟩ = false := hx2.frozen)
  (have y20 : W2.cell? ⟨w.heap.size + 1, 0, none⟩ = some (.int .i64 3) := hy2.cell 0; have y21 : W2.cell? ⟨w.heap.size + 1, 1, none⟩ = some (.string ten) := hy2.cell 1; have y22 : W2.cell? ⟨w.heap.size + 1, 2, none⟩ = some (.int .i64 num) := hy2.cell 2; have y23 : W2.cell? ⟨w.heap.size + 1, 3, none⟩ = some (.int .i64 epoch) := hy2.cell 3; have y24 : W2.cell? ⟨w.heap.size + 1, 4, none⟩ = some (.string txt) := hy2.cell 4; have y2f : ∀ i, W2.frozen? ⟨w.heap.size + 1, i, none⟩ = false := hy2.frozen)
  (have z20 : W2.cell? ⟨w.heap.size + 1 + 1, 0, none⟩ = some (.slice none 0 0) := hz2.cell 0; have z21 : W2.cell? ⟨w.heap.size + 1 + 1, 1, none⟩ = some (.int .i64 0) := hz2.cell 1; have z2f : ∀ i, W2.frozen? ⟨w.heap.size + 1 + 1, i, none⟩ = false := hz2.frozen)
  have hzs2 : w.heap.size + 1 + 1 < W2.heap.size := HZ2.out.lt
  have hys2 : w.heap.size + 1 < W2.heap.size := HY2.out.lt
  have hxs2 : w.heap.size < W2.heap.size := HX2.out.lt
  clear hb2 hx2 hy2 hz2
  go_wp2_with fail
  refine (unhide HFD _ HKG2.out HTG2.out).mono ?_
  rintro e' W3 ⟨rfl, hb3⟩
  have HX3 := hid_mk (HX2.out.call hb3)
  have HY3 := hid_mk (HY2.out.call hb3)
  have HZ3 := hid_mk (HZ2.out.call hb3)
  have HB3 := hid_mk (HB2.out.trans (hb3.mono HB2.out.size))
  have HKG3 : Hid (∀ b, G b → b < W3.heap.size) := hid_mk (fun b h => Nat.lt_of_lt_of_le (HG.out b h) HB3.out.size)
  have HTG3 := hid_mk (tensAt_keep HT.out (fun b h => h) (kept_below HB3.out HG.out))
  have hx3 := HX3.out
  have hy3 := HY3.out
  have hz3 := HZ3.out
  (have x30 : W3.cell? ⟨w.heap.size, 0, none⟩ = some (.slice (A) (s).tens.length (c)) := hx3.cell 0; have x31 : W3.cell? ⟨w.heap.size, 1, none⟩ = some (.int .i64 (s).serial) := hx3.cell 1; have x3f : ∀ i, W3.frozen? ⟨w.heap.size, i, none⟩ = false := hx3.frozen)
  (have y30 : W3.cell? ⟨w.heap.size + 1, 0, none⟩ = some (.int .i64 3) := hy3.cell 0; have y31 : W3.cell? ⟨w.heap.size + 1, 1, none⟩ = some (.string ten) := hy3.cell 1; have y32 : W3.cell? ⟨w.heap.size + 1, 2, none⟩ = some (.int .i64 num) := hy3.cell 2; have y33 : W3.cell? ⟨w.heap.size + 1, 3, none⟩ = some (.int .i64 epoch) := hy3.cell 3; have y34 : W3.cell? ⟨w.heap.size + 1, 4, none⟩ = some (.string txt) := hy3.cell 4; have y3f : ∀ i, W3.frozen? ⟨w.heap.size + 1, i, none⟩ = false := hy3.frozen)
  (have z30 : W3.cell? ⟨w.heap.size + 1 + 1, 0, none⟩ = some (.slice none 0 0) := hz3.cell 0; have z31 : W3.cell? ⟨w.heap.size + 1 + 1, 1, none⟩ = some (.int .i64 0) := hz3.cell 1; have z3f : ∀ i, W3.frozen? ⟨w.heap.size + 1 + 1, i, none⟩ = false := hz3.frozen)
  have hzs3 : w.heap.size + 1 + 1 < W3.heap.size := HZ3.out.lt
  have hys3 : w.heap.size + 1 < W3.heap.size := HY3.out.lt
  have hxs3 : w.heap.size < W3.heap.size := HX3.out.lt
  clear hb3 hx3 hy3 hz3
  have hk3 := HTG3.out
  obtain ⟨b, o, A', c', e1, hg1, hft, hsl, hsn, hks, q0, q1, q2, q3⟩ := tens_at hk3 hi
  have hbw : b < w.heap.size := HG.out b hg1
  have hbw3 : b < W3.heap.size := HKG3.out b hg1
  have hii : (i : Int) < (s.tens.length : Int) := by omega
  have hi0 : ¬ ((i : Int) < 0) := by omega
  subst e1
  have HKS := hid_mk hks
  have HFT := hid_mk hft
  have HSL := hid_mk hsl
  have HSN := hid_mk hsn
  clear hk3 hks hft hsl hsn hlm
  generalize hti : s.tens[i] = t at *
  have HTI := hid_mk hti
  clear hti
  obtain ⟨W4, hW4⟩ : ∃ W4, W4 = W3.alloc (.cells #[.string (t).name, .int .i64 (t).epoch, .int .i64 (t).next, .slice (A') (t).keys.length (c')] 38) := ⟨_, rfl⟩
  have hb4 : Below W3.heap.size W3 W4 := by rw [hW4]; exact (Below.refl _ _).alloc (Nat.le_refl _) _
  have HX4 := hid_mk (HX3.out.call hb4)
  have HY4 := hid_mk (HY3.out.call hb4)
  have HZ4 := hid_mk (HZ3.out.call hb4)
  have HT4 : Hid (Blk W4 W3.heap.size #[.string (t).name, .int .i64 (t).epoch, .int .i64 (t).next, .slice (A') (t).keys.length (c')] 38) := hid_mk (by rw [hW4]; exact Blk.new W3 _ _)
  have HB4 := hid_mk (HB3.out.trans (hb4.mono HB3.out.size))
  have HKG4 : Hid (∀ b, G b → b < W4.heap.size) := hid_mk (fun b h => Nat.lt_of_lt_of_le (HG.out b h) HB4.out.size)
  have HTG4 := hid_mk (tensAt_keep HT.out (fun b h => h) (kept_below HB4.out HG.out))
  have hzs4 : W4.heap.size = W3.heap.size + 1 := by rw [hW4]; simp
  have HS4 := hid_mk hzs4
  have HBL4 := hid_mk hb4
  have HW4 := hid_mk hW4
  clear hb4 hzs4 hW4
  have HKS4 := hid_mk (keysAt_keep HKS.out (fun b h => h) (kept_below HBL4.out HKG3.out))
  go_wp2_with fail
  rw [← HW4.out]
  refine (unhide HKY A' c' W4 HKG4.out HSL.out HKS4.out).mono ?_
  rintro e' W5 ⟨rfl, rfl⟩
  have hx4 := HX4.out
  have hy4 := HY4.out
  have ht4 := HT4.out
  (have x40 : W4.cell? ⟨w.heap.size, 0, none⟩ = some (.slice ((some ⟨b, o, none⟩)) (s).tens.length (c)) := hx4.cell 0; have x41 : W4.cell? ⟨w.heap.size, 1, none⟩ = some (.int .i64 (s).serial) := hx4.cell 1; have x4f : ∀ i, W4.frozen? ⟨w.heap.size, i, none⟩ = false := hx4.frozen)
  (have y40 : W4.cell? ⟨w.heap.size + 1, 0, none⟩ = some (.int .i64 3) := hy4.cell 0; have y41 : W4.cell? ⟨w.heap.size + 1, 1, none⟩ = some (.string ten) := hy4.cell 1; have y42 : W4.cell? ⟨w.heap.size + 1, 2, none⟩ = some (.int .i64 num) := hy4.cell 2; have y43 : W4.cell? ⟨w.heap.size + 1, 3, none⟩ = some (.int .i64 epoch) := hy4.cell 3; have y44 : W4.cell? ⟨w.heap.size + 1, 4, none⟩ = some (.string txt) := hy4.cell 4; have y4f : ∀ i, W4.frozen? ⟨w.heap.size + 1, i, none⟩ = false := hy4.frozen)
  (have t40 : W4.cell? ⟨W3.heap.size, 0, none⟩ = some (.string (t).name) := ht4.cell 0; have t41 : W4.cell? ⟨W3.heap.size, 1, none⟩ = some (.int .i64 (t).epoch) := ht4.cell 1; have t42 : W4.cell? ⟨W3.heap.size, 2, none⟩ = some (.int .i64 (t).next) := ht4.cell 2; have t43 : W4.cell? ⟨W3.heap.size, 3, none⟩ = some (.slice (A') (t).keys.length (c')) := ht4.cell 3; have t4f : ∀ i, W4.frozen? ⟨W3.heap.size, i, none⟩ = false := ht4.frozen)
  have hzs4 : w.heap.size + 1 + 1 < W4.heap.size := HZ4.out.lt
  have hys4 : w.heap.size + 1 < W4.heap.size := HY4.out.lt
  have hxs4 : w.heap.size < W4.heap.size := HX4.out.lt
  have hts4 : W3.heap.size < W4.heap.size := HT4.out.lt
  clear hx4 hy4 ht4
  obtain ⟨b2, o2, e2, hg2, -, -, -⟩ := keys_at HKS4.out hkk
  have hb24 : b2 < W4.heap.size := HKG4.out b2 hg2
  subst e2
  have hft := HFT.out
  have hkc : t.keys.length ≤ c' := hft.1
  have zk : ∀ p : InB (fun x => Below W4.heap.size W4 x), p.w.cell? ⟨W3.heap.size, 3, none⟩ = some (.slice (some ⟨b2, o2, none⟩) t.keys.length c') := fun p => cell_in p.ok t43
  have hw1 : IntKind.i64.wrap ((k : Int) + 1) = (k : Int) + 1 := by rw [IntKind.wrap_i64]; omega
  have hb1' : (0 : Int) ≤ (k : Int) + 1 := by omega
  have ht1 : ((k : Int) + 1).toNat = k + 1 := by omega
  have hk1 : (k : Int) ≤ (c' : Int) := by omega
  have hk2 : (k : Int) + 1 ≤ (t.keys.length : Int) := by omega
  have hk3 : k ≤ c' := by omega
  have hk4 : k + 1 ≤ t.keys.length := by omega
  have hcc : ¬ (c' = k) := by omega
  have hk5 : (k : Int) ≤ (k : Int) + 1 := by omega
  have hk6 : (k : Int) + 1 ≤ (c' : Int) := by omega
  clear hft


  obtain ⟨i0, hi0', hz0, hz1, hz2⟩ := info_parts key_info
  have HOW0 : Hid ((W4.alloc (.cells #[] 44)).drew.ownsRow W4.heap.size 44 2 (.slice (some ⟨W4.heap.size, 0, none⟩) 0 0) 0 []) := hid_mk (World.ownsRow_made W4 #[] 0 (Nat.le_refl _) (Nat.zero_le _) rfl)
  have HNA : Hid (∀ V, Below W4.heap.size W4 V → ∀ j u, ((t.keys.take k).flatMap keyV)[j]? = some u → V.cell? ((⟨b2, o2, none⟩ : Addr).add j) = some u) := hid_mk (fun V hb j u hj => by
    have h := rows_news (row := keyV) (fun _ => rfl) (fun x cs h => h.1) (keysAt_keep HKS4.out (fun b h => h) (kept_below hb HKG4.out)) 0 k j u (by simpa using hj)
    simpa using h)
  have HNB : Hid (∀ V, Below W4.heap.size W4 V → ∀ j u, ((t.keys.drop (k + 1)).flatMap keyV)[j]? = some u → V.cell? ((⟨b2, o2 + (k + 1) * 2, none⟩ : Addr).add j) = some u) := hid_mk (fun V hb j u hj => by
    have h := rows_news (row := keyV) (fun _ => rfl) (fun x cs h => h.1) (keysAt_keep HKS4.out (fun b h => h) (kept_below hb HKG4.out)) (k + 1) (t.keys.length - (k + 1)) j u (by rw [List.take_of_length_le (by simp)]; exact hj)
    simpa using h)
  have HND : Hid (c' = k + 1 → t.keys.drop (k + 1) = []) := hid_mk (fun h => List.drop_eq_nil_of_le (by omega))
  have HKX : Hid (∀ x ∈ t.keys.take k ++ t.keys.drop (k + 1), x.txt.size ≤ maxLen) := hid_mk (fun x hx => by
    have hx2 : x ∈ t.keys := by rcases List.mem_append.1 hx with h | h; exact List.mem_of_mem_take h; exact List.mem_of_mem_drop h
    obtain ⟨j, hj, rfl⟩ := List.mem_iff_getElem.1 hx2
    obtain ⟨_, _, _, _, h, _⟩ := keys_at HKS4.out hj
    exact h)
  have HKL : Hid ((t.keys.take k ++ t.keys.drop (k + 1)).length ≤ maxLen) := hid_mk (by unfold maxLen; simp; omega)
  by_cases hce : c' = k + 1
  · subst hce
    have HND2 := hid_mk (HND.out rfl)
    go_wp2_with fail
    (refine region_leads (S := Meets (fun x => Below W4.heap.size W4 x)) [0, 5, 11] 12 [1, 2, 3, 4, 6, 7, 8, 9, 10] [_, _, _] [_, _, _, _, _, _, _, _, _] (by kernel_rfl) (by kernel_rfl) rfl rfl (fun d v c a w h => by cases d <;> exact h) (meets_mk ?_) ?_)
    · exact (Below.refl _ _).drew
    ((repeat (refine wpReads_step (fun K hK => ?_); go_simp; (first | (refine hK _ ?_; clear hK K) | (apply Exists.intro; refine ⟨fun _ => rfl, hK _ ?_⟩; clear hK K)))); refine wpReads_nil ?_; intro J hJ)
    clear zk
    refine opAt_value (.slice (some ⟨W4.heap.size, 0, none⟩) 0 0) rfl (w' := (W4.alloc (.cells #[] 44)).drew) (by go_simp) ⟨meets_mk ((Below.refl _ _).alloc (Nat.le_refl _) _).drew, ?_⟩
    refine opAt_append_own rfl _ _ 36 rfl W4.heap.size 44 i0 _ 2 24 Try.underlying36 hi0' hz0 hz1 hz2 rfl (by decide) _ 0 [] rfl HOW0.out ⟨b2, o2, none⟩ k (k + 1) ((t.keys.take k).flatMap keyV) rfl ?_ (fun j u hj => HNA.out _ ((Below.refl _ _).alloc (Nat.le_refl _) _).drew j u hj) ?_ ?_ ?_ ?_ ?_
    · rw [flatK_len]; simp; omega
    · exact flatK_one _
    · unfold maxLen; omega
    · omega
    · simp
    intro v1 w1 hown1 hgr1 hnil1 hat1
    obtain ⟨Av1, cv1, rfl⟩ := own_slice hown1
    have hb41 : Below W4.heap.size W4 w1 := (((Below.refl _ _).alloc (Nat.le_refl _) _).drew).grown hgr1 (by simp) (fun g hg => by cases hg; exact Nat.le_refl _)
    refine ⟨meets_mk hb41, ?_⟩
    have hz41 := hb41.size
    refine opAt_append_own rfl _ _ 36 rfl W4.heap.size 44 i0 _ 2 24 Try.underlying36 hi0' hz0 hz1 hz2 rfl (by decide) _ (0 + k) _ rfl hown1 ⟨b2, o2, none⟩ 0 _ ((t.keys.drop (k + 1)).flatMap keyV) rfl ?_ (fun j u hj => (by rw [HND2.out] at hj; simp at hj)) ?_ ?_ ?_ ?_ ?_
    · rw [HND2.out]; rfl
    · exact flatK_one _
    · unfold maxLen; omega
    · omega
    · omega
    intro v2 W5 hown2 hgr2 hnil2 hat2
    have hb5 : Below W4.heap.size W4 W5 := hb41.grown hgr2 (by omega) (fun g hg => (hown1.lt g hg).1)
    obtain ⟨A5, c5, rfl, hf5, hk5⟩ := keys_own HKX.out hown2 (show 0 + k + 0 = (t.keys.take k ++ t.keys.drop (k + 1)).length by simp; omega) (by rw [List.flatMap_append]; simp)
    refine ⟨meets_mk hb5, hJ _ _ (meets_mk hb5) ?_⟩
    simp only [List.drop_succ_cons, List.drop_zero]
    clear hJ hown1 hown2 hgr1 hgr2 hnil1 hnil2 hat1 hat2 hb41 hz41 HNA HNB HOW0 HND HND2
    have HX5 := hid_mk (HX4.out.call hb5)
    have HZ5 := hid_mk (HZ4.out.call hb5)
    have HT5 := hid_mk (HT4.out.call hb5)
    have HB5 := hid_mk (HB4.out.trans (hb5.mono HB4.out.size))
    have HF5 := hid_mk hf5
    have HK5 := hid_mk hk5
    have HSZ := hid_mk hb5.size
    have hx5 := HX5.out
    have ht5 := HT5.out
    (have x50 : W5.cell? ⟨w.heap.size, 0, none⟩ = some (.slice ((some ⟨b, o, none⟩)) (s).tens.length (c)) := hx5.cell 0; have x51 : W5.cell? ⟨w.heap.size, 1, none⟩ = some (.int .i64 (s).serial) := hx5.cell 1; have x5f : ∀ i, W5.frozen? ⟨w.heap.size, i, none⟩ = false := hx5.frozen)
    (have t50 : W5.cell? ⟨W3.heap.size, 0, none⟩ = some (.string (t).name) := ht5.cell 0; have t51 : W5.cell? ⟨W3.heap.size, 1, none⟩ = some (.int .i64 (t).epoch) := ht5.cell 1; have t52 : W5.cell? ⟨W3.heap.size, 2, none⟩ = some (.int .i64 (t).next) := ht5.cell 2; have t53 : W5.cell? ⟨W3.heap.size, 3, none⟩ = some (.slice ((some ⟨b2, o2, none⟩)) (t).keys.length ((k + 1))) := ht5.cell 3; have t5f : ∀ i, W5.frozen? ⟨W3.heap.size, i, none⟩ = false := ht5.frozen)
    clear hf5 hb5 hk5 hx5 ht5
    obtain ⟨ks', hks'⟩ : ∃ ks', ks' = t.keys.take k ++ t.keys.drop (k + 1) := ⟨_, rfl⟩
    have HKK := hid_mk hks'
    rw [← hks'] at HF5 HK5 ⊢
    clear hks'
    go_wp2_with fail
    obtain ⟨U, hU⟩ : ∃ U, U = W5.setCell ⟨W3.heap.size, 3, none⟩ (.slice A5 ks'.length c5) := ⟨_, rfl⟩
    rw [← hU]
    have hUb : ∀ b, b ≠ W3.heap.size → U.heap[b]? = W5.heap[b]? := fun b hb => by rw [hU]; exact Below.heap_setCell W5 _ _ b hb
    have hUs : U.heap.size = W5.heap.size := by rw [hU]; simp
    have HBU : Hid (Below w.heap.size w U) := hid_mk (by rw [hU]; exact HB5.out.setCell (by show w.heap.size ≤ W3.heap.size; omega) _)
    have HZU : Hid (Blk U (w.heap.size + 1 + 1) #[.slice none 0 0, .int .i64 0] 24) := hid_mk ((hUb _ (by omega)).trans HZ5.out)
    have hGU : ∀ b, G b ∨ (W4.heap.size ≤ b ∧ b < W5.heap.size) → b < U.heap.size := fun b h => by
      rw [hUs]
      rcases h with h | h
      · exact Nat.lt_of_lt_of_le (HG.out b h) HB5.out.size
      · exact h.2
    have hTU : TensAt (fun b => G b ∨ (W4.heap.size ≤ b ∧ b < W5.heap.size)) U (some ⟨b, o, none⟩) s.tens := tensAt_keep HT.out (fun b h => Or.inl h) (kept_below HBU.out HG.out)
    have hTN : tenR (fun b => G b ∨ (W4.heap.size ≤ b ∧ b < W5.heap.size)) U ⟨t.name, t.epoch, t.next, ks'⟩ [.string t.name, .int .i64 t.epoch, .int .i64 t.next, .slice A5 ks'.length c5] := ⟨A5, c5, rfl, HF5.out, by rw [HKK.out]; exact HKL.out, HSN.out, keysAt_keep HK5.out (fun b h => Or.inr h) (fun b h => hUb b (by omega))⟩
    have HGU := hid_mk hGU
    have HTU := hid_mk hTU
    have HTN := hid_mk hTN
    have HUS := hid_mk hUs
    clear hUb hGU hTU hTN hUs
    refine (put_any s ⟨t.name, t.epoch, t.next, ks'⟩ _ A5 c c5 (fun b => G b ∨ (W4.heap.size ≤ b ∧ b < W5.heap.size)) U HGU.out hl HTU.out HTN.out).mono ?_
    rintro e' W9 ⟨A9, c9, rfl, hf9, hb9, hT9⟩
    have HZ9 := hid_mk (HZU.out.call hb9)
    have HF9 := hid_mk hf9
    have HB9 := hid_mk hb9
    have HT9 := hid_mk hT9
    clear hf9 hb9 hT9
    go_wp2_with (refine store_row 24 rfl _ _ rfl (w.heap.size + 1 + 1) _ _ 24 HZ9.out rfl rfl (by kernel_rfl) rfl rfl ?_)
    refine ret_row_tmp rfl (w.heap.size + 1 + 1) #[.slice (A9) ((⟨Rn.putT s.tens ⟨t.name, t.epoch, t.next, ks'⟩, s.serial⟩ : Rn.S)).tens.length (c9), .int .i64 ((⟨Rn.putT s.tens ⟨t.name, t.epoch, t.next, ks'⟩, s.serial⟩ : Rn.S)).serial] 24 (.int .i64 0) (HZ9.out.row) rfl rfl _ Try.underlying24 rfl ?_ rfl ?_
    · kernel_rfl
    · exact by have e := HTI.out; subst e; have e2 := HKK.out; subst e2; exact retSE_ok (s := ⟨Rn.putT s.tens ⟨s.tens[i].name, s.tens[i].epoch, s.tens[i].next, _⟩, s.serial⟩) (A := A9) (c := c9) HG.out HBU.out HZU.out.lt (fun b h => h.imp id (fun h => ⟨by omega, by rw [HUS.out]; exact h.2⟩)) HF9.out HB9.out HT9.out
  · have HND2 := hid_mk True.intro
    go_wp2_with fail
    (refine region_leads (S := Meets (fun x => Below W4.heap.size W4 x)) [0, 5, 11] 12 [1, 2, 3, 4, 6, 7, 8, 9, 10] [_, _, _] [_, _, _, _, _, _, _, _, _] (by kernel_rfl) (by kernel_rfl) rfl rfl (fun d v c a w h => by cases d <;> exact h) (meets_mk ?_) ?_)
    · exact (Below.refl _ _).drew
    ((repeat (refine wpReads_step (fun K hK => ?_); go_simp; (first | (refine hK _ ?_; clear hK K) | (apply Exists.intro; refine ⟨fun _ => rfl, hK _ ?_⟩; clear hK K)))); refine wpReads_nil ?_; intro J hJ)
    clear zk
    refine opAt_value (.slice (some ⟨W4.heap.size, 0, none⟩) 0 0) rfl (w' := (W4.alloc (.cells #[] 44)).drew) (by go_simp) ⟨meets_mk ((Below.refl _ _).alloc (Nat.le_refl _) _).drew, ?_⟩
    refine opAt_append_own rfl _ _ 36 rfl W4.heap.size 44 i0 _ 2 24 Try.underlying36 hi0' hz0 hz1 hz2 rfl (by decide) _ 0 [] rfl HOW0.out ⟨b2, o2, none⟩ k c' ((t.keys.take k).flatMap keyV) rfl ?_ (fun j u hj => HNA.out _ ((Below.refl _ _).alloc (Nat.le_refl _) _).drew j u hj) ?_ ?_ ?_ ?_ ?_
    · rw [flatK_len]; simp; omega
    · exact flatK_one _
    · unfold maxLen; omega
    · omega
    · simp
    intro v1 w1 hown1 hgr1 hnil1 hat1
    obtain ⟨Av1, cv1, rfl⟩ := own_slice hown1
    have hb41 : Below W4.heap.size W4 w1 := (((Below.refl _ _).alloc (Nat.le_refl _) _).drew).grown hgr1 (by simp) (fun g hg => by cases hg; exact Nat.le_refl _)
    refine ⟨meets_mk hb41, ?_⟩
    have hz41 := hb41.size
    refine opAt_append_own rfl _ _ 36 rfl W4.heap.size 44 i0 _ 2 24 Try.underlying36 hi0' hz0 hz1 hz2 rfl (by decide) _ (0 + k) _ rfl hown1 ⟨b2, o2 + (k + 1) * 2, none⟩ (t.keys.length - (k + 1)) _ ((t.keys.drop (k + 1)).flatMap keyV) rfl ?_ (fun j u hj => HNB.out _ hb41 j u hj) ?_ ?_ ?_ ?_ ?_
    · rw [flatK_len]; simp
    · exact flatK_one _
    · unfold maxLen; omega
    · omega
    · omega
    intro v2 W5 hown2 hgr2 hnil2 hat2
    have hb5 : Below W4.heap.size W4 W5 := hb41.grown hgr2 (by omega) (fun g hg => (hown1.lt g hg).1)
    obtain ⟨A5, c5, rfl, hf5, hk5⟩ := keys_own HKX.out hown2 (show 0 + k + (t.keys.length - (k + 1)) = (t.keys.take k ++ t.keys.drop (k + 1)).length by simp; omega) (by rw [List.flatMap_append]; simp)
    refine ⟨meets_mk hb5, hJ _ _ (meets_mk hb5) ?_⟩
    simp only [List.drop_succ_cons, List.drop_zero]
    clear hJ hown1 hown2 hgr1 hgr2 hnil1 hnil2 hat1 hat2 hb41 hz41 HNA HNB HOW0 HND HND2
    have HX5 := hid_mk (HX4.out.call hb5)
    have HZ5 := hid_mk (HZ4.out.call hb5)
    have HT5 := hid_mk (HT4.out.call hb5)
    have HB5 := hid_mk (HB4.out.trans (hb5.mono HB4.out.size))
    have HF5 := hid_mk hf5
    have HK5 := hid_mk hk5
    have HSZ := hid_mk hb5.size
    have hx5 := HX5.out
    have ht5 := HT5.out
    (have x50 : W5.cell? ⟨w.heap.size, 0, none⟩ = some (.slice ((some ⟨b, o, none⟩)) (s).tens.length (c)) := hx5.cell 0; have x51 : W5.cell? ⟨w.heap.size, 1, none⟩ = some (.int .i64 (s).serial) := hx5.cell 1; have x5f : ∀ i, W5.frozen? ⟨w.heap.size, i, none⟩ = false := hx5.frozen)
    (have t50 : W5.cell? ⟨W3.heap.size, 0, none⟩ = some (.string (t).name) := ht5.cell 0; have t51 : W5.cell? ⟨W3.heap.size, 1, none⟩ = some (.int .i64 (t).epoch) := ht5.cell 1; have t52 : W5.cell? ⟨W3.heap.size, 2, none⟩ = some (.int .i64 (t).next) := ht5.cell 2; have t53 : W5.cell? ⟨W3.heap.size, 3, none⟩ = some (.slice ((some ⟨b2, o2, none⟩)) (t).keys.length (c')) := ht5.cell 3; have t5f : ∀ i, W5.frozen? ⟨W3.heap.size, i, none⟩ = false := ht5.frozen)
    clear hf5 hb5 hk5 hx5 ht5
    obtain ⟨ks', hks'⟩ : ∃ ks', ks' = t.keys.take k ++ t.keys.drop (k + 1) := ⟨_, rfl⟩
    have HKK := hid_mk hks'
    rw [← hks'] at HF5 HK5 ⊢
    clear hks'
    go_wp2_with fail
    obtain ⟨U, hU⟩ : ∃ U, U = W5.setCell ⟨W3.heap.size, 3, none⟩ (.slice A5 ks'.length c5) := ⟨_, rfl⟩
    rw [← hU]
    have hUb : ∀ b, b ≠ W3.heap.size → U.heap[b]? = W5.heap[b]? := fun b hb => by rw [hU]; exact Below.heap_setCell W5 _ _ b hb
    have hUs : U.heap.size = W5.heap.size := by rw [hU]; simp
    have HBU : Hid (Below w.heap.size w U) := hid_mk (by rw [hU]; exact HB5.out.setCell (by show w.heap.size ≤ W3.heap.size; omega) _)
    have HZU : Hid (Blk U (w.heap.size + 1 + 1) #[.slice none 0 0, .int .i64 0] 24) := hid_mk ((hUb _ (by omega)).trans HZ5.out)
    have hGU : ∀ b, G b ∨ (W4.heap.size ≤ b ∧ b < W5.heap.size) → b < U.heap.size := fun b h => by
      rw [hUs]
      rcases h with h | h
      · exact Nat.lt_of_lt_of_le (HG.out b h) HB5.out.size
      · exact h.2
    have hTU : TensAt (fun b => G b ∨ (W4.heap.size ≤ b ∧ b < W5.heap.size)) U (some ⟨b, o, none⟩) s.tens := tensAt_keep HT.out (fun b h => Or.inl h) (kept_below HBU.out HG.out)
    have hTN : tenR (fun b => G b ∨ (W4.heap.size ≤ b ∧ b < W5.heap.size)) U ⟨t.name, t.epoch, t.next, ks'⟩ [.string t.name, .int .i64 t.epoch, .int .i64 t.next, .slice A5 ks'.length c5] := ⟨A5, c5, rfl, HF5.out, by rw [HKK.out]; exact HKL.out, HSN.out, keysAt_keep HK5.out (fun b h => Or.inr h) (fun b h => hUb b (by omega))⟩
    have HGU := hid_mk hGU
    have HTU := hid_mk hTU
    have HTN := hid_mk hTN
    have HUS := hid_mk hUs
    clear hUb hGU hTU hTN hUs
    refine (put_any s ⟨t.name, t.epoch, t.next, ks'⟩ _ A5 c c5 (fun b => G b ∨ (W4.heap.size ≤ b ∧ b < W5.heap.size)) U HGU.out hl HTU.out HTN.out).mono ?_
    rintro e' W9 ⟨A9, c9, rfl, hf9, hb9, hT9⟩
    have HZ9 := hid_mk (HZU.out.call hb9)
    have HF9 := hid_mk hf9
    have HB9 := hid_mk hb9
    have HT9 := hid_mk hT9
    clear hf9 hb9 hT9
    go_wp2_with (refine store_row 24 rfl _ _ rfl (w.heap.size + 1 + 1) _ _ 24 HZ9.out rfl rfl (by kernel_rfl) rfl rfl ?_)
    refine ret_row_tmp rfl (w.heap.size + 1 + 1) #[.slice (A9) ((⟨Rn.putT s.tens ⟨t.name, t.epoch, t.next, ks'⟩, s.serial⟩ : Rn.S)).tens.length (c9), .int .i64 ((⟨Rn.putT s.tens ⟨t.name, t.epoch, t.next, ks'⟩, s.serial⟩ : Rn.S)).serial] 24 (.int .i64 0) (HZ9.out.row) rfl rfl _ Try.underlying24 rfl ?_ rfl ?_
    · kernel_rfl
    · exact by have e := HTI.out; subst e; have e2 := HKK.out; subst e2; exact retSE_ok (s := ⟨Rn.putT s.tens ⟨s.tens[i].name, s.tens[i].epoch, s.tens[i].next, _⟩, s.serial⟩) (A := A9) (c := c9) HG.out HBU.out HZU.out.lt (fun b h => h.imp id (fun h => ⟨by omega, by rw [HUS.out]; exact h.2⟩)) HF9.out HB9.out HT9.out
end Go.Proofs.Ytgcgilcalmefgaa
